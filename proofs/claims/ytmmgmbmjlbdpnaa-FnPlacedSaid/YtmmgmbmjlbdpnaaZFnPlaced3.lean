/- Texts of a row. -/
import Derived.Test.YtmmgmbmjlbdpnaaZFnPlaced0
import Derived.Deep.RegionLaw
import Derived.Lib.SliceRun
import Derived.Laws.Externs
import Derived.Lib.Bytealg
import Derived.Laws.CopyOwn
import Derived.Lib.Overlaps
import Derived.Lib.AppendZerosOnto
import Derived.Laws.AppendOwn
import Derived.Test.YtmmgmbmjlbdpnaaZFnPlaced1
import Derived.Test.YtmmgmbmjlbdpnaaProg
import Derived.Below
import Derived.Deep.Draws
import Derived.Deep.AppendLies
import Derived.Maps.AppendAt
import Derived.OwnWalk
import Derived.Laws.BytesArg
import Derived.Laws.MakeOwn
import Derived.Laws.OwnMore
import Derived.Deep.OwnRows
import Derived.Tactics
import Derived.Lib.ConvBytes
import Derived.Laws.Slices
import Derived.WalkKit
import Derived.KernelRfl
import Derived.RowKit3
import Derived.Deep.LoopGhost
import Derived.Deep.QuietTactic
import Derived.BigQuiet
import Derived.WideLaws
import Derived.Deep.DeepCutAuto
import Derived.Deep.CutBlock
import Derived.Deep.RegionHeld3
import Derived.Laws.Rows
import Derived.Lib.AppendStr
import Derived.ArgAppend
import Derived.Laws.IdiomCopy
import Derived.OrdersHeld
import Derived.Laws.BitsLemmas
import Derived.RowKit
import Derived.Laws.Cover1
import Derived.Test.YtmmgmbmjlbdpnaaZFnPlaced2
namespace Go.Proofs.YtmmgmbmjlbdpnaaW.PrintWords
open Go.RowKit
namespace Kd
section
variable {P : Program} {α : Type}
end
end Kd
end Go.Proofs.YtmmgmbmjlbdpnaaW.PrintWords
namespace Go.Proofs.YtmmgmbmjlbdpnaaW.PrintLast
open Go.RowKit Go.Proofs.YtmmgmbmjlbdpnaaW.PrintWords
def bz (n m : Nat) : Array Bool := ((List.range n).map fun i => m.testBit i).toArray
section
variable {P : Program} {ops : Array Oper} {Q : Exit → Act → World → Prop} {md : Region.Mode} {S : World → Prop} {ds : List Nat}
theorem pureA (i : Nat) (N : Tmp) {oi : Oper} {v : Value} {fuel : Nat} {l : Array Bool} {a : Act} {w : World} (l' : Array Bool) {a' : Act} (hi : ops[i]? = some oi) (hN : oi.dst = some N) (hc : anyB md ops l l' i = true) (h : wpAnyLast P md ops Q S ds fuel l' a' w)
    (hQ : ∀ c a w, Q (.panic c) (a.put oi.dst v) w → Q (.panic c) a w := by exact fun _ _ _ h => h) (hw : Region.wanted oi (yielded ops a.tmps) = true := by rfl)
    (hy : ∀ w, (execOp a.eval oi).run P w = .ok (.value v) w := by intro w'; go_simp; with_reducible rfl) (ha : a.put (some N) v = a' := by simp only [Act.put, List.setIfInBounds_toArray, List.set_cons_zero, List.set_cons_succ, i64_w, i32_w]; rfl) : wpAnyLast P md ops Q S ds (fuel + 1) l a w :=
  pure_ l' hi hN hc hQ (Or.inl ⟨hw, hy⟩) ha h
theorem takeA (i : Nat) (N : Tmp) {oi : Oper} {v : Value} {fuel : Nat} {l : Array Bool} {a : Act} {w : World} (l' : Array Bool) {a' : Act} (hi : ops[i]? = some oi) (hN : oi.dst = some N) (hc : takeB md ops ds l l' i = true) (hS : S w) (hy : ∀ w, S w → (execOp a.eval oi).run P w = .ok (.value v) w) (h : wpAnyLast P md ops Q S ds fuel l' a' w)
    (hQ : ∀ c a w, Q (.panic c) (a.put oi.dst v) w → Q (.panic c) a w := by exact fun _ _ _ h => h) (hw : Region.wanted oi (yielded ops a.tmps) = true := by rfl)
    (ha : a.put (some N) v = a' := by simp only [Act.put, List.setIfInBounds_toArray, List.set_cons_zero, List.set_cons_succ, i64_w, i32_w]; rfl) : wpAnyLast P md ops Q S ds (fuel + 1) l a w :=
  take_ l' hi hN hc hQ (Or.inl ⟨hw, hy⟩) hS ha h
end
end Go.Proofs.YtmmgmbmjlbdpnaaW.PrintLast
namespace Go.Proofs.YtmmgmbmjlbdpnaaW.PrintWords
open Go.RowKit
end Go.Proofs.YtmmgmbmjlbdpnaaW.PrintWords
namespace Go.Proofs.YtmmgmbmjlbdpnaaW.PrintWords
open Go.RowKit
section
variable {P : Program} {ops : Array Oper} {o : Oper} {a : Act} {Q : Exit → Act → World → Prop} {Kc : Act → World → Prop}
end
end Go.Proofs.YtmmgmbmjlbdpnaaW.PrintWords
namespace Go.Proofs.YtmmgmbmjlbdpnaaW.PrintWords
open Go.RowKit
namespace Kd
section
variable {α : Type} {d : Kd α} {e base : Nat} {ok : Nat → Prop} {W : World} {u : Value} {xs : List α} {PS : Nat → Prop} {L : List Nat}
end
end Kd
end Go.Proofs.YtmmgmbmjlbdpnaaW.PrintWords
namespace Go.Proofs.YtmmgmbmjlbdpnaaW.PrintWords
open Go.RowKit
end Go.Proofs.YtmmgmbmjlbdpnaaW.PrintWords
set_option linter.unusedSimpArgs false
set_option linter.unusedVariables false
namespace Go
end Go
namespace Go.Proofs.YtmmgmbmjlbdpnaaW.PrintWords
open Go.RowKit
namespace Kd
section
variable {P : Program} {α : Type}
def T (d : Kd α) (e : Nat) (W : World) (base : Nat) (ok : Nat → Prop) (g c : Nat) (pre : List α) : Prop :=
  ok g ∧ ∃ inner cur, base ≤ g ∧ W.heap[g]? = some (.cells cur e (0, 0)) ∧ cur.size = c * d.sz ∧ pre.length ≤ c ∧ c ≤ maxLen ∧ cur.toList.take (pre.length * d.sz) = inner ∧ Reps (d.M W base (fun k' => ok k' ∧ some k' ≠ some g)) d.sz pre inner
end
end Kd
end Go.Proofs.YtmmgmbmjlbdpnaaW.PrintWords
namespace Go.Proofs.YtmmgmbmjlbdpnaaW.PrintLast
section
variable {P : Program} {ops : Array Oper} {Q : Exit → Act → World → Prop} {md : Region.Mode} {S T : World → Prop} {ds : List Nat}
end
end Go.Proofs.YtmmgmbmjlbdpnaaW.PrintLast
namespace Go.Proofs.Ytmmgmbmjlbdpnaa.PFnPlaced
open Go.RowKit Go.Proofs.YtmmgmbmjlbdpnaaW.PrintWords Go.Proofs.YtmmgmbmjlbdpnaaW.PrintLast Go.Proofs.YtmmgmbmjlbdpnaaW.PrintMore
attribute [local go_sem] max2_int min2_int max_two min_two max_three min_three max_four min_four   -- for this text's walks alone
set_option linter.unusedVariables false
set_option linter.unusedSimpArgs false
def errW : Option Int → Value
 | none => .nilIface
 | some c => .iface 0 (.int .i64 c)
theorem errW_none : errW none = .nilIface := rfl
theorem errW_some (c : Int) : errW (some c) = .iface 0 (.int .i64 c) := rfl
theorem info36 : (Try.prog.info? 36).map (fun i => (i.zero, i.size, i.bytes)) = some (some (.agg #[(.string ⟨#[]⟩), (.int .i64 0), (.int .i64 0), (.int .i64 0), (.int .i64 0), (.bool false)]), 6, 56) := by kernel_rfl
structure S36 where
 f0 : ByteArray
 f1 : Int
 f2 : Int
 f3 : Int
 f4 : Int
 f5 : Bool
def z36 : S36 := ⟨(⟨#[]⟩ : ByteArray), (0 : Int), (0 : Int), (0 : Int), (0 : Int), false⟩
def k36 : Kd S36 := Kd.iso (Kd.pair Kd.string (Kd.pair (Kd.int .i64) (Kd.pair (Kd.int .i64) (Kd.pair (Kd.int .i64) (Kd.pair (Kd.int .i64) Kd.bool))))) (fun x : S36 => (x.f0, x.f1, x.f2, x.f3, x.f4, x.f5))
theorem k36_open {w : World} {x : S36} {cs : List Value} (h : k36.K w x cs) : cs = [.string x.f0, .int .i64 x.f1, .int .i64 x.f2, .int .i64 x.f3, .int .i64 x.f4, .bool x.f5] := by
 obtain ⟨_, _, rfl, rfl, ⟨_, _, rfl, rfl, ⟨_, _, rfl, rfl, ⟨_, _, rfl, rfl, ⟨_, _, rfl, rfl, rfl⟩⟩⟩⟩⟩ := h
 exact rfl
theorem k36_openM {w : World} {base : Nat} {ok : Nat → Prop} {x : S36} {cs : List Value} (h : k36.M w base ok x cs) : cs = [.string x.f0, .int .i64 x.f1, .int .i64 x.f2, .int .i64 x.f3, .int .i64 x.f4, .bool x.f5] := by
 obtain ⟨_, _, rfl, rfl, ⟨_, _, rfl, rfl, ⟨_, _, rfl, rfl, ⟨_, _, rfl, rfl, ⟨_, _, rfl, rfl, rfl⟩⟩⟩⟩⟩ := h
 exact rfl
theorem k36_mkM (w : World) (base : Nat) (ok : Nat → Prop) (x : S36)  : k36.M w base ok x [.string x.f0, .int .i64 x.f1, .int .i64 x.f2, .int .i64 x.f3, .int .i64 x.f4, .bool x.f5] := ⟨[.string x.f0], [.int .i64 x.f1, .int .i64 x.f2, .int .i64 x.f3, .int .i64 x.f4, .bool x.f5], rfl, rfl, ⟨[.int .i64 x.f1], [.int .i64 x.f2, .int .i64 x.f3, .int .i64 x.f4, .bool x.f5], rfl, rfl, ⟨[.int .i64 x.f2], [.int .i64 x.f3, .int .i64 x.f4, .bool x.f5], rfl, rfl, ⟨[.int .i64 x.f3], [.int .i64 x.f4, .bool x.f5], rfl, rfl, ⟨[.int .i64 x.f4], [.bool x.f5], rfl, rfl, rfl⟩⟩⟩⟩⟩
def rd_T36 (xs : List S36) (i : Int) : S36 := xs.getD i.toNat z36
theorem at_T36 {w : World} {A : Option Addr} {n : Nat} {xs : List S36} (h : Kd.C k36 w A n xs) (i : Int) (h0 : 0 ≤ i) (h1 : i < n) : ∃ ad , A = some ad ∧ w.cell? (ad.add (i.toNat * 6)) = some (.string (rd_T36 xs i).f0) ∧ w.cell? ⟨(ad.add (i.toNat * 6)).block, (ad.add (i.toNat * 6)).off + 1, none⟩ = some (.int .i64 (rd_T36 xs i).f1) ∧ w.cell? ⟨(ad.add (i.toNat * 6)).block, (ad.add (i.toNat * 6)).off + 2, none⟩ = some (.int .i64 (rd_T36 xs i).f2) ∧ w.cell? ⟨(ad.add (i.toNat * 6)).block, (ad.add (i.toNat * 6)).off + 3, none⟩ = some (.int .i64 (rd_T36 xs i).f3) ∧ w.cell? ⟨(ad.add (i.toNat * 6)).block, (ad.add (i.toNat * 6)).off + 4, none⟩ = some (.int .i64 (rd_T36 xs i).f4) ∧ w.cell? ⟨(ad.add (i.toNat * 6)).block, (ad.add (i.toNat * 6)).off + 5, none⟩ = some (.bool (rd_T36 xs i).f5) := by
 obtain ⟨ad, c, e, _, hK, hc0⟩ := Kd.C_get h z36 i h0 h1
 have hc : ∀ j u, c[j]? = some u → w.cell? (ad.add (i.toNat * 6 + j)) = some u := hc0
 obtain rfl := k36_open hK
 exact ⟨ad, e, hc 0 _ rfl, by rw [← add_field _ _ 1 (by omega)]; exact hc 1 _ rfl, by rw [← add_field _ _ 2 (by omega)]; exact hc 2 _ rfl, by rw [← add_field _ _ 3 (by omega)]; exact hc 3 _ rfl, by rw [← add_field _ _ 4 (by omega)]; exact hc 4 _ rfl, by rw [← add_field _ _ 5 (by omega)]; exact hc 5 _ rfl⟩
end Go.Proofs.Ytmmgmbmjlbdpnaa.PFnPlaced
namespace Go.Proofs.Ytmmgmbmjlbdpnaa.PFnPlaced
open Go.RowKit Go.Proofs.YtmmgmbmjlbdpnaaW.PrintWords Go.Proofs.YtmmgmbmjlbdpnaaW.PrintLast Go.Proofs.YtmmgmbmjlbdpnaaW.PrintMore
attribute [local go_sem] max2_int min2_int max_two min_two max_three min_three max_four min_four   -- for this text's walks alone
set_option linter.unusedVariables false
set_option linter.unusedSimpArgs false
theorem eqA24 (d : Nat) (w : World) (x0 y0 : Int) (x1 y1 : Int) (x2 y2 : Int) (x3 y3 : Bool) :
  (Op.equalIn (d + 2) 24 (.agg #[.int .i64 x0, .int .i64 x1, .int .i64 x2, .bool x3]) (.agg #[.int .i64 y0, .int .i64 y1, .int .i64 y2, .bool y3])).run Try.prog w = .ok (x0 == y0 && (x1 == y1 && (x2 == y2 && (x3 == y3)))) w := by
 refine eqA_of Try.underlying24 (by kernel_rfl) ?_
 refine eqf_cons (by rfl) (by go_simp; rfl) (by go_simp; rfl) (by go_simp) ?_
 refine eqf_cons (by rfl) (by go_simp; rfl) (by go_simp; rfl) (by go_simp) ?_
 refine eqf_cons (by rfl) (by go_simp; rfl) (by go_simp; rfl) (by go_simp) ?_
 exact eqf_last (by rfl) (by go_simp; rfl) (by go_simp; rfl) (by go_simp)
end Go.Proofs.Ytmmgmbmjlbdpnaa.PFnPlaced
namespace Go.Proofs.Ytmmgmbmjlbdpnaa.PFnPlaced
open Go.RowKit Go.Proofs.YtmmgmbmjlbdpnaaW.PrintWords Go.Proofs.YtmmgmbmjlbdpnaaW.PrintLast Go.Proofs.YtmmgmbmjlbdpnaaW.PrintMore
attribute [local go_sem] max2_int min2_int max_two min_two max_three min_three max_four min_four   -- for this text's walks alone
set_option linter.unusedVariables false
set_option linter.unusedSimpArgs false
def IsS41 (w0 W : World) (g : Nat) (f0 : List Int) (f1 : Int) (f2 : Int) : Prop := ∃ A0 c0, W.heap[g]? = some (.cells #[.slice A0 f0.length c0, .int .i64 f1, .int .u64 f2] 41 (0, 0)) ∧ w0.heap.size ≤ g ∧ Kd.C (Kd.int .u8) w0 A0 f0.length f0
theorem IsS41.grown {w0 W : World} {g : Nat} {f0 : List Int} {f1 : Int} {f2 : Int} {W1 : World} {row : Option Nat} (h : IsS41 w0 W g f0 f1 f2) (hw : W.grownBy W1 row) (hne : some g ≠ row) : IsS41 w0 W1 g f0 f1 f2 := by
 obtain ⟨A0, c0, hb, hg, hr0⟩ := h
 exact ⟨A0, c0, blk_grown hb hw hne, hg, hr0⟩
theorem IsS41.kept {w0 W : World} {g : Nat} {f0 : List Int} {f1 : Int} {f2 : Int} {W1 : World} {S : Nat → Prop} (h : IsS41 w0 W g f0 f1 f2) (hk : Kept W W1 S) (hne : ¬ S g) : IsS41 w0 W1 g f0 f1 f2 := by
 obtain ⟨A0, c0, hb, hg, hr0⟩ := h
 exact ⟨A0, c0, blk_kept hb hk hne, hg, hr0⟩
theorem IsS41.below {w0 W : World} {g : Nat} {f0 : List Int} {f1 : Int} {f2 : Int} {W1 : World} (h : IsS41 w0 W g f0 f1 f2) (hw : Below W.heap.size W W1) : IsS41 w0 W1 g f0 f1 f2 := h.grown (grown_of_below hw none) (by simp)
theorem IsS41.alloc {w0 W : World} {g : Nat} {f0 : List Int} {f1 : Int} {f2 : Int} (h : IsS41 w0 W g f0 f1 f2) (o : Obj) : IsS41 w0 (W.alloc o) g f0 f1 f2 := h.below (below_alloc (Below.refl _ _) o)
theorem IsS41.drewN {w0 W : World} {g : Nat} {f0 : List Int} {f1 : Int} {f2 : Int} (h : IsS41 w0 W g f0 f1 f2) (m : Nat) : IsS41 w0 (W.drewN m) g f0 f1 f2 := h
theorem IsS41.drew {w0 W : World} {g : Nat} {f0 : List Int} {f1 : Int} {f2 : Int} (h : IsS41 w0 W g f0 f1 f2) : IsS41 w0 W.drew g f0 f1 f2 := h
theorem IsS41.at_ {w0 W : World} {g : Nat} {f0 : List Int} {f1 : Int} {f2 : Int} {w' : World} {m : Nat} (hq : W.drewN m = w') (h : IsS41 w0 W g f0 f1 f2) : IsS41 w0 w' g f0 f1 f2 := by subst hq; exact IsS41.drewN h m
theorem IsS41.apart {w0 W : World} {g : Nat} {f0 : List Int} {f1 : Int} {f2 : Int} {α : Type} {d : Kd α} {e : Nat} {base : Nat} {ok : Nat → Prop} {v : Value} {xs : List α} (h : IsS41 w0 W g f0 f1 f2) (ho : d.R e W base ok v xs) (ht : ∀ q, q ∈ e :: d.E → q ≠ 41) : d.R e W base (fun k => ok k ∧ k ≠ g) v xs := by
 obtain ⟨A0, c0, hb, hg, hr0⟩ := h
 exact Kd.R_types ho hb ht
theorem IsS41.own_ne {w0 W : World} {g : Nat} {f0 : List Int} {f1 : Int} {f2 : Int} {α : Type} {d : Kd α} {e : Nat} {base : Nat} {ok : Nat → Prop} {v : Value} {xs : List α} (h : IsS41 w0 W g f0 f1 f2) (ho : d.R e W base ok v xs) (ht : e ≠ 41) : some g ≠ v.ownBlock := by
 obtain ⟨A0, c0, hb, hg, hr0⟩ := h
 exact Kd.R_ne ho hb ht
theorem IsS41.lt {w0 W : World} {g : Nat} {f0 : List Int} {f1 : Int} {f2 : Int} (h : IsS41 w0 W g f0 f1 f2) : g < W.heap.size := by
 obtain ⟨A0, c0, hb, hg, hr0⟩ := h
 exact blk_lt hb
theorem IsS41.ge {w0 W : World} {g : Nat} {f0 : List Int} {f1 : Int} {f2 : Int} (h : IsS41 w0 W g f0 f1 f2) : w0.heap.size ≤ g := by
 obtain ⟨A0, c0, hb, hg, hr0⟩ := h
 exact hg
theorem IsS41.far {w0 W : World} {g : Nat} {f0 : List Int} {f1 : Int} {f2 : Int} {p : Addr} (h : IsS41 w0 W g f0 f1 f2) (hne : g ≠ p.block) (u : Value) : IsS41 w0 (W.setCell p u) g f0 f1 f2 := by
 obtain ⟨A0, c0, hb, hg, hr0⟩ := h
 exact ⟨A0, c0, blk_far hb hne u, hg, hr0⟩
theorem cellS41_0 {W : World} {g : Nat} {A0 : Option Addr} {c0 : Nat} {f0 : List Int} {f1 : Int} {f2 : Int} (h : W.heap[g]? = some (.cells #[.slice A0 f0.length c0, .int .i64 f1, .int .u64 f2] 41 (0, 0))) : W.cell? ⟨g, 0, none⟩ = some (.slice A0 f0.length c0) := (blk_cell h 0).trans rfl
theorem cellS41_1 {W : World} {g : Nat} {A0 : Option Addr} {c0 : Nat} {f0 : List Int} {f1 : Int} {f2 : Int} (h : W.heap[g]? = some (.cells #[.slice A0 f0.length c0, .int .i64 f1, .int .u64 f2] 41 (0, 0))) : W.cell? ⟨g, 1, none⟩ = some (.int .i64 f1) := (blk_cell h 1).trans rfl
theorem IsS41.set_1 {w0 W : World} {g : Nat} {f0 : List Int} {f1 : Int} {f2 : Int} (h : IsS41 w0 W g f0 f1 f2) (x : Int) : IsS41 w0 (W.setCell ⟨g, 1, none⟩ (.int .i64 x)) g f0 x f2 := by
 obtain ⟨A0, c0, hb, hg, hr0⟩ := h
 exact ⟨A0, c0, by simpa using blk_set hb 1 (.int .i64 x), hg, hr0⟩
theorem cellS41_2 {W : World} {g : Nat} {A0 : Option Addr} {c0 : Nat} {f0 : List Int} {f1 : Int} {f2 : Int} (h : W.heap[g]? = some (.cells #[.slice A0 f0.length c0, .int .i64 f1, .int .u64 f2] 41 (0, 0))) : W.cell? ⟨g, 2, none⟩ = some (.int .u64 f2) := (blk_cell h 2).trans rfl
theorem IsS41.set_2 {w0 W : World} {g : Nat} {f0 : List Int} {f1 : Int} {f2 : Int} (h : IsS41 w0 W g f0 f1 f2) (x : Int) : IsS41 w0 (W.setCell ⟨g, 2, none⟩ (.int .u64 x)) g f0 f1 x := by
 obtain ⟨A0, c0, hb, hg, hr0⟩ := h
 exact ⟨A0, c0, by simpa using blk_set hb 2 (.int .u64 x), hg, hr0⟩
def spec_l1Cur_next.f (s0_0 : List Int) (s0_1 : Int) (s0_2 : Int) : Option (Int × Int × Int) := if s0_1 < (s0_0.length : Int) then (if 0 ≤ s0_1 then (if (wrap64 (s0_1 + 1)) ≤ (s0_0.length : Int) then (some (wrap64 (rd s0_0 s0_1), wrap64 (s0_1 + 1), IntKind.u64.wrap ((IntKind.u64.wrap ((IntKind.u64.wrap (s0_2 * 6364136223846793005)) + (IntKind.u64.wrap (wrap64 (rd s0_0 s0_1))))) + 1442695040888963407))) else (some (wrap64 (Go.bits .and .u64 ((IntKind.u64.wrap ((IntKind.u64.wrap ((IntKind.u64.wrap (s0_2 * 6364136223846793005)) + (IntKind.u64.wrap (wrap64 (rd s0_0 s0_1))))) + 1442695040888963407)) / 1099511627776) 255), wrap64 (s0_1 + 1), IntKind.u64.wrap ((IntKind.u64.wrap ((IntKind.u64.wrap (s0_2 * 6364136223846793005)) + (IntKind.u64.wrap (wrap64 (rd s0_0 s0_1))))) + 1442695040888963407)))) else (none)) else (if (wrap64 (s0_1 + 1)) ≤ (s0_0.length : Int) then (some (0, wrap64 (s0_1 + 1), IntKind.u64.wrap ((IntKind.u64.wrap ((IntKind.u64.wrap (s0_2 * 6364136223846793005)))) + 1442695040888963407))) else (some (wrap64 (Go.bits .and .u64 ((IntKind.u64.wrap ((IntKind.u64.wrap ((IntKind.u64.wrap (s0_2 * 6364136223846793005)))) + 1442695040888963407)) / 1099511627776) 255), wrap64 (s0_1 + 1), IntKind.u64.wrap ((IntKind.u64.wrap ((IntKind.u64.wrap (s0_2 * 6364136223846793005)))) + 1442695040888963407))))
set_option maxHeartbeats 8000000 in
set_option maxRecDepth 100000 in
theorem spec_l1Cur_next.calls (g : Nat) (s0_0 : List Int) (s0_1 : Int) (s0_2 : Int) (r1 : Int) (r2 : Int) (r3 : Int) (w0 w : World) (hI : IsS41 w0 w g s0_0 s0_1 s0_2) (hB : Below w0.heap.size w0 w) (h : spec_l1Cur_next.f s0_0 s0_1 s0_2 = some (r1, r2, r3)) :
  Calls Try.prog 34 #[.pointer (some ⟨g, 0, none⟩)] w fun e w' => e = .returned (.int .i64 r1) ∧ IsS41 w0 w' g s0_0 r2 r3 ∧ Below w0.heap.size w0 w' ∧ KeepBut w w' g none := by
 have HI0 := Aside0.mk hI
 have HK := Aside0.mk (KeepBut.refl w g none)
 have HL := Aside0.mk hB.size
 clear hI
 have HW0 := Aside0.mk hB.size
 have HB := Aside0.mk hB
 clear hB
 have H : (if s0_1 < (s0_0.length : Int) then (if 0 ≤ s0_1 then (if (wrap64 (s0_1 + 1)) ≤ (s0_0.length : Int) then (some (wrap64 (rd s0_0 s0_1), wrap64 (s0_1 + 1), IntKind.u64.wrap ((IntKind.u64.wrap ((IntKind.u64.wrap (s0_2 * 6364136223846793005)) + (IntKind.u64.wrap (wrap64 (rd s0_0 s0_1))))) + 1442695040888963407))) else (some (wrap64 (Go.bits .and .u64 ((IntKind.u64.wrap ((IntKind.u64.wrap ((IntKind.u64.wrap (s0_2 * 6364136223846793005)) + (IntKind.u64.wrap (wrap64 (rd s0_0 s0_1))))) + 1442695040888963407)) / 1099511627776) 255), wrap64 (s0_1 + 1), IntKind.u64.wrap ((IntKind.u64.wrap ((IntKind.u64.wrap (s0_2 * 6364136223846793005)) + (IntKind.u64.wrap (wrap64 (rd s0_0 s0_1))))) + 1442695040888963407)))) else (none)) else (if (wrap64 (s0_1 + 1)) ≤ (s0_0.length : Int) then (some (0, wrap64 (s0_1 + 1), IntKind.u64.wrap ((IntKind.u64.wrap ((IntKind.u64.wrap (s0_2 * 6364136223846793005)))) + 1442695040888963407))) else (some (wrap64 (Go.bits .and .u64 ((IntKind.u64.wrap ((IntKind.u64.wrap ((IntKind.u64.wrap (s0_2 * 6364136223846793005)))) + 1442695040888963407)) / 1099511627776) 255), wrap64 (s0_1 + 1), IntKind.u64.wrap ((IntKind.u64.wrap ((IntKind.u64.wrap (s0_2 * 6364136223846793005)))) + 1442695040888963407))))) = some (r1, r2, r3) := h
 clear h
 by_cases c2 : s0_1 < (s0_0.length : Int)
 ·rw [if_pos c2] at H
  have c2b0 : decide (s0_1 < (s0_0.length : Int)) = true := decide_eq_true c2
  clear c2
  by_cases c3 : 0 ≤ s0_1
  ·rw [if_pos c3] at H
   have c3b0 : decide (0 ≤ s0_1) = true := decide_eq_true c3
   clear c3
   by_cases c4 : (wrap64 (s0_1 + 1)) ≤ (s0_0.length : Int)
   ·rw [if_pos c4] at H
    have c4b0 : decide ((wrap64 (s0_1 + 1)) ≤ (s0_0.length : Int)) = true := decide_eq_true c4
    clear c4
    simp only [Option.some.injEq, Prod.mk.injEq] at H
    obtain ⟨rfl, rfl, rfl⟩ := H
    obtain ⟨ASz5_0, cSz5_0, HGz5, hgz5, HSz5_0⟩ := HI0.out
    have hcz5_0 := cellS41_0 HGz5
    have hcz5_1 := cellS41_1 HGz5
    have hcz5_2 := cellS41_2 HGz5
    have hfz5_1 := blk_frozen HGz5 1
    have hfz5_2 := blk_frozen HGz5 2
    clear HGz5 hgz5
    have p101 : 0 ≤ (s0_1 : Int) := of_decide_eq_true hE
    have q101 : s0_1 < (s0_0.length : Int) := of_decide_eq_true hE
    obtain ⟨ad101, e101, hx101_0⟩ := Kd.at_int HSz5_0 s0_1 p101 q101
    cases e101
    replace hx101_0 := pw_cell_below HB.out hx101_0
    replace p101 := eq_true p101
    replace q101 := eq_true q101
    go_enter Try.func34, Try.ntmps34
    go_wp2
    repeat (go_quiet (fail); try go_wp2)
    go_ret
    exact ⟨eE, by repeat (first | (with_reducible first | exact HI0.out | apply IsS41.alloc | apply IsS41.drewN | apply IsS41.drew | apply IsS41.set_1 | apply IsS41.set_2) | exact HI0.out), by repeat (first | (with_reducible first | exact HB.out | apply below_alloc | apply pw_below_drewN | apply below_drew1 | refine below_set ?_ (IsS41.ge HI0.out)) | exact HB.out), by repeat (first | (with_reducible first | exact HK.out | apply KeepBut.set_ | apply keep_drewN | apply keep_drew | apply keep_alloc) | exact HK.out)⟩
   ·rw [if_neg c4] at H
    have c4b0 : decide ((wrap64 (s0_1 + 1)) ≤ (s0_0.length : Int)) = false := decide_eq_false c4
    clear c4
    simp only [Option.some.injEq, Prod.mk.injEq] at H
    obtain ⟨rfl, rfl, rfl⟩ := H
    obtain ⟨ASz6_0, cSz6_0, HGz6, hgz6, HSz6_0⟩ := HI0.out
    have hcz6_0 := cellS41_0 HGz6
    have hcz6_1 := cellS41_1 HGz6
    have hcz6_2 := cellS41_2 HGz6
    have hfz6_1 := blk_frozen HGz6 1
    have hfz6_2 := blk_frozen HGz6 2
    clear HGz6 hgz6
    have p101 : 0 ≤ (s0_1 : Int) := of_decide_eq_true hE
    have q101 : s0_1 < (s0_0.length : Int) := of_decide_eq_true hE
    obtain ⟨ad101, e101, hx101_0⟩ := Kd.at_int HSz6_0 s0_1 p101 q101
    cases e101
    replace hx101_0 := pw_cell_below HB.out hx101_0
    replace p101 := eq_true p101
    replace q101 := eq_true q101
    go_enter Try.func34, Try.ntmps34
    go_wp2
    repeat (go_quiet (fail); try go_wp2)
    go_ret
    exact ⟨eE, by repeat (first | (with_reducible first | exact HI0.out | apply IsS41.alloc | apply IsS41.drewN | apply IsS41.drew | apply IsS41.set_1 | apply IsS41.set_2) | exact HI0.out), by repeat (first | (with_reducible first | exact HB.out | apply below_alloc | apply pw_below_drewN | apply below_drew1 | refine below_set ?_ (IsS41.ge HI0.out)) | exact HB.out), by repeat (first | (with_reducible first | exact HK.out | apply KeepBut.set_ | apply keep_drewN | apply keep_drew | apply keep_alloc) | exact HK.out)⟩
  ·rw [if_neg c3] at H
   exact absurd H (by simp)
 ·rw [if_neg c2] at H
  have c2b0 : decide (s0_1 < (s0_0.length : Int)) = false := decide_eq_false c2
  clear c2
  by_cases c7 : (wrap64 (s0_1 + 1)) ≤ (s0_0.length : Int)
  ·rw [if_pos c7] at H
   have c7b0 : decide ((wrap64 (s0_1 + 1)) ≤ (s0_0.length : Int)) = true := decide_eq_true c7
   clear c7
   simp only [Option.some.injEq, Prod.mk.injEq] at H
   obtain ⟨rfl, rfl, rfl⟩ := H
   obtain ⟨ASz8_0, cSz8_0, HGz8, hgz8, HSz8_0⟩ := HI0.out
   have hcz8_0 := cellS41_0 HGz8
   have hcz8_1 := cellS41_1 HGz8
   have hcz8_2 := cellS41_2 HGz8
   have hfz8_1 := blk_frozen HGz8 1
   have hfz8_2 := blk_frozen HGz8 2
   clear HGz8 hgz8
   go_enter Try.func34, Try.ntmps34
   go_wp2
   repeat (go_quiet (fail); try go_wp2)
   go_ret
   exact ⟨eE, by repeat (first | (with_reducible first | exact HI0.out | apply IsS41.alloc | apply IsS41.drewN | apply IsS41.drew | apply IsS41.set_1 | apply IsS41.set_2) | exact HI0.out), by repeat (first | (with_reducible first | exact HB.out | apply below_alloc | apply pw_below_drewN | apply below_drew1 | refine below_set ?_ (IsS41.ge HI0.out)) | exact HB.out), by repeat (first | (with_reducible first | exact HK.out | apply KeepBut.set_ | apply keep_drewN | apply keep_drew | apply keep_alloc) | exact HK.out)⟩
  ·rw [if_neg c7] at H
   have c7b0 : decide ((wrap64 (s0_1 + 1)) ≤ (s0_0.length : Int)) = false := decide_eq_false c7
   clear c7
   simp only [Option.some.injEq, Prod.mk.injEq] at H
   obtain ⟨rfl, rfl, rfl⟩ := H
   obtain ⟨ASz9_0, cSz9_0, HGz9, hgz9, HSz9_0⟩ := HI0.out
   have hcz9_0 := cellS41_0 HGz9
   have hcz9_1 := cellS41_1 HGz9
   have hcz9_2 := cellS41_2 HGz9
   have hfz9_1 := blk_frozen HGz9 1
   have hfz9_2 := blk_frozen HGz9 2
   clear HGz9 hgz9
   go_enter Try.func34, Try.ntmps34
   go_wp2
   repeat (go_quiet (fail); try go_wp2)
   go_ret
   exact ⟨eE, by repeat (first | (with_reducible first | exact HI0.out | apply IsS41.alloc | apply IsS41.drewN | apply IsS41.drew | apply IsS41.set_1 | apply IsS41.set_2) | exact HI0.out), by repeat (first | (with_reducible first | exact HB.out | apply below_alloc | apply pw_below_drewN | apply below_drew1 | refine below_set ?_ (IsS41.ge HI0.out)) | exact HB.out), by repeat (first | (with_reducible first | exact HK.out | apply KeepBut.set_ | apply keep_drewN | apply keep_drew | apply keep_alloc) | exact HK.out)⟩
def spec_l1Cur_pick.f (s0_0 : List Int) (s0_1 : Int) (s0_2 : Int) (a1 : Int) : Option (Int × Int × Int) := if a1 ≤ 1 then (some (0, s0_1, s0_2)) else ((spec_l1Cur_next.f s0_0 s0_1 s0_2).bind fun bt102 => (if a1 > 200 then ((spec_l1Cur_next.f s0_0 bt102.2.1 bt102.2.2).bind fun bt105 => (if a1 = 0 then (none) else (some (Int.tmod (wrap64 ((wrap64 (bt102.1 * 256)) + bt105.1)) a1, bt105.2.1, bt105.2.2)))) else (if a1 = 0 then (none) else (some (Int.tmod bt102.1 a1, bt102.2.1, bt102.2.2)))))
set_option maxHeartbeats 8000000 in
set_option maxRecDepth 100000 in
theorem spec_l1Cur_pick.calls (g : Nat) (s0_0 : List Int) (s0_1 : Int) (s0_2 : Int) (a1 : Int) (r1 : Int) (r2 : Int) (r3 : Int) (w0 w : World) (hI : IsS41 w0 w g s0_0 s0_1 s0_2) (hB : Below w0.heap.size w0 w) (h : spec_l1Cur_pick.f s0_0 s0_1 s0_2 a1 = some (r1, r2, r3)) :
  Calls Try.prog 18 #[.pointer (some ⟨g, 0, none⟩), .int .i64 a1] w fun e w' => e = .returned (.int .i64 r1) ∧ IsS41 w0 w' g s0_0 r2 r3 ∧ Below w0.heap.size w0 w' ∧ KeepBut w w' g none := by
 have HI0 := Aside0.mk hI
 have HK := Aside0.mk (KeepBut.refl w g none)
 have HL := Aside0.mk hB.size
 clear hI
 have HW0 := Aside0.mk hB.size
 have HB := Aside0.mk hB
 clear hB
 have H : (if a1 ≤ 1 then (some (0, s0_1, s0_2)) else ((spec_l1Cur_next.f s0_0 s0_1 s0_2).bind fun bt102 => (if a1 > 200 then ((spec_l1Cur_next.f s0_0 bt102.2.1 bt102.2.2).bind fun bt105 => (if a1 = 0 then (none) else (some (Int.tmod (wrap64 ((wrap64 (bt102.1 * 256)) + bt105.1)) a1, bt105.2.1, bt105.2.2)))) else (if a1 = 0 then (none) else (some (Int.tmod bt102.1 a1, bt102.2.1, bt102.2.2)))))) = some (r1, r2, r3) := h
 clear h
 by_cases c3 : a1 ≤ 1
 ·rw [if_pos c3] at H
  have c3b0 : decide (a1 ≤ 1) = true := decide_eq_true c3
  clear c3
  simp only [Option.some.injEq, Prod.mk.injEq] at H
  obtain ⟨rfl, rfl, rfl⟩ := H
  go_enter Try.func18, Try.ntmps18
  go_wp2
  go_ret
  exact ⟨eE, by repeat (first | (with_reducible first | exact HI0.out | apply IsS41.alloc | apply IsS41.drewN | apply IsS41.drew | apply IsS41.set_1 | apply IsS41.set_2) | exact HI0.out), by repeat (first | (with_reducible first | exact HB.out | apply below_alloc | apply pw_below_drewN | apply below_drew1 | refine below_set ?_ (IsS41.ge HI0.out)) | exact HB.out), by repeat (first | (with_reducible first | exact HK.out | apply KeepBut.set_ | apply keep_drewN | apply keep_drew | apply keep_alloc) | exact HK.out)⟩
 ·rw [if_neg c3] at H
  have c3b0 : decide (a1 ≤ 1) = false := decide_eq_false c3
  clear c3
  replace H := Option.bind_eq_some_iff.mp H
  obtain ⟨⟨t102, t103, t104⟩, A40, H⟩ := H
  replace H : (if a1 > 200 then ((spec_l1Cur_next.f s0_0 t103 t104).bind fun bt105 => (if a1 = 0 then (none) else (some (Int.tmod (wrap64 ((wrap64 (t102 * 256)) + bt105.1)) a1, bt105.2.1, bt105.2.2)))) else (if a1 = 0 then (none) else (some (Int.tmod t102 a1, t103, t104)))) = some (r1, r2, r3) := H
  have A4 := Aside0.mk A40
  clear A40
  by_cases c5 : a1 > 200
  ·rw [if_pos c5] at H
   have c5b0 : decide (200 < a1) = true := decide_eq_true c5
   clear c5
   replace H := Option.bind_eq_some_iff.mp H
   obtain ⟨⟨t105, t106, t107⟩, A60, H⟩ := H
   replace H : (if a1 = 0 then (none) else (some (Int.tmod (wrap64 ((wrap64 (t102 * 256)) + t105)) a1, t106, t107))) = some (r1, r2, r3) := H
   have A6 := Aside0.mk A60
   clear A60
   by_cases c7 : a1 = 0
   ·rw [if_pos c7] at H
    exact absurd H (by simp)
   ·rw [if_neg c7] at H
    have c7b0 : (a1 == 0) = false := beq_eq_false_iff_ne.mpr c7
    have c7b1 : (a1 != 0) = true := bne_iff_ne.mpr c7
    simp only [Option.some.injEq, Prod.mk.injEq] at H
    obtain ⟨rfl, rfl, rfl⟩ := H
    go_enter Try.func18, Try.ntmps18
    go_wp2_with (first | ((with_reducible refine gate_callee (f := 34) rfl ?_); refine goesL_ (some 9) rfl rfl Try.func34 (by kernel_rfl) rfl #[.pointer (some ⟨g, 0, none⟩)] rfl aE ?_; (with_reducible refine (spec_l1Cur_next.calls g s0_0 s0_1 s0_2 t102 t103 t104 w0 _ ?side1 ?side2 A4.out).mono ?_); (case side1 => repeat (first | (with_reducible first | exact HI0.out | apply IsS41.alloc | apply IsS41.drewN | apply IsS41.drew | apply IsS41.set_1 | apply IsS41.set_2) | exact HI0.out)); (case side2 => repeat (first | (with_reducible first | exact HB.out | apply below_alloc | apply pw_below_drewN | apply below_drew1 | refine below_set ?_ (IsS41.ge HI0.out)) | exact HB.out)); rintro e w8 ⟨rfl, hi, hb, hk⟩; refine ⟨_, rfl, ?_⟩; replace HK := Aside0.mk (KeepBut.trans (by repeat (first | (with_reducible first | exact HK.out | apply KeepBut.set_ | apply keep_drewN | apply keep_drew | apply keep_alloc) | exact HK.out)) hk (.inl rfl)); replace HB := Aside0.mk hb; replace HI0 := Aside0.mk hi; (try clear hb); (try clear hk); (try clear hi)) | ((with_reducible refine gate_callee (f := 34) rfl ?_); refine goesL_ (some 15) rfl rfl Try.func34 (by kernel_rfl) rfl #[.pointer (some ⟨g, 0, none⟩)] rfl aE ?_; (with_reducible refine (spec_l1Cur_next.calls g s0_0 t103 t104 t105 t106 t107 w0 _ ?side1 ?side2 A6.out).mono ?_); (case side1 => repeat (first | (with_reducible first | exact HI0.out | apply IsS41.alloc | apply IsS41.drewN | apply IsS41.drew | apply IsS41.set_1 | apply IsS41.set_2) | exact HI0.out)); (case side2 => repeat (first | (with_reducible first | exact HB.out | apply below_alloc | apply pw_below_drewN | apply below_drew1 | refine below_set ?_ (IsS41.ge HI0.out)) | exact HB.out)); rintro e w9 ⟨rfl, hi, hb, hk⟩; refine ⟨_, rfl, ?_⟩; replace HK := Aside0.mk (KeepBut.trans (by repeat (first | (with_reducible first | exact HK.out | apply KeepBut.set_ | apply keep_drewN | apply keep_drew | apply keep_alloc) | exact HK.out)) hk (.inl rfl)); replace HB := Aside0.mk hb; replace HI0 := Aside0.mk hi; (try clear hb); (try clear hk); (try clear hi)))
    go_ret
    exact ⟨eE, by repeat (first | (with_reducible first | exact HI0.out | apply IsS41.alloc | apply IsS41.drewN | apply IsS41.drew | apply IsS41.set_1 | apply IsS41.set_2) | exact HI0.out), by repeat (first | (with_reducible first | exact HB.out | apply below_alloc | apply pw_below_drewN | apply below_drew1 | refine below_set ?_ (IsS41.ge HI0.out)) | exact HB.out), by repeat (first | (with_reducible first | exact HK.out | apply KeepBut.set_ | apply keep_drewN | apply keep_drew | apply keep_alloc) | exact HK.out)⟩
  ·rw [if_neg c5] at H
   have c5b0 : decide (200 < a1) = false := decide_eq_false c5
   clear c5
   by_cases c10 : a1 = 0
   ·rw [if_pos c10] at H
    exact absurd H (by simp)
   ·rw [if_neg c10] at H
    have c10b0 : (a1 == 0) = false := beq_eq_false_iff_ne.mpr c10
    have c10b1 : (a1 != 0) = true := bne_iff_ne.mpr c10
    simp only [Option.some.injEq, Prod.mk.injEq] at H
    obtain ⟨rfl, rfl, rfl⟩ := H
    go_enter Try.func18, Try.ntmps18
    go_wp2_with (first | ((with_reducible refine gate_callee (f := 34) rfl ?_); refine goesL_ (some 9) rfl rfl Try.func34 (by kernel_rfl) rfl #[.pointer (some ⟨g, 0, none⟩)] rfl aE ?_; (with_reducible refine (spec_l1Cur_next.calls g s0_0 s0_1 s0_2 t102 t103 t104 w0 _ ?side1 ?side2 A4.out).mono ?_); (case side1 => repeat (first | (with_reducible first | exact HI0.out | apply IsS41.alloc | apply IsS41.drewN | apply IsS41.drew | apply IsS41.set_1 | apply IsS41.set_2) | exact HI0.out)); (case side2 => repeat (first | (with_reducible first | exact HB.out | apply below_alloc | apply pw_below_drewN | apply below_drew1 | refine below_set ?_ (IsS41.ge HI0.out)) | exact HB.out)); rintro e w11 ⟨rfl, hi, hb, hk⟩; refine ⟨_, rfl, ?_⟩; replace HK := Aside0.mk (KeepBut.trans (by repeat (first | (with_reducible first | exact HK.out | apply KeepBut.set_ | apply keep_drewN | apply keep_drew | apply keep_alloc) | exact HK.out)) hk (.inl rfl)); replace HB := Aside0.mk hb; replace HI0 := Aside0.mk hi; (try clear hb); (try clear hk); (try clear hi)))
    go_ret
    exact ⟨eE, by repeat (first | (with_reducible first | exact HI0.out | apply IsS41.alloc | apply IsS41.drewN | apply IsS41.drew | apply IsS41.set_1 | apply IsS41.set_2) | exact HI0.out), by repeat (first | (with_reducible first | exact HB.out | apply below_alloc | apply pw_below_drewN | apply below_drew1 | refine below_set ?_ (IsS41.ge HI0.out)) | exact HB.out), by repeat (first | (with_reducible first | exact HK.out | apply KeepBut.set_ | apply keep_drewN | apply keep_drew | apply keep_alloc) | exact HK.out)⟩
def spec_l1Cur_one.f (s0_0 : List Int) (s0_1 : Int) (s0_2 : Int) (a1 : Int) : Option (Bool × Int × Int) := (spec_l1Cur_pick.f s0_0 s0_1 s0_2 a1).bind fun bt108 => (some ((bt108.1 == 0), bt108.2.1, bt108.2.2))
set_option maxHeartbeats 8000000 in
set_option maxRecDepth 100000 in
theorem spec_l1Cur_one.calls (g : Nat) (s0_0 : List Int) (s0_1 : Int) (s0_2 : Int) (a1 : Int) (r1 : Bool) (r2 : Int) (r3 : Int) (w0 w : World) (hI : IsS41 w0 w g s0_0 s0_1 s0_2) (hB : Below w0.heap.size w0 w) (h : spec_l1Cur_one.f s0_0 s0_1 s0_2 a1 = some (r1, r2, r3)) :
  Calls Try.prog 30 #[.pointer (some ⟨g, 0, none⟩), .int .i64 a1] w fun e w' => e = .returned (.bool r1) ∧ IsS41 w0 w' g s0_0 r2 r3 ∧ Below w0.heap.size w0 w' ∧ KeepBut w w' g none := by
 have HI0 := Aside0.mk hI
 have HK := Aside0.mk (KeepBut.refl w g none)
 have HL := Aside0.mk hB.size
 clear hI
 have HW0 := Aside0.mk hB.size
 have HB := Aside0.mk hB
 clear hB
 have H : ((spec_l1Cur_pick.f s0_0 s0_1 s0_2 a1).bind fun bt108 => (some ((bt108.1 == 0), bt108.2.1, bt108.2.2))) = some (r1, r2, r3) := h
 clear h
 replace H := Option.bind_eq_some_iff.mp H
 obtain ⟨⟨t108, t109, t110⟩, A30, H⟩ := H
 replace H : (some ((t108 == 0), t109, t110)) = some (r1, r2, r3) := H
 have A3 := Aside0.mk A30
 clear A30
 simp only [Option.some.injEq, Prod.mk.injEq] at H
 obtain ⟨rfl, rfl, rfl⟩ := H
 go_enter Try.func30, Try.ntmps30
 go_wp2_with (first | ((with_reducible refine gate_callee (f := 18) rfl ?_); refine goesL_ (some 7) rfl rfl Try.func18 (by kernel_rfl) rfl #[.pointer (some ⟨g, 0, none⟩), .int .i64 a1] rfl aE ?_; (with_reducible refine (spec_l1Cur_pick.calls g s0_0 s0_1 s0_2 a1 t108 t109 t110 w0 _ ?side1 ?side2 A3.out).mono ?_); (case side1 => repeat (first | (with_reducible first | exact HI0.out | apply IsS41.alloc | apply IsS41.drewN | apply IsS41.drew | apply IsS41.set_1 | apply IsS41.set_2) | exact HI0.out)); (case side2 => repeat (first | (with_reducible first | exact HB.out | apply below_alloc | apply pw_below_drewN | apply below_drew1 | refine below_set ?_ (IsS41.ge HI0.out)) | exact HB.out)); rintro e w4 ⟨rfl, hi, hb, hk⟩; refine ⟨_, rfl, ?_⟩; replace HK := Aside0.mk (KeepBut.trans (by repeat (first | (with_reducible first | exact HK.out | apply KeepBut.set_ | apply keep_drewN | apply keep_drew | apply keep_alloc) | exact HK.out)) hk (.inl rfl)); replace HB := Aside0.mk hb; replace HI0 := Aside0.mk hi; (try clear hb); (try clear hk); (try clear hi)))
 go_ret
 exact ⟨eE, by repeat (first | (with_reducible first | exact HI0.out | apply IsS41.alloc | apply IsS41.drewN | apply IsS41.drew | apply IsS41.set_1 | apply IsS41.set_2) | exact HI0.out), by repeat (first | (with_reducible first | exact HB.out | apply below_alloc | apply pw_below_drewN | apply below_drew1 | refine below_set ?_ (IsS41.ge HI0.out)) | exact HB.out), by repeat (first | (with_reducible first | exact HK.out | apply KeepBut.set_ | apply keep_drewN | apply keep_drew | apply keep_alloc) | exact HK.out)⟩
def spec_l1Cur_among.f (s0_0 : List Int) (s0_1 : Int) (s0_2 : Int) (l1 : List Int) : Option (Int × Int × Int) := (spec_l1Cur_pick.f s0_0 s0_1 s0_2 (l1.length : Int)).bind fun bt111 => (if 0 ≤ bt111.1 then (if bt111.1 < (l1.length : Int) then (some (rd l1 bt111.1, bt111.2.1, bt111.2.2)) else (none)) else (none))
set_option maxHeartbeats 8000000 in
set_option maxRecDepth 100000 in
theorem spec_l1Cur_among.calls (g : Nat) (s0_0 : List Int) (s0_1 : Int) (s0_2 : Int) (A1 : Option Addr) (c1 : Nat) (l1 : List Int) (r1 : Int) (r2 : Int) (r3 : Int) (w0 w : World) (hI : IsS41 w0 w g s0_0 s0_1 s0_2) (hB : Below w0.heap.size w0 w) (hr1 : Kd.C (Kd.int .i64) w A1 l1.length l1) (hc1 : l1.length ≤ c1) (hf1 : ∀ ad, A1 = some ad → 0 < l1.length → ad.block ≠ g) (h : spec_l1Cur_among.f s0_0 s0_1 s0_2 l1 = some (r1, r2, r3)) :
  Calls Try.prog 31 #[.pointer (some ⟨g, 0, none⟩), .slice A1 l1.length c1] w fun e w' => e = .returned (.int .i64 r1) ∧ IsS41 w0 w' g s0_0 r2 r3 ∧ Below w0.heap.size w0 w' ∧ KeepBut w w' g none := by
 have HR1 := Aside0.mk hr1
 have HC1 := Aside0.mk hc1
 clear hr1 hc1
 have HI0 := Aside0.mk hI
 have HK := Aside0.mk (KeepBut.refl w g none)
 have HL := Aside0.mk hB.size
 clear hI
 have HW0 := Aside0.mk hB.size
 have HB := Aside0.mk hB
 clear hB
 have H : ((spec_l1Cur_pick.f s0_0 s0_1 s0_2 (l1.length : Int)).bind fun bt111 => (if 0 ≤ bt111.1 then (if bt111.1 < (l1.length : Int) then (some (rd l1 bt111.1, bt111.2.1, bt111.2.2)) else (none)) else (none))) = some (r1, r2, r3) := h
 clear h
 replace H := Option.bind_eq_some_iff.mp H
 obtain ⟨⟨t111, t112, t113⟩, A30, H⟩ := H
 replace H : (if 0 ≤ t111 then (if t111 < (l1.length : Int) then (some (rd l1 t111, t112, t113)) else (none)) else (none)) = some (r1, r2, r3) := H
 have A3 := Aside0.mk A30
 clear A30
 by_cases c4 : 0 ≤ t111
 ·rw [if_pos c4] at H
  have c4b0 : decide (0 ≤ t111) = true := decide_eq_true c4
  clear c4
  by_cases c5 : t111 < (l1.length : Int)
  ·rw [if_pos c5] at H
   have c5b0 : decide (t111 < (l1.length : Int)) = true := decide_eq_true c5
   clear c5
   simp only [Option.some.injEq, Prod.mk.injEq] at H
   obtain ⟨rfl, rfl, rfl⟩ := H
   go_enter Try.func31, Try.ntmps31
   go_wp2_with (first | ((with_reducible refine gate_callee (f := 18) rfl ?_); refine goesL_ (some 9) rfl rfl Try.func18 (by kernel_rfl) rfl #[.pointer (some ⟨g, 0, none⟩), .int .i64 (l1.length : Int)] rfl aE ?_; (with_reducible refine (spec_l1Cur_pick.calls g s0_0 s0_1 s0_2 (l1.length : Int) t111 t112 t113 w0 _ ?side1 ?side2 A3.out).mono ?_); (case side1 => repeat (first | (with_reducible first | exact HI0.out | apply IsS41.alloc | apply IsS41.drewN | apply IsS41.drew | apply IsS41.set_1 | apply IsS41.set_2) | exact HI0.out)); (case side2 => repeat (first | (with_reducible first | exact HB.out | apply below_alloc | apply pw_below_drewN | apply below_drew1 | refine below_set ?_ (IsS41.ge HI0.out)) | exact HB.out)); rintro e w6 ⟨rfl, hi, hb, hk⟩; refine ⟨_, rfl, ?_⟩; replace HK := Aside0.mk (KeepBut.trans (by repeat (first | (with_reducible first | exact HK.out | apply KeepBut.set_ | apply keep_drewN | apply keep_drew | apply keep_alloc) | exact HK.out)) hk (.inl rfl)); replace HB := Aside0.mk hb; replace HI0 := Aside0.mk hi; (try clear hb); (try clear hk); (try clear hi); have p114 : 0 ≤ (t111 : Int) := of_decide_eq_true hE; have q114 : t111 < (l1.length : Int) := of_decide_eq_true hE; obtain ⟨ad114, e114, hx114_0⟩ := Kd.at_int HR1.out t111 p114 q114; cases e114; replace hx114_0 := keep_cell HK.out hx114_0 (by first | (rw [add_block]; exact hf1 _ rfl (by omega)) | exact hf1 _ rfl (by omega) | exact hf1 ad114 rfl (by omega)); replace p114 := eq_true p114; replace q114 := eq_true q114))
   go_ret
   exact ⟨eE, by repeat (first | (with_reducible first | exact HI0.out | apply IsS41.alloc | apply IsS41.drewN | apply IsS41.drew | apply IsS41.set_1 | apply IsS41.set_2) | exact HI0.out), by repeat (first | (with_reducible first | exact HB.out | apply below_alloc | apply pw_below_drewN | apply below_drew1 | refine below_set ?_ (IsS41.ge HI0.out)) | exact HB.out), by repeat (first | (with_reducible first | exact HK.out | apply KeepBut.set_ | apply keep_drewN | apply keep_drew | apply keep_alloc) | exact HK.out)⟩
  ·rw [if_neg c5] at H
   exact absurd H (by simp)
 ·rw [if_neg c4] at H
  exact absurd H (by simp)
def spec_l1Cur_spot.f (s0_0 : List Int) (s0_1 : Int) (s0_2 : Int) : Option (Int × Int × Int × Bool × Int × Int) := (spec_l1Cur_pick.f s0_0 s0_1 s0_2 21).bind fun bt116 => ((spec_l1Cur_pick.f s0_0 bt116.2.1 bt116.2.2 21).bind fun bt119 => ((spec_l1Cur_pick.f s0_0 bt119.2.1 bt119.2.2 4).bind fun bt122 => ((spec_l1Cur_one.f s0_0 bt122.2.1 bt122.2.2 3).bind fun bt125 => ((spec_l1Cur_pick.f s0_0 bt125.2.1 bt125.2.2 30).bind fun bt129 => (if bt129.1 = 0 then ((spec_l1Cur_among.f s0_0 bt129.2.1 bt129.2.2 (([1000000, (-1000000), 1000001] : List Int))).bind fun bt135 => (some (bt135.1, wrap64 (bt119.1 - 10), bt122.1, bt125.1, bt135.2.1, bt135.2.2))) else (if bt129.1 = 1 then ((spec_l1Cur_among.f s0_0 bt129.2.1 bt129.2.2 (([(-1), 4] : List Int))).bind fun bt141 => (some (wrap64 (bt116.1 - 10), wrap64 (bt119.1 - 10), bt141.1, bt125.1, bt141.2.1, bt141.2.2))) else (some (wrap64 (bt116.1 - 10), wrap64 (bt119.1 - 10), bt122.1, bt125.1, bt129.2.1, bt129.2.2))))))))
set_option maxHeartbeats 8000000 in
set_option maxRecDepth 100000 in
theorem spec_l1Cur_spot.calls (g : Nat) (s0_0 : List Int) (s0_1 : Int) (s0_2 : Int) (r1 : Int) (r2 : Int) (r3 : Int) (r4 : Bool) (r5 : Int) (r6 : Int) (w0 w : World) (hI : IsS41 w0 w g s0_0 s0_1 s0_2) (hB : Below w0.heap.size w0 w) (h : spec_l1Cur_spot.f s0_0 s0_1 s0_2 = some (r1, r2, r3, r4, r5, r6)) :
  Calls Try.prog 12 #[.pointer (some ⟨g, 0, none⟩)] w fun e w' => e = .returned (.agg #[.int .i64 r1, .int .i64 r2, .int .i64 r3, .bool r4]) ∧ IsS41 w0 w' g s0_0 r5 r6 ∧ Below w0.heap.size w0 w' ∧ KeepBut w w' g none := by
 have hu24 := Try.underlying24
 have HI0 := Aside0.mk hI
 have HK := Aside0.mk (KeepBut.refl w g none)
 have HL := Aside0.mk hB.size
 clear hI
 have HW0 := Aside0.mk hB.size
 have HB := Aside0.mk hB
 clear hB
 have H : ((spec_l1Cur_pick.f s0_0 s0_1 s0_2 21).bind fun bt116 => ((spec_l1Cur_pick.f s0_0 bt116.2.1 bt116.2.2 21).bind fun bt119 => ((spec_l1Cur_pick.f s0_0 bt119.2.1 bt119.2.2 4).bind fun bt122 => ((spec_l1Cur_one.f s0_0 bt122.2.1 bt122.2.2 3).bind fun bt125 => ((spec_l1Cur_pick.f s0_0 bt125.2.1 bt125.2.2 30).bind fun bt129 => (if bt129.1 = 0 then ((spec_l1Cur_among.f s0_0 bt129.2.1 bt129.2.2 (([1000000, (-1000000), 1000001] : List Int))).bind fun bt135 => (some (bt135.1, wrap64 (bt119.1 - 10), bt122.1, bt125.1, bt135.2.1, bt135.2.2))) else (if bt129.1 = 1 then ((spec_l1Cur_among.f s0_0 bt129.2.1 bt129.2.2 (([(-1), 4] : List Int))).bind fun bt141 => (some (wrap64 (bt116.1 - 10), wrap64 (bt119.1 - 10), bt141.1, bt125.1, bt141.2.1, bt141.2.2))) else (some (wrap64 (bt116.1 - 10), wrap64 (bt119.1 - 10), bt122.1, bt125.1, bt129.2.1, bt129.2.2))))))))) = some (r1, r2, r3, r4, r5, r6) := h
 clear h
 replace H := Option.bind_eq_some_iff.mp H
 obtain ⟨⟨t116, t117, t118⟩, A20, H⟩ := H
 replace H : ((spec_l1Cur_pick.f s0_0 t117 t118 21).bind fun bt119 => ((spec_l1Cur_pick.f s0_0 bt119.2.1 bt119.2.2 4).bind fun bt122 => ((spec_l1Cur_one.f s0_0 bt122.2.1 bt122.2.2 3).bind fun bt125 => ((spec_l1Cur_pick.f s0_0 bt125.2.1 bt125.2.2 30).bind fun bt129 => (if bt129.1 = 0 then ((spec_l1Cur_among.f s0_0 bt129.2.1 bt129.2.2 (([1000000, (-1000000), 1000001] : List Int))).bind fun bt135 => (some (bt135.1, wrap64 (bt119.1 - 10), bt122.1, bt125.1, bt135.2.1, bt135.2.2))) else (if bt129.1 = 1 then ((spec_l1Cur_among.f s0_0 bt129.2.1 bt129.2.2 (([(-1), 4] : List Int))).bind fun bt141 => (some (wrap64 (t116 - 10), wrap64 (bt119.1 - 10), bt141.1, bt125.1, bt141.2.1, bt141.2.2))) else (some (wrap64 (t116 - 10), wrap64 (bt119.1 - 10), bt122.1, bt125.1, bt129.2.1, bt129.2.2)))))))) = some (r1, r2, r3, r4, r5, r6) := H
 have A2 := Aside0.mk A20
 clear A20
 replace H := Option.bind_eq_some_iff.mp H
 obtain ⟨⟨t119, t120, t121⟩, A30, H⟩ := H
 replace H : ((spec_l1Cur_pick.f s0_0 t120 t121 4).bind fun bt122 => ((spec_l1Cur_one.f s0_0 bt122.2.1 bt122.2.2 3).bind fun bt125 => ((spec_l1Cur_pick.f s0_0 bt125.2.1 bt125.2.2 30).bind fun bt129 => (if bt129.1 = 0 then ((spec_l1Cur_among.f s0_0 bt129.2.1 bt129.2.2 (([1000000, (-1000000), 1000001] : List Int))).bind fun bt135 => (some (bt135.1, wrap64 (t119 - 10), bt122.1, bt125.1, bt135.2.1, bt135.2.2))) else (if bt129.1 = 1 then ((spec_l1Cur_among.f s0_0 bt129.2.1 bt129.2.2 (([(-1), 4] : List Int))).bind fun bt141 => (some (wrap64 (t116 - 10), wrap64 (t119 - 10), bt141.1, bt125.1, bt141.2.1, bt141.2.2))) else (some (wrap64 (t116 - 10), wrap64 (t119 - 10), bt122.1, bt125.1, bt129.2.1, bt129.2.2))))))) = some (r1, r2, r3, r4, r5, r6) := H
 have A3 := Aside0.mk A30
 clear A30
 replace H := Option.bind_eq_some_iff.mp H
 obtain ⟨⟨t122, t123, t124⟩, A40, H⟩ := H
 replace H : ((spec_l1Cur_one.f s0_0 t123 t124 3).bind fun bt125 => ((spec_l1Cur_pick.f s0_0 bt125.2.1 bt125.2.2 30).bind fun bt129 => (if bt129.1 = 0 then ((spec_l1Cur_among.f s0_0 bt129.2.1 bt129.2.2 (([1000000, (-1000000), 1000001] : List Int))).bind fun bt135 => (some (bt135.1, wrap64 (t119 - 10), t122, bt125.1, bt135.2.1, bt135.2.2))) else (if bt129.1 = 1 then ((spec_l1Cur_among.f s0_0 bt129.2.1 bt129.2.2 (([(-1), 4] : List Int))).bind fun bt141 => (some (wrap64 (t116 - 10), wrap64 (t119 - 10), bt141.1, bt125.1, bt141.2.1, bt141.2.2))) else (some (wrap64 (t116 - 10), wrap64 (t119 - 10), t122, bt125.1, bt129.2.1, bt129.2.2)))))) = some (r1, r2, r3, r4, r5, r6) := H
 have A4 := Aside0.mk A40
 clear A40
 replace H := Option.bind_eq_some_iff.mp H
 obtain ⟨⟨t125, t126, t127⟩, A50, H⟩ := H
 replace H : ((spec_l1Cur_pick.f s0_0 t126 t127 30).bind fun bt129 => (if bt129.1 = 0 then ((spec_l1Cur_among.f s0_0 bt129.2.1 bt129.2.2 (([1000000, (-1000000), 1000001] : List Int))).bind fun bt135 => (some (bt135.1, wrap64 (t119 - 10), t122, t125, bt135.2.1, bt135.2.2))) else (if bt129.1 = 1 then ((spec_l1Cur_among.f s0_0 bt129.2.1 bt129.2.2 (([(-1), 4] : List Int))).bind fun bt141 => (some (wrap64 (t116 - 10), wrap64 (t119 - 10), bt141.1, t125, bt141.2.1, bt141.2.2))) else (some (wrap64 (t116 - 10), wrap64 (t119 - 10), t122, t125, bt129.2.1, bt129.2.2))))) = some (r1, r2, r3, r4, r5, r6) := H
 have A5 := Aside0.mk A50
 clear A50
 replace H := Option.bind_eq_some_iff.mp H
 obtain ⟨⟨t129, t130, t131⟩, A60, H⟩ := H
 replace H : (if t129 = 0 then ((spec_l1Cur_among.f s0_0 t130 t131 (([1000000, (-1000000), 1000001] : List Int))).bind fun bt135 => (some (bt135.1, wrap64 (t119 - 10), t122, t125, bt135.2.1, bt135.2.2))) else (if t129 = 1 then ((spec_l1Cur_among.f s0_0 t130 t131 (([(-1), 4] : List Int))).bind fun bt141 => (some (wrap64 (t116 - 10), wrap64 (t119 - 10), bt141.1, t125, bt141.2.1, bt141.2.2))) else (some (wrap64 (t116 - 10), wrap64 (t119 - 10), t122, t125, t130, t131)))) = some (r1, r2, r3, r4, r5, r6) := H
 have A6 := Aside0.mk A60
 clear A60
 by_cases c7 : t129 = 0
 ·rw [if_pos c7] at H
  have c7b0 : (t129 == 0) = true := beq_iff_eq.mpr c7
  have c7b1 : (t129 != 0) = false := bne_eq_false_iff_eq.mpr c7
  clear c7
  obtain ⟨y132, hy132⟩ : ∃ y_ : List Int, y_ = (([1000000, (-1000000), 1000001] : List Int)) := ⟨_, rfl⟩
  replace H : ((spec_l1Cur_among.f s0_0 t130 t131 y132).bind fun bt135 => (some (bt135.1, wrap64 (t119 - 10), t122, t125, bt135.2.1, bt135.2.2))) = some (r1, r2, r3, r4, r5, r6) := by first | (rw [hy132]; with_reducible exact H) | (have H2_ := (Option.bind_some _ _).symm.trans H; rw [hy132]; with_reducible exact H2_) | (have H2_ := (Option.bind_some _ _).symm.trans H; with_reducible exact H2_) | with_reducible exact H | (rw [hy132]; exact H) | exact H
  have Ny132 := Aside0.mk hy132
  clear hy132
  replace H := Option.bind_eq_some_iff.mp H
  obtain ⟨⟨t135, t136, t137⟩, A80, H⟩ := H
  replace H : (some (t135, wrap64 (t119 - 10), t122, t125, t136, t137)) = some (r1, r2, r3, r4, r5, r6) := H
  have A8 := Aside0.mk A80
  clear A80
  simp only [Option.some.injEq, Prod.mk.injEq] at H
  obtain ⟨rfl, rfl, rfl, rfl, rfl, rfl⟩ := H
  go_enter Try.func12, Try.ntmps12
  go_wp2_with (first | ((with_reducible refine gate_dst (N := 2) rfl ?_); refine box_event rfl (N := 2) rfl (cs := #[.int .i64 0, .int .i64 0, .int .i64 0, .bool false]) (t := 24) sE ?_; intro gb115 hg w9 hbox hb; replace HB := Aside0.mk (below_step (by repeat (first | (with_reducible first | exact HB.out | apply below_alloc | apply pw_below_drewN | apply below_drew1 | refine below_set ?_ (IsS41.ge HI0.out)) | exact HB.out)) hb); have BK115 := Aside0.mk hbox; have GW115 := Aside0.mk ((by rw [hg]; exact (keep_size (w := w) (g := g) (row := none) (by repeat (first | (with_reducible first | exact HK.out | apply KeepBut.set_ | apply keep_drewN | apply keep_drew | apply keep_alloc) | exact HK.out))) : w.heap.size ≤ gb115)); have GE115 := Aside0.mk ((Nat.le_trans HW0.out (by rw [hg]; exact (keep_size (w := w) (g := g) (row := none) (by repeat (first | (with_reducible first | exact HK.out | apply KeepBut.set_ | apply keep_drewN | apply keep_drew | apply keep_alloc) | exact HK.out))) : w.heap.size ≤ gb115) : w0.heap.size ≤ gb115)); replace HK := Aside0.mk (KeepBut.trans (by repeat (first | (with_reducible first | exact HK.out | apply KeepBut.set_ | apply keep_drewN | apply keep_drew | apply keep_alloc) | exact HK.out)) (KeepBut.of_below hb g none) (.inl rfl)); have NB0_115 := Aside0.mk ((by rw [hg]; exact Nat.ne_of_lt (IsS41.lt (show IsS41 w0 _ g s0_0 s0_1 s0_2 from by repeat (first | (with_reducible first | exact HI0.out | apply IsS41.alloc | apply IsS41.drewN | apply IsS41.drew | apply IsS41.set_1 | apply IsS41.set_2) | exact HI0.out))) : g ≠ gb115)); have NB115_0 := Aside0.mk ((by rw [hg]; exact Nat.ne_of_gt (IsS41.lt (show IsS41 w0 _ g s0_0 s0_1 s0_2 from by repeat (first | (with_reducible first | exact HI0.out | apply IsS41.alloc | apply IsS41.drewN | apply IsS41.drew | apply IsS41.set_1 | apply IsS41.set_2) | exact HI0.out))) : gb115 ≠ g)); replace HI0 := Aside0.mk (IsS41.below (by repeat (first | (with_reducible first | exact HI0.out | apply IsS41.alloc | apply IsS41.drewN | apply IsS41.drew | apply IsS41.set_1 | apply IsS41.set_2) | exact HI0.out)) hb); clear hb hbox hg) | ((with_reducible refine gate_callee (f := 18) rfl ?_); refine goesL_ (some 5) rfl rfl Try.func18 (by kernel_rfl) rfl #[.pointer (some ⟨g, 0, none⟩), .int .i64 21] rfl aE ?_; (with_reducible refine (spec_l1Cur_pick.calls g s0_0 s0_1 s0_2 21 t116 t117 t118 w0 _ ?side1 ?side2 A2.out).mono ?_); (case side1 => repeat (first | (with_reducible first | exact HI0.out | apply IsS41.alloc | apply IsS41.drewN | apply IsS41.drew | apply IsS41.set_1 | apply IsS41.set_2 | refine IsS41.far ?_ NB0_115.out _) | exact HI0.out)); (case side2 => repeat (first | (with_reducible first | exact HB.out | apply below_alloc | apply pw_below_drewN | apply below_drew1 | refine below_set ?_ (IsS41.ge HI0.out) | refine below_set ?_ GE115.out) | exact HB.out)); rintro e w10 ⟨rfl, hi, hb, hk⟩; refine ⟨_, rfl, ?_⟩; replace BK115 := Aside0.mk (KeepBut.blk hk (g' := gb115) (o := .cells #[.int .i64 0, .int .i64 0, .int .i64 0, .bool false] 24 (0, 0)) (bV BK115) NB115_0.out (by simp)); replace HK := Aside0.mk (KeepBut.trans (by repeat (first | (with_reducible first | exact HK.out | apply KeepBut.set_ | apply keep_drewN | apply keep_drew | apply keep_alloc | refine keep_far ?_ GW115.out _) | exact HK.out)) hk (.inl rfl)); replace HB := Aside0.mk hb; replace HI0 := Aside0.mk hi; (try clear hb); (try clear hk); (try clear hi)) | ((with_reducible refine gate_callee (f := 18) rfl ?_); refine goesL_ (some 8) rfl rfl Try.func18 (by kernel_rfl) rfl #[.pointer (some ⟨g, 0, none⟩), .int .i64 21] rfl aE ?_; (with_reducible refine (spec_l1Cur_pick.calls g s0_0 t117 t118 21 t119 t120 t121 w0 _ ?side1 ?side2 A3.out).mono ?_); (case side1 => repeat (first | (with_reducible first | exact HI0.out | apply IsS41.alloc | apply IsS41.drewN | apply IsS41.drew | apply IsS41.set_1 | apply IsS41.set_2 | refine IsS41.far ?_ NB0_115.out _) | exact HI0.out)); (case side2 => repeat (first | (with_reducible first | exact HB.out | apply below_alloc | apply pw_below_drewN | apply below_drew1 | refine below_set ?_ (IsS41.ge HI0.out) | refine below_set ?_ GE115.out) | exact HB.out)); rintro e w11 ⟨rfl, hi, hb, hk⟩; refine ⟨_, rfl, ?_⟩; replace BK115 := Aside0.mk (KeepBut.blk hk (g' := gb115) (o := .cells #[.int .i64 0, .int .i64 0, .int .i64 0, .bool false] 24 (0, 0)) (bV BK115) NB115_0.out (by simp)); replace HK := Aside0.mk (KeepBut.trans (by repeat (first | (with_reducible first | exact HK.out | apply KeepBut.set_ | apply keep_drewN | apply keep_drew | apply keep_alloc | refine keep_far ?_ GW115.out _) | exact HK.out)) hk (.inl rfl)); replace HB := Aside0.mk hb; replace HI0 := Aside0.mk hi; (try clear hb); (try clear hk); (try clear hi)) | ((with_reducible refine gate_callee (f := 18) rfl ?_); refine goesL_ (some 11) rfl rfl Try.func18 (by kernel_rfl) rfl #[.pointer (some ⟨g, 0, none⟩), .int .i64 4] rfl aE ?_; (with_reducible refine (spec_l1Cur_pick.calls g s0_0 t120 t121 4 t122 t123 t124 w0 _ ?side1 ?side2 A4.out).mono ?_); (case side1 => repeat (first | (with_reducible first | exact HI0.out | apply IsS41.alloc | apply IsS41.drewN | apply IsS41.drew | apply IsS41.set_1 | apply IsS41.set_2 | refine IsS41.far ?_ NB0_115.out _) | exact HI0.out)); (case side2 => repeat (first | (with_reducible first | exact HB.out | apply below_alloc | apply pw_below_drewN | apply below_drew1 | refine below_set ?_ (IsS41.ge HI0.out) | refine below_set ?_ GE115.out) | exact HB.out)); rintro e w12 ⟨rfl, hi, hb, hk⟩; refine ⟨_, rfl, ?_⟩; replace BK115 := Aside0.mk (KeepBut.blk hk (g' := gb115) (o := .cells #[.int .i64 0, .int .i64 0, .int .i64 0, .bool false] 24 (0, 0)) (bV BK115) NB115_0.out (by simp)); replace HK := Aside0.mk (KeepBut.trans (by repeat (first | (with_reducible first | exact HK.out | apply KeepBut.set_ | apply keep_drewN | apply keep_drew | apply keep_alloc | refine keep_far ?_ GW115.out _) | exact HK.out)) hk (.inl rfl)); replace HB := Aside0.mk hb; replace HI0 := Aside0.mk hi; (try clear hb); (try clear hk); (try clear hi)) | ((with_reducible refine gate_callee (f := 30) rfl ?_); refine goesL_ (some 13) rfl rfl Try.func30 (by kernel_rfl) rfl #[.pointer (some ⟨g, 0, none⟩), .int .i64 3] rfl aE ?_; (with_reducible refine (spec_l1Cur_one.calls g s0_0 t123 t124 3 t125 t126 t127 w0 _ ?side1 ?side2 A5.out).mono ?_); (case side1 => repeat (first | (with_reducible first | exact HI0.out | apply IsS41.alloc | apply IsS41.drewN | apply IsS41.drew | apply IsS41.set_1 | apply IsS41.set_2 | refine IsS41.far ?_ NB0_115.out _) | exact HI0.out)); (case side2 => repeat (first | (with_reducible first | exact HB.out | apply below_alloc | apply pw_below_drewN | apply below_drew1 | refine below_set ?_ (IsS41.ge HI0.out) | refine below_set ?_ GE115.out) | exact HB.out)); rintro e w13 ⟨rfl, hi, hb, hk⟩; refine ⟨_, rfl, ?_⟩; replace BK115 := Aside0.mk (KeepBut.blk hk (g' := gb115) (o := .cells #[.int .i64 0, .int .i64 0, .int .i64 0, .bool false] 24 (0, 0)) (bV BK115) NB115_0.out (by simp)); replace HK := Aside0.mk (KeepBut.trans (by repeat (first | (with_reducible first | exact HK.out | apply KeepBut.set_ | apply keep_drewN | apply keep_drew | apply keep_alloc | refine keep_far ?_ GW115.out _) | exact HK.out)) hk (.inl rfl)); replace HB := Aside0.mk hb; replace HI0 := Aside0.mk hi; (try clear hb); (try clear hk); (try clear hi)) | ((with_reducible refine gate_dst (N := 3) rfl ?_); refine box_event rfl (N := 3) rfl (cs := #[.int .i64 0, .int .i64 0, .int .i64 0, .bool false]) (t := 24) sE ?_; intro gb128 hg w14 hbox hb; replace HB := Aside0.mk (below_step (by repeat (first | (with_reducible first | exact HB.out | apply below_alloc | apply pw_below_drewN | apply below_drew1 | refine below_set ?_ (IsS41.ge HI0.out) | refine below_set ?_ GE115.out) | exact HB.out)) hb); have BK128 := Aside0.mk hbox; have GW128 := Aside0.mk ((by rw [hg]; exact (keep_size (w := w) (g := g) (row := none) (by repeat (first | (with_reducible first | exact HK.out | apply KeepBut.set_ | apply keep_drewN | apply keep_drew | apply keep_alloc | refine keep_far ?_ GW115.out _) | exact HK.out))) : w.heap.size ≤ gb128)); have GE128 := Aside0.mk ((Nat.le_trans HW0.out (by rw [hg]; exact (keep_size (w := w) (g := g) (row := none) (by repeat (first | (with_reducible first | exact HK.out | apply KeepBut.set_ | apply keep_drewN | apply keep_drew | apply keep_alloc | refine keep_far ?_ GW115.out _) | exact HK.out))) : w.heap.size ≤ gb128) : w0.heap.size ≤ gb128)); replace HK := Aside0.mk (KeepBut.trans (by repeat (first | (with_reducible first | exact HK.out | apply KeepBut.set_ | apply keep_drewN | apply keep_drew | apply keep_alloc | refine keep_far ?_ GW115.out _) | exact HK.out)) (KeepBut.of_below hb g none) (.inl rfl)); have NB115_128 := nL hg (bV BK115); have NB128_115 := nG hg (bV BK115); replace BK115 := bB (bV BK115) hb; have NB0_128 := Aside0.mk ((by rw [hg]; exact Nat.ne_of_lt (IsS41.lt (show IsS41 w0 _ g s0_0 t126 t127 from by repeat (first | (with_reducible first | exact HI0.out | apply IsS41.alloc | apply IsS41.drewN | apply IsS41.drew | apply IsS41.set_1 | apply IsS41.set_2 | refine IsS41.far ?_ NB0_115.out _) | exact HI0.out))) : g ≠ gb128)); have NB128_0 := Aside0.mk ((by rw [hg]; exact Nat.ne_of_gt (IsS41.lt (show IsS41 w0 _ g s0_0 t126 t127 from by repeat (first | (with_reducible first | exact HI0.out | apply IsS41.alloc | apply IsS41.drewN | apply IsS41.drew | apply IsS41.set_1 | apply IsS41.set_2 | refine IsS41.far ?_ NB0_115.out _) | exact HI0.out))) : gb128 ≠ g)); replace HI0 := Aside0.mk (IsS41.below (by repeat (first | (with_reducible first | exact HI0.out | apply IsS41.alloc | apply IsS41.drewN | apply IsS41.drew | apply IsS41.set_1 | apply IsS41.set_2 | refine IsS41.far ?_ NB0_115.out _) | exact HI0.out)) hb); clear hb hbox hg; have hnb15 := NB128_115.out; have hnc15 := NB115_128.out; have hnb16 := NB128_0.out; have hnc16 := NB0_128.out; have hcz17_0 := cz BK128 0 (.int .i64 0); have hcz17_1 := cz BK128 1 (.int .i64 0); have hcz17_2 := cz BK128 2 (.int .i64 0); have hcz17_3 := cz BK128 3 (.bool false); have hfz17_0 := fz BK128 0; have hfz17_1 := fz BK128 1; have hfz17_2 := fz BK128 2; have hfz17_3 := fz BK128 3) | ((with_reducible refine gate_store (t := 24) (p := 3) rfl ?_); refine store_event (t := 24) (p := 3) (v := ?vo_w18) (w1 := ((((w14.setCell ⟨gb128, 0, none⟩ (.int .i64 (wrap64 (t116 - 10)))).setCell ⟨gb128, 1, none⟩ (.int .i64 (wrap64 (t119 - 10)))).setCell ⟨gb128, 2, none⟩ (.int .i64 t122)).setCell ⟨gb128, 3, none⟩ (.bool t125))) ?hg ?ho ?hn ?hr ?_; (case ho => rfl); (case hg => rfl); (case hn => rfl); (case hr => first | (go_simp; done) | (go_simp; rfl) | (have hq0_ := (blk_cell BK128.out 0).trans (show _ = some _ from rfl); have hf0_ := blk_frozen BK128.out 0; have hq1_ := (blk_cell BK128.out 1).trans (show _ = some _ from rfl); have hf1_ := blk_frozen BK128.out 1; have hq2_ := (blk_cell BK128.out 2).trans (show _ = some _ from rfl); have hf2_ := blk_frozen BK128.out 2; have hq3_ := (blk_cell BK128.out 3).trans (show _ = some _ from rfl); have hf3_ := blk_frozen BK128.out 3; first | (go_simp; done) | (go_simp; rfl))); intro w18 hw; replace BK115 : Aside0 (w18.heap[gb115]? = some (.cells #[.int .i64 0, .int .i64 0, .int .i64 0, .bool false] 24 (0, 0))) := ⟨(by rw [hw]; exact (bG NB115_128 BK115))⟩; replace BK128 : Aside0 (w18.heap[gb128]? = some (.cells #[.int .i64 (wrap64 (t116 - 10)), .int .i64 (wrap64 (t119 - 10)), .int .i64 t122, .bool t125] 24 (0, 0))) := ⟨(by rw [hw]; exact (by refine bU ?_; refine blk_put (cs := #[.int .i64 (wrap64 (t116 - 10)), .int .i64 (wrap64 (t119 - 10)), .int .i64 t122, .bool false]) ?_ 3 _ rfl; refine bU ?_; refine blk_put (cs := #[.int .i64 (wrap64 (t116 - 10)), .int .i64 (wrap64 (t119 - 10)), .int .i64 0, .bool false]) ?_ 2 _ rfl; refine bU ?_; refine blk_put (cs := #[.int .i64 (wrap64 (t116 - 10)), .int .i64 0, .int .i64 0, .bool false]) ?_ 1 _ rfl; refine bU ?_; refine blk_put (cs := #[.int .i64 0, .int .i64 0, .int .i64 0, .bool false]) ?_ 0 _ rfl; refine bU ?_; exact BK128.out))⟩; replace HK : Aside0 (KeepBut w w18 g none) := ⟨(by rw [hw]; exact (by repeat (first | (with_reducible first | exact HK.out | apply KeepBut.set_ | apply keep_drewN | apply keep_drew | apply keep_alloc | refine keep_far ?_ GW115.out _ | refine keep_far ?_ GW128.out _) | exact HK.out)))⟩; replace HB : Aside0 (Below w0.heap.size w0 w18) := ⟨(by rw [hw]; exact (by repeat (first | (with_reducible first | exact HB.out | apply below_alloc | apply pw_below_drewN | apply below_drew1 | refine below_set ?_ (IsS41.ge HI0.out) | refine below_set ?_ GE115.out | refine below_set ?_ GE128.out) | exact HB.out)))⟩; replace HI0 : Aside0 (IsS41 w0 w18 g s0_0 t126 t127) := ⟨(by rw [hw]; exact (by repeat (first | (with_reducible first | exact HI0.out | apply IsS41.alloc | apply IsS41.drewN | apply IsS41.drew | apply IsS41.set_1 | apply IsS41.set_2 | refine IsS41.far ?_ NB0_115.out _ | refine IsS41.far ?_ NB0_128.out _) | exact HI0.out)))⟩; clear hw) | ((with_reducible refine gate_callee (f := 18) rfl ?_); refine goesL_ (some 16) rfl rfl Try.func18 (by kernel_rfl) rfl #[.pointer (some ⟨g, 0, none⟩), .int .i64 30] rfl aE ?_; (with_reducible refine (spec_l1Cur_pick.calls g s0_0 t126 t127 30 t129 t130 t131 w0 _ ?side1 ?side2 A6.out).mono ?_); (case side1 => repeat (first | (with_reducible first | exact HI0.out | apply IsS41.alloc | apply IsS41.drewN | apply IsS41.drew | apply IsS41.set_1 | apply IsS41.set_2 | refine IsS41.far ?_ NB0_115.out _ | refine IsS41.far ?_ NB0_128.out _) | exact HI0.out)); (case side2 => repeat (first | (with_reducible first | exact HB.out | apply below_alloc | apply pw_below_drewN | apply below_drew1 | refine below_set ?_ (IsS41.ge HI0.out) | refine below_set ?_ GE115.out | refine below_set ?_ GE128.out) | exact HB.out)); rintro e w19 ⟨rfl, hi, hb, hk⟩; refine ⟨_, rfl, ?_⟩; replace BK115 := Aside0.mk (KeepBut.blk hk (g' := gb115) (o := .cells #[.int .i64 0, .int .i64 0, .int .i64 0, .bool false] 24 (0, 0)) (bV BK115) NB115_0.out (by simp)); replace BK128 := Aside0.mk (KeepBut.blk hk (g' := gb128) (o := .cells #[.int .i64 (wrap64 (t116 - 10)), .int .i64 (wrap64 (t119 - 10)), .int .i64 t122, .bool t125] 24 (0, 0)) (bV BK128) NB128_0.out (by simp)); replace HK := Aside0.mk (KeepBut.trans (by repeat (first | (with_reducible first | exact HK.out | apply KeepBut.set_ | apply keep_drewN | apply keep_drew | apply keep_alloc | refine keep_far ?_ GW115.out _ | refine keep_far ?_ GW128.out _) | exact HK.out)) hk (.inl rfl)); replace HB := Aside0.mk hb; replace HI0 := Aside0.mk hi; (try clear hb); (try clear hk); (try clear hi)) | ((with_reducible refine gate_dst (N := 20) rfl ?_); refine Kd.R_lit (Kd.int .i64) _ 3 ?hg (N := 20) ?hd (xs := ([1000000, (-1000000), 1000001] : List Int)) (inner := [.int .i64 1000000, .int .i64 (-1000000), .int .i64 1000001]) (ok := fun _ => True) (okp := fun _ => True) ?hr ?hp (fun _ hk => hk) trivial (Below.refl _ _) (Nat.le_refl _) (by simp) ?_; (case hd => rfl); (case hg => rfl); (case hr => exact sE); (case hp => exact (Reps.one (show Kd.M (Kd.int .i64) _ _ _ 1000000 [.int .i64 1000000] from rfl) (Reps.one (show Kd.M (Kd.int .i64) _ _ _ (-1000000) [.int .i64 (-1000000)] from rfl) (Reps.one (show Kd.M (Kd.int .i64) _ _ _ 1000001 [.int .i64 1000001] from rfl) (Reps.none _ _))))); intro v133 w20 ho21 hb hg_ hnew_; clear hg_ hnew_; (first | rw [← Ny132.out] at ho21 | (simp only [Int.reduceToNat] at ho21; rw [← Ny132.out] at ho21)); have HO134 := Aside0.mk (Kd.R_lower ho21 (keep_size (w := w) (g := g) (row := none) (by repeat (first | (with_reducible first | exact HK.out | apply KeepBut.set_ | apply keep_drewN | apply keep_drew | apply keep_alloc | refine keep_far ?_ GW115.out _ | refine keep_far ?_ GW128.out _) | exact HK.out)))); replace BK115 := bB (bV BK115) hb; replace BK128 := bB (bV BK128) hb; replace HK := Aside0.mk (KeepBut.trans (by repeat (first | (with_reducible first | exact HK.out | apply KeepBut.set_ | apply keep_drewN | apply keep_drew | apply keep_alloc | refine keep_far ?_ GW115.out _ | refine keep_far ?_ GW128.out _) | exact HK.out)) (KeepBut.of_below hb g none) (.inl rfl)); replace HB := Aside0.mk (below_step (by repeat (first | (with_reducible first | exact HB.out | apply below_alloc | apply pw_below_drewN | apply below_drew1 | refine below_set ?_ (IsS41.ge HI0.out) | refine below_set ?_ GE115.out | refine below_set ?_ GE128.out) | exact HB.out)) hb); replace HI0 := Aside0.mk (IsS41.below (by repeat (first | (with_reducible first | exact HI0.out | apply IsS41.alloc | apply IsS41.drewN | apply IsS41.drew | apply IsS41.set_1 | apply IsS41.set_2 | refine IsS41.far ?_ NB0_115.out _ | refine IsS41.far ?_ NB0_128.out _) | exact HI0.out)) hb); clear hb ho21; obtain ⟨Ao22, co22, eo22⟩ := Kd.R_slice HO134.out; subst eo22) | ((with_reducible refine gate_callee (f := 31) rfl ?_); refine goesL_ (some 21) rfl rfl Try.func31 (by kernel_rfl) rfl #[.pointer (some ⟨g, 0, none⟩), .slice Ao22 y132.length co22] rfl aE ?_; (with_reducible refine (spec_l1Cur_among.calls g s0_0 t130 t131 _ _ y132 t135 t136 t137 w0 _ ?side1 ?side2 ?side3 ?side4 ?side5 A8.out).mono ?_); (case side1 => repeat (first | (with_reducible first | exact HI0.out | apply IsS41.alloc | apply IsS41.drewN | apply IsS41.drew | apply IsS41.set_1 | apply IsS41.set_2 | refine IsS41.far ?_ NB0_115.out _ | refine IsS41.far ?_ NB0_128.out _) | exact HI0.out)); (case side2 => repeat (first | (with_reducible first | exact HB.out | apply below_alloc | apply pw_below_drewN | apply below_drew1 | refine below_set ?_ (IsS41.ge HI0.out) | refine below_set ?_ GE115.out | refine below_set ?_ GE128.out) | exact HB.out)); (case side3 => exact cU (Kd.R_reads' HO134.out).2.2); (case side4 => exact (Kd.R_reads' HO134.out).2.1); (case side5 => exact far_slice (IsS41.own_ne HI0.out HO134.out (by decide))); rintro e w23 ⟨rfl, hi, hb, hk⟩; refine ⟨_, rfl, ?_⟩; replace BK115 := Aside0.mk (KeepBut.blk hk (g' := gb115) (o := .cells #[.int .i64 0, .int .i64 0, .int .i64 0, .bool false] 24 (0, 0)) (bV BK115) NB115_0.out (by simp)); replace BK128 := Aside0.mk (KeepBut.blk hk (g' := gb128) (o := .cells #[.int .i64 (wrap64 (t116 - 10)), .int .i64 (wrap64 (t119 - 10)), .int .i64 t122, .bool t125] 24 (0, 0)) (bV BK128) NB128_0.out (by simp)); replace HO134 := Aside0.mk (Kd.R_mono (Kd.R_keep (IsS41.apart (show IsS41 w0 _ g s0_0 t130 t131 from by repeat (first | (with_reducible first | exact HI0.out | apply IsS41.alloc | apply IsS41.drewN | apply IsS41.drew | apply IsS41.set_1 | apply IsS41.set_2 | refine IsS41.far ?_ NB0_115.out _ | refine IsS41.far ?_ NB0_128.out _) | exact HI0.out)) (rU HO134.out) (by decide)) hk (fun _ h => h.2)) (fun _ h => h.1)); replace HK := Aside0.mk (KeepBut.trans (by repeat (first | (with_reducible first | exact HK.out | apply KeepBut.set_ | apply keep_drewN | apply keep_drew | apply keep_alloc | refine keep_far ?_ GW115.out _ | refine keep_far ?_ GW128.out _) | exact HK.out)) hk (.inl rfl)); replace HB := Aside0.mk hb; replace HI0 := Aside0.mk hi; (try clear hb); (try clear hk); (try clear hi); have hcz24_0 := cz BK128 0 (.int .i64 (wrap64 (t116 - 10))); have hcz24_1 := cz BK128 1 (.int .i64 (wrap64 (t119 - 10))); have hcz24_2 := cz BK128 2 (.int .i64 t122); have hcz24_3 := cz BK128 3 (.bool t125); have hfz24_0 := fz BK128 0; have hfz24_1 := fz BK128 1; have hfz24_2 := fz BK128 2; have hfz24_3 := fz BK128 3) | ((with_reducible refine gate_store (t := 3) (p := 22) rfl ?_); refine store_event (t := 3) (p := 22) (v := ?vo_w25) (w1 := (w23.setCell ⟨gb128, 0, none⟩ (.int .i64 t135))) ?hg ?ho ?hn ?hr ?_; (case ho => rfl); (case hg => rfl); (case hn => rfl); (case hr => first | (go_simp; done) | (go_simp; rfl) | (have hq0_ := (blk_cell BK128.out 0).trans (show _ = some _ from rfl); have hf0_ := blk_frozen BK128.out 0; first | (go_simp; done) | (go_simp; rfl))); intro w25 hw; replace HO134 : Aside0 (Kd.R (Kd.int .i64) 3 w25 w.heap.size (fun _ => True) (.slice Ao22 y132.length co22) y132) := ⟨(by rw [hw]; exact (by (with_reducible repeat (first | apply Kd.R_alloc | apply Kd.R_drewN | apply Kd.R_drew)); exact Kd.R_mono (Kd.R_far (p := ⟨gb128, 0, none⟩) (Kd.R_types HO134.out BK128.out (by decide)) (fun _ hk => hk.2) (.int .i64 t135)) (fun _ hk => trivial)))⟩; replace BK115 : Aside0 (w25.heap[gb115]? = some (.cells #[.int .i64 0, .int .i64 0, .int .i64 0, .bool false] 24 (0, 0))) := ⟨(by rw [hw]; exact (bG NB115_128 BK115))⟩; replace BK128 : Aside0 (w25.heap[gb128]? = some (.cells #[.int .i64 t135, .int .i64 (wrap64 (t119 - 10)), .int .i64 t122, .bool t125] 24 (0, 0))) := ⟨(by rw [hw]; exact (by refine bU ?_; refine blk_put (cs := #[.int .i64 (wrap64 (t116 - 10)), .int .i64 (wrap64 (t119 - 10)), .int .i64 t122, .bool t125]) ?_ 0 _ rfl; refine bU ?_; exact BK128.out))⟩; replace HK : Aside0 (KeepBut w w25 g none) := ⟨(by rw [hw]; exact (by repeat (first | (with_reducible first | exact HK.out | apply KeepBut.set_ | apply keep_drewN | apply keep_drew | apply keep_alloc | refine keep_far ?_ GW115.out _ | refine keep_far ?_ GW128.out _) | exact HK.out)))⟩; replace HB : Aside0 (Below w0.heap.size w0 w25) := ⟨(by rw [hw]; exact (by repeat (first | (with_reducible first | exact HB.out | apply below_alloc | apply pw_below_drewN | apply below_drew1 | refine below_set ?_ (IsS41.ge HI0.out) | refine below_set ?_ GE115.out | refine below_set ?_ GE128.out) | exact HB.out)))⟩; replace HI0 : Aside0 (IsS41 w0 w25 g s0_0 t136 t137) := ⟨(by rw [hw]; exact (by repeat (first | (with_reducible first | exact HI0.out | apply IsS41.alloc | apply IsS41.drewN | apply IsS41.drew | apply IsS41.set_1 | apply IsS41.set_2 | refine IsS41.far ?_ NB0_115.out _ | refine IsS41.far ?_ NB0_128.out _) | exact HI0.out)))⟩; clear hw; have hcz26_0 := cz BK128 0 (.int .i64 t135); have hcz26_1 := cz BK128 1 (.int .i64 (wrap64 (t119 - 10))); have hcz26_2 := cz BK128 2 (.int .i64 t122); have hcz26_3 := cz BK128 3 (.bool t125); have hfz26_0 := fz BK128 0; have hfz26_1 := fz BK128 1; have hfz26_2 := fz BK128 2; have hfz26_3 := fz BK128 3; have hnb27 := NB115_0.out; have hnc27 := NB0_115.out; have hcz28_0 := cz BK115 0 (.int .i64 0); have hcz28_1 := cz BK115 1 (.int .i64 0); have hcz28_2 := cz BK115 2 (.int .i64 0); have hcz28_3 := cz BK115 3 (.bool false); have hfz28_0 := fz BK115 0; have hfz28_1 := fz BK115 1; have hfz28_2 := fz BK115 2; have hfz28_3 := fz BK115 3) | ((with_reducible refine gate_store (t := 24) (p := 2) rfl ?_); refine store_event (t := 24) (p := 2) (v := ?vo_w29) (w1 := ((((w25.setCell ⟨gb115, 0, none⟩ (.int .i64 t135)).setCell ⟨gb115, 1, none⟩ (.int .i64 (wrap64 (t119 - 10)))).setCell ⟨gb115, 2, none⟩ (.int .i64 t122)).setCell ⟨gb115, 3, none⟩ (.bool t125))) ?hg ?ho ?hn ?hr ?_; (case ho => rfl); (case hg => rfl); (case hn => rfl); (case hr => first | (go_simp; done) | (go_simp; rfl) | (have hq0_ := (blk_cell BK115.out 0).trans (show _ = some _ from rfl); have hf0_ := blk_frozen BK115.out 0; have hq1_ := (blk_cell BK115.out 1).trans (show _ = some _ from rfl); have hf1_ := blk_frozen BK115.out 1; have hq2_ := (blk_cell BK115.out 2).trans (show _ = some _ from rfl); have hf2_ := blk_frozen BK115.out 2; have hq3_ := (blk_cell BK115.out 3).trans (show _ = some _ from rfl); have hf3_ := blk_frozen BK115.out 3; first | (go_simp; done) | (go_simp; rfl))); intro w29 hw; replace HO134 : Aside0 (Kd.R (Kd.int .i64) 3 w29 w.heap.size (fun _ => True) (.slice Ao22 y132.length co22) y132) := ⟨(by rw [hw]; exact (by (with_reducible repeat (first | apply Kd.R_alloc | apply Kd.R_drewN | apply Kd.R_drew)); exact Kd.R_mono (Kd.R_far (p := ⟨gb115, 3, none⟩) (Kd.R_far (p := ⟨gb115, 2, none⟩) (Kd.R_far (p := ⟨gb115, 1, none⟩) (Kd.R_far (p := ⟨gb115, 0, none⟩) (Kd.R_types HO134.out BK115.out (by decide)) (fun _ hk => hk.2) (.int .i64 t135)) (fun _ hk => hk.2) (.int .i64 (wrap64 (t119 - 10)))) (fun _ hk => hk.2) (.int .i64 t122)) (fun _ hk => hk.2) (.bool t125)) (fun _ hk => trivial)))⟩; replace BK115 : Aside0 (w29.heap[gb115]? = some (.cells #[.int .i64 t135, .int .i64 (wrap64 (t119 - 10)), .int .i64 t122, .bool t125] 24 (0, 0))) := ⟨(by rw [hw]; exact (by refine bU ?_; refine blk_put (cs := #[.int .i64 t135, .int .i64 (wrap64 (t119 - 10)), .int .i64 t122, .bool false]) ?_ 3 _ rfl; refine bU ?_; refine blk_put (cs := #[.int .i64 t135, .int .i64 (wrap64 (t119 - 10)), .int .i64 0, .bool false]) ?_ 2 _ rfl; refine bU ?_; refine blk_put (cs := #[.int .i64 t135, .int .i64 0, .int .i64 0, .bool false]) ?_ 1 _ rfl; refine bU ?_; refine blk_put (cs := #[.int .i64 0, .int .i64 0, .int .i64 0, .bool false]) ?_ 0 _ rfl; refine bU ?_; exact BK115.out))⟩; replace BK128 : Aside0 (w29.heap[gb128]? = some (.cells #[.int .i64 t135, .int .i64 (wrap64 (t119 - 10)), .int .i64 t122, .bool t125] 24 (0, 0))) := ⟨(by rw [hw]; exact (bG NB128_115 BK128))⟩; replace HK : Aside0 (KeepBut w w29 g none) := ⟨(by rw [hw]; exact (by repeat (first | (with_reducible first | exact HK.out | apply KeepBut.set_ | apply keep_drewN | apply keep_drew | apply keep_alloc | refine keep_far ?_ GW115.out _ | refine keep_far ?_ GW128.out _) | exact HK.out)))⟩; replace HB : Aside0 (Below w0.heap.size w0 w29) := ⟨(by rw [hw]; exact (by repeat (first | (with_reducible first | exact HB.out | apply below_alloc | apply pw_below_drewN | apply below_drew1 | refine below_set ?_ (IsS41.ge HI0.out) | refine below_set ?_ GE115.out | refine below_set ?_ GE128.out) | exact HB.out)))⟩; replace HI0 : Aside0 (IsS41 w0 w29 g s0_0 t136 t137) := ⟨(by rw [hw]; exact (by repeat (first | (with_reducible first | exact HI0.out | apply IsS41.alloc | apply IsS41.drewN | apply IsS41.drew | apply IsS41.set_1 | apply IsS41.set_2 | refine IsS41.far ?_ NB0_115.out _ | refine IsS41.far ?_ NB0_128.out _) | exact HI0.out)))⟩; clear hw))
  refine bodyPost_ret (results_cell_row rfl _ _ gb115 24 #[.int .i64 t135, .int .i64 (wrap64 (t119 - 10)), .int .i64 t122, .bool t125] (0, 0) _ rfl (bV BK115) Try.underlying24 rfl (by kernel_rfl)) rfl ?_
  exact ⟨eE, by repeat (first | (with_reducible first | exact HI0.out | apply IsS41.alloc | apply IsS41.drewN | apply IsS41.drew | apply IsS41.set_1 | apply IsS41.set_2 | refine IsS41.far ?_ NB0_115.out _ | refine IsS41.far ?_ NB0_128.out _) | exact HI0.out), by repeat (first | (with_reducible first | exact HB.out | apply below_alloc | apply pw_below_drewN | apply below_drew1 | refine below_set ?_ (IsS41.ge HI0.out) | refine below_set ?_ GE115.out | refine below_set ?_ GE128.out) | exact HB.out), by repeat (first | (with_reducible first | exact HK.out | apply KeepBut.set_ | apply keep_drewN | apply keep_drew | apply keep_alloc | refine keep_far ?_ GW115.out _ | refine keep_far ?_ GW128.out _) | exact HK.out)⟩
 ·rw [if_neg c7] at H
  have c7b0 : (t129 == 0) = false := beq_eq_false_iff_ne.mpr c7
  have c7b1 : (t129 != 0) = true := bne_iff_ne.mpr c7
  by_cases c30 : t129 = 1
  ·rw [if_pos c30] at H
   have c30b0 : (t129 == 1) = true := beq_iff_eq.mpr c30
   have c30b1 : (t129 != 1) = false := bne_eq_false_iff_eq.mpr c30
   clear c30
   obtain ⟨y138, hy138⟩ : ∃ y_ : List Int, y_ = (([(-1), 4] : List Int)) := ⟨_, rfl⟩
   replace H : ((spec_l1Cur_among.f s0_0 t130 t131 y138).bind fun bt141 => (some (wrap64 (t116 - 10), wrap64 (t119 - 10), bt141.1, t125, bt141.2.1, bt141.2.2))) = some (r1, r2, r3, r4, r5, r6) := by first | (rw [hy138]; with_reducible exact H) | (have H2_ := (Option.bind_some _ _).symm.trans H; rw [hy138]; with_reducible exact H2_) | (have H2_ := (Option.bind_some _ _).symm.trans H; with_reducible exact H2_) | with_reducible exact H | (rw [hy138]; exact H) | exact H
   have Ny138 := Aside0.mk hy138
   clear hy138
   replace H := Option.bind_eq_some_iff.mp H
   obtain ⟨⟨t141, t142, t143⟩, A310, H⟩ := H
   replace H : (some (wrap64 (t116 - 10), wrap64 (t119 - 10), t141, t125, t142, t143)) = some (r1, r2, r3, r4, r5, r6) := H
   have A31 := Aside0.mk A310
   clear A310
   simp only [Option.some.injEq, Prod.mk.injEq] at H
   obtain ⟨rfl, rfl, rfl, rfl, rfl, rfl⟩ := H
   go_enter Try.func12, Try.ntmps12
   go_wp2_with (first | ((with_reducible refine gate_dst (N := 2) rfl ?_); refine box_event rfl (N := 2) rfl (cs := #[.int .i64 0, .int .i64 0, .int .i64 0, .bool false]) (t := 24) sE ?_; intro gb115 hg w32 hbox hb; replace HB := Aside0.mk (below_step (by repeat (first | (with_reducible first | exact HB.out | apply below_alloc | apply pw_below_drewN | apply below_drew1 | refine below_set ?_ (IsS41.ge HI0.out)) | exact HB.out)) hb); have BK115 := Aside0.mk hbox; have GW115 := Aside0.mk ((by rw [hg]; exact (keep_size (w := w) (g := g) (row := none) (by repeat (first | (with_reducible first | exact HK.out | apply KeepBut.set_ | apply keep_drewN | apply keep_drew | apply keep_alloc) | exact HK.out))) : w.heap.size ≤ gb115)); have GE115 := Aside0.mk ((Nat.le_trans HW0.out (by rw [hg]; exact (keep_size (w := w) (g := g) (row := none) (by repeat (first | (with_reducible first | exact HK.out | apply KeepBut.set_ | apply keep_drewN | apply keep_drew | apply keep_alloc) | exact HK.out))) : w.heap.size ≤ gb115) : w0.heap.size ≤ gb115)); replace HK := Aside0.mk (KeepBut.trans (by repeat (first | (with_reducible first | exact HK.out | apply KeepBut.set_ | apply keep_drewN | apply keep_drew | apply keep_alloc) | exact HK.out)) (KeepBut.of_below hb g none) (.inl rfl)); have NB0_115 := Aside0.mk ((by rw [hg]; exact Nat.ne_of_lt (IsS41.lt (show IsS41 w0 _ g s0_0 s0_1 s0_2 from by repeat (first | (with_reducible first | exact HI0.out | apply IsS41.alloc | apply IsS41.drewN | apply IsS41.drew | apply IsS41.set_1 | apply IsS41.set_2) | exact HI0.out))) : g ≠ gb115)); have NB115_0 := Aside0.mk ((by rw [hg]; exact Nat.ne_of_gt (IsS41.lt (show IsS41 w0 _ g s0_0 s0_1 s0_2 from by repeat (first | (with_reducible first | exact HI0.out | apply IsS41.alloc | apply IsS41.drewN | apply IsS41.drew | apply IsS41.set_1 | apply IsS41.set_2) | exact HI0.out))) : gb115 ≠ g)); replace HI0 := Aside0.mk (IsS41.below (by repeat (first | (with_reducible first | exact HI0.out | apply IsS41.alloc | apply IsS41.drewN | apply IsS41.drew | apply IsS41.set_1 | apply IsS41.set_2) | exact HI0.out)) hb); clear hb hbox hg) | ((with_reducible refine gate_callee (f := 18) rfl ?_); refine goesL_ (some 5) rfl rfl Try.func18 (by kernel_rfl) rfl #[.pointer (some ⟨g, 0, none⟩), .int .i64 21] rfl aE ?_; (with_reducible refine (spec_l1Cur_pick.calls g s0_0 s0_1 s0_2 21 t116 t117 t118 w0 _ ?side1 ?side2 A2.out).mono ?_); (case side1 => repeat (first | (with_reducible first | exact HI0.out | apply IsS41.alloc | apply IsS41.drewN | apply IsS41.drew | apply IsS41.set_1 | apply IsS41.set_2 | refine IsS41.far ?_ NB0_115.out _) | exact HI0.out)); (case side2 => repeat (first | (with_reducible first | exact HB.out | apply below_alloc | apply pw_below_drewN | apply below_drew1 | refine below_set ?_ (IsS41.ge HI0.out) | refine below_set ?_ GE115.out) | exact HB.out)); rintro e w33 ⟨rfl, hi, hb, hk⟩; refine ⟨_, rfl, ?_⟩; replace BK115 := Aside0.mk (KeepBut.blk hk (g' := gb115) (o := .cells #[.int .i64 0, .int .i64 0, .int .i64 0, .bool false] 24 (0, 0)) (bV BK115) NB115_0.out (by simp)); replace HK := Aside0.mk (KeepBut.trans (by repeat (first | (with_reducible first | exact HK.out | apply KeepBut.set_ | apply keep_drewN | apply keep_drew | apply keep_alloc | refine keep_far ?_ GW115.out _) | exact HK.out)) hk (.inl rfl)); replace HB := Aside0.mk hb; replace HI0 := Aside0.mk hi; (try clear hb); (try clear hk); (try clear hi)) | ((with_reducible refine gate_callee (f := 18) rfl ?_); refine goesL_ (some 8) rfl rfl Try.func18 (by kernel_rfl) rfl #[.pointer (some ⟨g, 0, none⟩), .int .i64 21] rfl aE ?_; (with_reducible refine (spec_l1Cur_pick.calls g s0_0 t117 t118 21 t119 t120 t121 w0 _ ?side1 ?side2 A3.out).mono ?_); (case side1 => repeat (first | (with_reducible first | exact HI0.out | apply IsS41.alloc | apply IsS41.drewN | apply IsS41.drew | apply IsS41.set_1 | apply IsS41.set_2 | refine IsS41.far ?_ NB0_115.out _) | exact HI0.out)); (case side2 => repeat (first | (with_reducible first | exact HB.out | apply below_alloc | apply pw_below_drewN | apply below_drew1 | refine below_set ?_ (IsS41.ge HI0.out) | refine below_set ?_ GE115.out) | exact HB.out)); rintro e w34 ⟨rfl, hi, hb, hk⟩; refine ⟨_, rfl, ?_⟩; replace BK115 := Aside0.mk (KeepBut.blk hk (g' := gb115) (o := .cells #[.int .i64 0, .int .i64 0, .int .i64 0, .bool false] 24 (0, 0)) (bV BK115) NB115_0.out (by simp)); replace HK := Aside0.mk (KeepBut.trans (by repeat (first | (with_reducible first | exact HK.out | apply KeepBut.set_ | apply keep_drewN | apply keep_drew | apply keep_alloc | refine keep_far ?_ GW115.out _) | exact HK.out)) hk (.inl rfl)); replace HB := Aside0.mk hb; replace HI0 := Aside0.mk hi; (try clear hb); (try clear hk); (try clear hi)) | ((with_reducible refine gate_callee (f := 18) rfl ?_); refine goesL_ (some 11) rfl rfl Try.func18 (by kernel_rfl) rfl #[.pointer (some ⟨g, 0, none⟩), .int .i64 4] rfl aE ?_; (with_reducible refine (spec_l1Cur_pick.calls g s0_0 t120 t121 4 t122 t123 t124 w0 _ ?side1 ?side2 A4.out).mono ?_); (case side1 => repeat (first | (with_reducible first | exact HI0.out | apply IsS41.alloc | apply IsS41.drewN | apply IsS41.drew | apply IsS41.set_1 | apply IsS41.set_2 | refine IsS41.far ?_ NB0_115.out _) | exact HI0.out)); (case side2 => repeat (first | (with_reducible first | exact HB.out | apply below_alloc | apply pw_below_drewN | apply below_drew1 | refine below_set ?_ (IsS41.ge HI0.out) | refine below_set ?_ GE115.out) | exact HB.out)); rintro e w35 ⟨rfl, hi, hb, hk⟩; refine ⟨_, rfl, ?_⟩; replace BK115 := Aside0.mk (KeepBut.blk hk (g' := gb115) (o := .cells #[.int .i64 0, .int .i64 0, .int .i64 0, .bool false] 24 (0, 0)) (bV BK115) NB115_0.out (by simp)); replace HK := Aside0.mk (KeepBut.trans (by repeat (first | (with_reducible first | exact HK.out | apply KeepBut.set_ | apply keep_drewN | apply keep_drew | apply keep_alloc | refine keep_far ?_ GW115.out _) | exact HK.out)) hk (.inl rfl)); replace HB := Aside0.mk hb; replace HI0 := Aside0.mk hi; (try clear hb); (try clear hk); (try clear hi)) | ((with_reducible refine gate_callee (f := 30) rfl ?_); refine goesL_ (some 13) rfl rfl Try.func30 (by kernel_rfl) rfl #[.pointer (some ⟨g, 0, none⟩), .int .i64 3] rfl aE ?_; (with_reducible refine (spec_l1Cur_one.calls g s0_0 t123 t124 3 t125 t126 t127 w0 _ ?side1 ?side2 A5.out).mono ?_); (case side1 => repeat (first | (with_reducible first | exact HI0.out | apply IsS41.alloc | apply IsS41.drewN | apply IsS41.drew | apply IsS41.set_1 | apply IsS41.set_2 | refine IsS41.far ?_ NB0_115.out _) | exact HI0.out)); (case side2 => repeat (first | (with_reducible first | exact HB.out | apply below_alloc | apply pw_below_drewN | apply below_drew1 | refine below_set ?_ (IsS41.ge HI0.out) | refine below_set ?_ GE115.out) | exact HB.out)); rintro e w36 ⟨rfl, hi, hb, hk⟩; refine ⟨_, rfl, ?_⟩; replace BK115 := Aside0.mk (KeepBut.blk hk (g' := gb115) (o := .cells #[.int .i64 0, .int .i64 0, .int .i64 0, .bool false] 24 (0, 0)) (bV BK115) NB115_0.out (by simp)); replace HK := Aside0.mk (KeepBut.trans (by repeat (first | (with_reducible first | exact HK.out | apply KeepBut.set_ | apply keep_drewN | apply keep_drew | apply keep_alloc | refine keep_far ?_ GW115.out _) | exact HK.out)) hk (.inl rfl)); replace HB := Aside0.mk hb; replace HI0 := Aside0.mk hi; (try clear hb); (try clear hk); (try clear hi)) | ((with_reducible refine gate_dst (N := 3) rfl ?_); refine box_event rfl (N := 3) rfl (cs := #[.int .i64 0, .int .i64 0, .int .i64 0, .bool false]) (t := 24) sE ?_; intro gb128 hg w37 hbox hb; replace HB := Aside0.mk (below_step (by repeat (first | (with_reducible first | exact HB.out | apply below_alloc | apply pw_below_drewN | apply below_drew1 | refine below_set ?_ (IsS41.ge HI0.out) | refine below_set ?_ GE115.out) | exact HB.out)) hb); have BK128 := Aside0.mk hbox; have GW128 := Aside0.mk ((by rw [hg]; exact (keep_size (w := w) (g := g) (row := none) (by repeat (first | (with_reducible first | exact HK.out | apply KeepBut.set_ | apply keep_drewN | apply keep_drew | apply keep_alloc | refine keep_far ?_ GW115.out _) | exact HK.out))) : w.heap.size ≤ gb128)); have GE128 := Aside0.mk ((Nat.le_trans HW0.out (by rw [hg]; exact (keep_size (w := w) (g := g) (row := none) (by repeat (first | (with_reducible first | exact HK.out | apply KeepBut.set_ | apply keep_drewN | apply keep_drew | apply keep_alloc | refine keep_far ?_ GW115.out _) | exact HK.out))) : w.heap.size ≤ gb128) : w0.heap.size ≤ gb128)); replace HK := Aside0.mk (KeepBut.trans (by repeat (first | (with_reducible first | exact HK.out | apply KeepBut.set_ | apply keep_drewN | apply keep_drew | apply keep_alloc | refine keep_far ?_ GW115.out _) | exact HK.out)) (KeepBut.of_below hb g none) (.inl rfl)); have NB115_128 := nL hg (bV BK115); have NB128_115 := nG hg (bV BK115); replace BK115 := bB (bV BK115) hb; have NB0_128 := Aside0.mk ((by rw [hg]; exact Nat.ne_of_lt (IsS41.lt (show IsS41 w0 _ g s0_0 t126 t127 from by repeat (first | (with_reducible first | exact HI0.out | apply IsS41.alloc | apply IsS41.drewN | apply IsS41.drew | apply IsS41.set_1 | apply IsS41.set_2 | refine IsS41.far ?_ NB0_115.out _) | exact HI0.out))) : g ≠ gb128)); have NB128_0 := Aside0.mk ((by rw [hg]; exact Nat.ne_of_gt (IsS41.lt (show IsS41 w0 _ g s0_0 t126 t127 from by repeat (first | (with_reducible first | exact HI0.out | apply IsS41.alloc | apply IsS41.drewN | apply IsS41.drew | apply IsS41.set_1 | apply IsS41.set_2 | refine IsS41.far ?_ NB0_115.out _) | exact HI0.out))) : gb128 ≠ g)); replace HI0 := Aside0.mk (IsS41.below (by repeat (first | (with_reducible first | exact HI0.out | apply IsS41.alloc | apply IsS41.drewN | apply IsS41.drew | apply IsS41.set_1 | apply IsS41.set_2 | refine IsS41.far ?_ NB0_115.out _) | exact HI0.out)) hb); clear hb hbox hg; have hnb38 := NB128_115.out; have hnc38 := NB115_128.out; have hnb39 := NB128_0.out; have hnc39 := NB0_128.out; have hcz40_0 := cz BK128 0 (.int .i64 0); have hcz40_1 := cz BK128 1 (.int .i64 0); have hcz40_2 := cz BK128 2 (.int .i64 0); have hcz40_3 := cz BK128 3 (.bool false); have hfz40_0 := fz BK128 0; have hfz40_1 := fz BK128 1; have hfz40_2 := fz BK128 2; have hfz40_3 := fz BK128 3) | ((with_reducible refine gate_store (t := 24) (p := 3) rfl ?_); refine store_event (t := 24) (p := 3) (v := ?vo_w41) (w1 := ((((w37.setCell ⟨gb128, 0, none⟩ (.int .i64 (wrap64 (t116 - 10)))).setCell ⟨gb128, 1, none⟩ (.int .i64 (wrap64 (t119 - 10)))).setCell ⟨gb128, 2, none⟩ (.int .i64 t122)).setCell ⟨gb128, 3, none⟩ (.bool t125))) ?hg ?ho ?hn ?hr ?_; (case ho => rfl); (case hg => rfl); (case hn => rfl); (case hr => first | (go_simp; done) | (go_simp; rfl) | (have hq0_ := (blk_cell BK128.out 0).trans (show _ = some _ from rfl); have hf0_ := blk_frozen BK128.out 0; have hq1_ := (blk_cell BK128.out 1).trans (show _ = some _ from rfl); have hf1_ := blk_frozen BK128.out 1; have hq2_ := (blk_cell BK128.out 2).trans (show _ = some _ from rfl); have hf2_ := blk_frozen BK128.out 2; have hq3_ := (blk_cell BK128.out 3).trans (show _ = some _ from rfl); have hf3_ := blk_frozen BK128.out 3; first | (go_simp; done) | (go_simp; rfl))); intro w41 hw; replace BK115 : Aside0 (w41.heap[gb115]? = some (.cells #[.int .i64 0, .int .i64 0, .int .i64 0, .bool false] 24 (0, 0))) := ⟨(by rw [hw]; exact (bG NB115_128 BK115))⟩; replace BK128 : Aside0 (w41.heap[gb128]? = some (.cells #[.int .i64 (wrap64 (t116 - 10)), .int .i64 (wrap64 (t119 - 10)), .int .i64 t122, .bool t125] 24 (0, 0))) := ⟨(by rw [hw]; exact (by refine bU ?_; refine blk_put (cs := #[.int .i64 (wrap64 (t116 - 10)), .int .i64 (wrap64 (t119 - 10)), .int .i64 t122, .bool false]) ?_ 3 _ rfl; refine bU ?_; refine blk_put (cs := #[.int .i64 (wrap64 (t116 - 10)), .int .i64 (wrap64 (t119 - 10)), .int .i64 0, .bool false]) ?_ 2 _ rfl; refine bU ?_; refine blk_put (cs := #[.int .i64 (wrap64 (t116 - 10)), .int .i64 0, .int .i64 0, .bool false]) ?_ 1 _ rfl; refine bU ?_; refine blk_put (cs := #[.int .i64 0, .int .i64 0, .int .i64 0, .bool false]) ?_ 0 _ rfl; refine bU ?_; exact BK128.out))⟩; replace HK : Aside0 (KeepBut w w41 g none) := ⟨(by rw [hw]; exact (by repeat (first | (with_reducible first | exact HK.out | apply KeepBut.set_ | apply keep_drewN | apply keep_drew | apply keep_alloc | refine keep_far ?_ GW115.out _ | refine keep_far ?_ GW128.out _) | exact HK.out)))⟩; replace HB : Aside0 (Below w0.heap.size w0 w41) := ⟨(by rw [hw]; exact (by repeat (first | (with_reducible first | exact HB.out | apply below_alloc | apply pw_below_drewN | apply below_drew1 | refine below_set ?_ (IsS41.ge HI0.out) | refine below_set ?_ GE115.out | refine below_set ?_ GE128.out) | exact HB.out)))⟩; replace HI0 : Aside0 (IsS41 w0 w41 g s0_0 t126 t127) := ⟨(by rw [hw]; exact (by repeat (first | (with_reducible first | exact HI0.out | apply IsS41.alloc | apply IsS41.drewN | apply IsS41.drew | apply IsS41.set_1 | apply IsS41.set_2 | refine IsS41.far ?_ NB0_115.out _ | refine IsS41.far ?_ NB0_128.out _) | exact HI0.out)))⟩; clear hw) | ((with_reducible refine gate_callee (f := 18) rfl ?_); refine goesL_ (some 16) rfl rfl Try.func18 (by kernel_rfl) rfl #[.pointer (some ⟨g, 0, none⟩), .int .i64 30] rfl aE ?_; (with_reducible refine (spec_l1Cur_pick.calls g s0_0 t126 t127 30 t129 t130 t131 w0 _ ?side1 ?side2 A6.out).mono ?_); (case side1 => repeat (first | (with_reducible first | exact HI0.out | apply IsS41.alloc | apply IsS41.drewN | apply IsS41.drew | apply IsS41.set_1 | apply IsS41.set_2 | refine IsS41.far ?_ NB0_115.out _ | refine IsS41.far ?_ NB0_128.out _) | exact HI0.out)); (case side2 => repeat (first | (with_reducible first | exact HB.out | apply below_alloc | apply pw_below_drewN | apply below_drew1 | refine below_set ?_ (IsS41.ge HI0.out) | refine below_set ?_ GE115.out | refine below_set ?_ GE128.out) | exact HB.out)); rintro e w42 ⟨rfl, hi, hb, hk⟩; refine ⟨_, rfl, ?_⟩; replace BK115 := Aside0.mk (KeepBut.blk hk (g' := gb115) (o := .cells #[.int .i64 0, .int .i64 0, .int .i64 0, .bool false] 24 (0, 0)) (bV BK115) NB115_0.out (by simp)); replace BK128 := Aside0.mk (KeepBut.blk hk (g' := gb128) (o := .cells #[.int .i64 (wrap64 (t116 - 10)), .int .i64 (wrap64 (t119 - 10)), .int .i64 t122, .bool t125] 24 (0, 0)) (bV BK128) NB128_0.out (by simp)); replace HK := Aside0.mk (KeepBut.trans (by repeat (first | (with_reducible first | exact HK.out | apply KeepBut.set_ | apply keep_drewN | apply keep_drew | apply keep_alloc | refine keep_far ?_ GW115.out _ | refine keep_far ?_ GW128.out _) | exact HK.out)) hk (.inl rfl)); replace HB := Aside0.mk hb; replace HI0 := Aside0.mk hi; (try clear hb); (try clear hk); (try clear hi)) | ((with_reducible refine gate_dst (N := 26) rfl ?_); refine Kd.R_lit (Kd.int .i64) _ 3 ?hg (N := 26) ?hd (xs := ([(-1), 4] : List Int)) (inner := [.int .i64 (-1), .int .i64 4]) (ok := fun _ => True) (okp := fun _ => True) ?hr ?hp (fun _ hk => hk) trivial (Below.refl _ _) (Nat.le_refl _) (by simp) ?_; (case hd => rfl); (case hg => rfl); (case hr => exact sE); (case hp => exact (Reps.one (show Kd.M (Kd.int .i64) _ _ _ (-1) [.int .i64 (-1)] from rfl) (Reps.one (show Kd.M (Kd.int .i64) _ _ _ 4 [.int .i64 4] from rfl) (Reps.none _ _)))); intro v139 w43 ho44 hb hg_ hnew_; clear hg_ hnew_; (first | rw [← Ny138.out] at ho44 | (simp only [Int.reduceToNat] at ho44; rw [← Ny138.out] at ho44)); have HO140 := Aside0.mk (Kd.R_lower ho44 (keep_size (w := w) (g := g) (row := none) (by repeat (first | (with_reducible first | exact HK.out | apply KeepBut.set_ | apply keep_drewN | apply keep_drew | apply keep_alloc | refine keep_far ?_ GW115.out _ | refine keep_far ?_ GW128.out _) | exact HK.out)))); replace BK115 := bB (bV BK115) hb; replace BK128 := bB (bV BK128) hb; replace HK := Aside0.mk (KeepBut.trans (by repeat (first | (with_reducible first | exact HK.out | apply KeepBut.set_ | apply keep_drewN | apply keep_drew | apply keep_alloc | refine keep_far ?_ GW115.out _ | refine keep_far ?_ GW128.out _) | exact HK.out)) (KeepBut.of_below hb g none) (.inl rfl)); replace HB := Aside0.mk (below_step (by repeat (first | (with_reducible first | exact HB.out | apply below_alloc | apply pw_below_drewN | apply below_drew1 | refine below_set ?_ (IsS41.ge HI0.out) | refine below_set ?_ GE115.out | refine below_set ?_ GE128.out) | exact HB.out)) hb); replace HI0 := Aside0.mk (IsS41.below (by repeat (first | (with_reducible first | exact HI0.out | apply IsS41.alloc | apply IsS41.drewN | apply IsS41.drew | apply IsS41.set_1 | apply IsS41.set_2 | refine IsS41.far ?_ NB0_115.out _ | refine IsS41.far ?_ NB0_128.out _) | exact HI0.out)) hb); clear hb ho44; obtain ⟨Ao45, co45, eo45⟩ := Kd.R_slice HO140.out; subst eo45) | ((with_reducible refine gate_callee (f := 31) rfl ?_); refine goesL_ (some 27) rfl rfl Try.func31 (by kernel_rfl) rfl #[.pointer (some ⟨g, 0, none⟩), .slice Ao45 y138.length co45] rfl aE ?_; (with_reducible refine (spec_l1Cur_among.calls g s0_0 t130 t131 _ _ y138 t141 t142 t143 w0 _ ?side1 ?side2 ?side3 ?side4 ?side5 A31.out).mono ?_); (case side1 => repeat (first | (with_reducible first | exact HI0.out | apply IsS41.alloc | apply IsS41.drewN | apply IsS41.drew | apply IsS41.set_1 | apply IsS41.set_2 | refine IsS41.far ?_ NB0_115.out _ | refine IsS41.far ?_ NB0_128.out _) | exact HI0.out)); (case side2 => repeat (first | (with_reducible first | exact HB.out | apply below_alloc | apply pw_below_drewN | apply below_drew1 | refine below_set ?_ (IsS41.ge HI0.out) | refine below_set ?_ GE115.out | refine below_set ?_ GE128.out) | exact HB.out)); (case side3 => exact cU (Kd.R_reads' HO140.out).2.2); (case side4 => exact (Kd.R_reads' HO140.out).2.1); (case side5 => exact far_slice (IsS41.own_ne HI0.out HO140.out (by decide))); rintro e w46 ⟨rfl, hi, hb, hk⟩; refine ⟨_, rfl, ?_⟩; replace BK115 := Aside0.mk (KeepBut.blk hk (g' := gb115) (o := .cells #[.int .i64 0, .int .i64 0, .int .i64 0, .bool false] 24 (0, 0)) (bV BK115) NB115_0.out (by simp)); replace BK128 := Aside0.mk (KeepBut.blk hk (g' := gb128) (o := .cells #[.int .i64 (wrap64 (t116 - 10)), .int .i64 (wrap64 (t119 - 10)), .int .i64 t122, .bool t125] 24 (0, 0)) (bV BK128) NB128_0.out (by simp)); replace HO140 := Aside0.mk (Kd.R_mono (Kd.R_keep (IsS41.apart (show IsS41 w0 _ g s0_0 t130 t131 from by repeat (first | (with_reducible first | exact HI0.out | apply IsS41.alloc | apply IsS41.drewN | apply IsS41.drew | apply IsS41.set_1 | apply IsS41.set_2 | refine IsS41.far ?_ NB0_115.out _ | refine IsS41.far ?_ NB0_128.out _) | exact HI0.out)) (rU HO140.out) (by decide)) hk (fun _ h => h.2)) (fun _ h => h.1)); replace HK := Aside0.mk (KeepBut.trans (by repeat (first | (with_reducible first | exact HK.out | apply KeepBut.set_ | apply keep_drewN | apply keep_drew | apply keep_alloc | refine keep_far ?_ GW115.out _ | refine keep_far ?_ GW128.out _) | exact HK.out)) hk (.inl rfl)); replace HB := Aside0.mk hb; replace HI0 := Aside0.mk hi; (try clear hb); (try clear hk); (try clear hi); have hcz47_0 := cz BK128 0 (.int .i64 (wrap64 (t116 - 10))); have hcz47_1 := cz BK128 1 (.int .i64 (wrap64 (t119 - 10))); have hcz47_2 := cz BK128 2 (.int .i64 t122); have hcz47_3 := cz BK128 3 (.bool t125); have hfz47_0 := fz BK128 0; have hfz47_1 := fz BK128 1; have hfz47_2 := fz BK128 2; have hfz47_3 := fz BK128 3) | ((with_reducible refine gate_store (t := 3) (p := 28) rfl ?_); refine store_event (t := 3) (p := 28) (v := ?vo_w48) (w1 := (w46.setCell ⟨gb128, 2, none⟩ (.int .i64 t141))) ?hg ?ho ?hn ?hr ?_; (case ho => rfl); (case hg => rfl); (case hn => rfl); (case hr => first | (go_simp; done) | (go_simp; rfl) | (have hq0_ := (blk_cell BK128.out 2).trans (show _ = some _ from rfl); have hf0_ := blk_frozen BK128.out 2; first | (go_simp; done) | (go_simp; rfl))); intro w48 hw; replace HO140 : Aside0 (Kd.R (Kd.int .i64) 3 w48 w.heap.size (fun _ => True) (.slice Ao45 y138.length co45) y138) := ⟨(by rw [hw]; exact (by (with_reducible repeat (first | apply Kd.R_alloc | apply Kd.R_drewN | apply Kd.R_drew)); exact Kd.R_mono (Kd.R_far (p := ⟨gb128, 2, none⟩) (Kd.R_types HO140.out BK128.out (by decide)) (fun _ hk => hk.2) (.int .i64 t141)) (fun _ hk => trivial)))⟩; replace BK115 : Aside0 (w48.heap[gb115]? = some (.cells #[.int .i64 0, .int .i64 0, .int .i64 0, .bool false] 24 (0, 0))) := ⟨(by rw [hw]; exact (bG NB115_128 BK115))⟩; replace BK128 : Aside0 (w48.heap[gb128]? = some (.cells #[.int .i64 (wrap64 (t116 - 10)), .int .i64 (wrap64 (t119 - 10)), .int .i64 t141, .bool t125] 24 (0, 0))) := ⟨(by rw [hw]; exact (by refine bU ?_; refine blk_put (cs := #[.int .i64 (wrap64 (t116 - 10)), .int .i64 (wrap64 (t119 - 10)), .int .i64 t122, .bool t125]) ?_ 2 _ rfl; refine bU ?_; exact BK128.out))⟩; replace HK : Aside0 (KeepBut w w48 g none) := ⟨(by rw [hw]; exact (by repeat (first | (with_reducible first | exact HK.out | apply KeepBut.set_ | apply keep_drewN | apply keep_drew | apply keep_alloc | refine keep_far ?_ GW115.out _ | refine keep_far ?_ GW128.out _) | exact HK.out)))⟩; replace HB : Aside0 (Below w0.heap.size w0 w48) := ⟨(by rw [hw]; exact (by repeat (first | (with_reducible first | exact HB.out | apply below_alloc | apply pw_below_drewN | apply below_drew1 | refine below_set ?_ (IsS41.ge HI0.out) | refine below_set ?_ GE115.out | refine below_set ?_ GE128.out) | exact HB.out)))⟩; replace HI0 : Aside0 (IsS41 w0 w48 g s0_0 t142 t143) := ⟨(by rw [hw]; exact (by repeat (first | (with_reducible first | exact HI0.out | apply IsS41.alloc | apply IsS41.drewN | apply IsS41.drew | apply IsS41.set_1 | apply IsS41.set_2 | refine IsS41.far ?_ NB0_115.out _ | refine IsS41.far ?_ NB0_128.out _) | exact HI0.out)))⟩; clear hw; have hcz49_0 := cz BK128 0 (.int .i64 (wrap64 (t116 - 10))); have hcz49_1 := cz BK128 1 (.int .i64 (wrap64 (t119 - 10))); have hcz49_2 := cz BK128 2 (.int .i64 t141); have hcz49_3 := cz BK128 3 (.bool t125); have hfz49_0 := fz BK128 0; have hfz49_1 := fz BK128 1; have hfz49_2 := fz BK128 2; have hfz49_3 := fz BK128 3; have hnb50 := NB115_0.out; have hnc50 := NB0_115.out; have hcz51_0 := cz BK115 0 (.int .i64 0); have hcz51_1 := cz BK115 1 (.int .i64 0); have hcz51_2 := cz BK115 2 (.int .i64 0); have hcz51_3 := cz BK115 3 (.bool false); have hfz51_0 := fz BK115 0; have hfz51_1 := fz BK115 1; have hfz51_2 := fz BK115 2; have hfz51_3 := fz BK115 3) | ((with_reducible refine gate_store (t := 24) (p := 2) rfl ?_); refine store_event (t := 24) (p := 2) (v := ?vo_w52) (w1 := ((((w48.setCell ⟨gb115, 0, none⟩ (.int .i64 (wrap64 (t116 - 10)))).setCell ⟨gb115, 1, none⟩ (.int .i64 (wrap64 (t119 - 10)))).setCell ⟨gb115, 2, none⟩ (.int .i64 t141)).setCell ⟨gb115, 3, none⟩ (.bool t125))) ?hg ?ho ?hn ?hr ?_; (case ho => rfl); (case hg => rfl); (case hn => rfl); (case hr => first | (go_simp; done) | (go_simp; rfl) | (have hq0_ := (blk_cell BK115.out 0).trans (show _ = some _ from rfl); have hf0_ := blk_frozen BK115.out 0; have hq1_ := (blk_cell BK115.out 1).trans (show _ = some _ from rfl); have hf1_ := blk_frozen BK115.out 1; have hq2_ := (blk_cell BK115.out 2).trans (show _ = some _ from rfl); have hf2_ := blk_frozen BK115.out 2; have hq3_ := (blk_cell BK115.out 3).trans (show _ = some _ from rfl); have hf3_ := blk_frozen BK115.out 3; first | (go_simp; done) | (go_simp; rfl))); intro w52 hw; replace HO140 : Aside0 (Kd.R (Kd.int .i64) 3 w52 w.heap.size (fun _ => True) (.slice Ao45 y138.length co45) y138) := ⟨(by rw [hw]; exact (by (with_reducible repeat (first | apply Kd.R_alloc | apply Kd.R_drewN | apply Kd.R_drew)); exact Kd.R_mono (Kd.R_far (p := ⟨gb115, 3, none⟩) (Kd.R_far (p := ⟨gb115, 2, none⟩) (Kd.R_far (p := ⟨gb115, 1, none⟩) (Kd.R_far (p := ⟨gb115, 0, none⟩) (Kd.R_types HO140.out BK115.out (by decide)) (fun _ hk => hk.2) (.int .i64 (wrap64 (t116 - 10)))) (fun _ hk => hk.2) (.int .i64 (wrap64 (t119 - 10)))) (fun _ hk => hk.2) (.int .i64 t141)) (fun _ hk => hk.2) (.bool t125)) (fun _ hk => trivial)))⟩; replace BK115 : Aside0 (w52.heap[gb115]? = some (.cells #[.int .i64 (wrap64 (t116 - 10)), .int .i64 (wrap64 (t119 - 10)), .int .i64 t141, .bool t125] 24 (0, 0))) := ⟨(by rw [hw]; exact (by refine bU ?_; refine blk_put (cs := #[.int .i64 (wrap64 (t116 - 10)), .int .i64 (wrap64 (t119 - 10)), .int .i64 t141, .bool false]) ?_ 3 _ rfl; refine bU ?_; refine blk_put (cs := #[.int .i64 (wrap64 (t116 - 10)), .int .i64 (wrap64 (t119 - 10)), .int .i64 0, .bool false]) ?_ 2 _ rfl; refine bU ?_; refine blk_put (cs := #[.int .i64 (wrap64 (t116 - 10)), .int .i64 0, .int .i64 0, .bool false]) ?_ 1 _ rfl; refine bU ?_; refine blk_put (cs := #[.int .i64 0, .int .i64 0, .int .i64 0, .bool false]) ?_ 0 _ rfl; refine bU ?_; exact BK115.out))⟩; replace BK128 : Aside0 (w52.heap[gb128]? = some (.cells #[.int .i64 (wrap64 (t116 - 10)), .int .i64 (wrap64 (t119 - 10)), .int .i64 t141, .bool t125] 24 (0, 0))) := ⟨(by rw [hw]; exact (bG NB128_115 BK128))⟩; replace HK : Aside0 (KeepBut w w52 g none) := ⟨(by rw [hw]; exact (by repeat (first | (with_reducible first | exact HK.out | apply KeepBut.set_ | apply keep_drewN | apply keep_drew | apply keep_alloc | refine keep_far ?_ GW115.out _ | refine keep_far ?_ GW128.out _) | exact HK.out)))⟩; replace HB : Aside0 (Below w0.heap.size w0 w52) := ⟨(by rw [hw]; exact (by repeat (first | (with_reducible first | exact HB.out | apply below_alloc | apply pw_below_drewN | apply below_drew1 | refine below_set ?_ (IsS41.ge HI0.out) | refine below_set ?_ GE115.out | refine below_set ?_ GE128.out) | exact HB.out)))⟩; replace HI0 : Aside0 (IsS41 w0 w52 g s0_0 t142 t143) := ⟨(by rw [hw]; exact (by repeat (first | (with_reducible first | exact HI0.out | apply IsS41.alloc | apply IsS41.drewN | apply IsS41.drew | apply IsS41.set_1 | apply IsS41.set_2 | refine IsS41.far ?_ NB0_115.out _ | refine IsS41.far ?_ NB0_128.out _) | exact HI0.out)))⟩; clear hw))
   refine bodyPost_ret (results_cell_row rfl _ _ gb115 24 #[.int .i64 (wrap64 (t116 - 10)), .int .i64 (wrap64 (t119 - 10)), .int .i64 t141, .bool t125] (0, 0) _ rfl (bV BK115) Try.underlying24 rfl (by kernel_rfl)) rfl ?_
   exact ⟨eE, by repeat (first | (with_reducible first | exact HI0.out | apply IsS41.alloc | apply IsS41.drewN | apply IsS41.drew | apply IsS41.set_1 | apply IsS41.set_2 | refine IsS41.far ?_ NB0_115.out _ | refine IsS41.far ?_ NB0_128.out _) | exact HI0.out), by repeat (first | (with_reducible first | exact HB.out | apply below_alloc | apply pw_below_drewN | apply below_drew1 | refine below_set ?_ (IsS41.ge HI0.out) | refine below_set ?_ GE115.out | refine below_set ?_ GE128.out) | exact HB.out), by repeat (first | (with_reducible first | exact HK.out | apply KeepBut.set_ | apply keep_drewN | apply keep_drew | apply keep_alloc | refine keep_far ?_ GW115.out _ | refine keep_far ?_ GW128.out _) | exact HK.out)⟩
  ·rw [if_neg c30] at H
   have c30b0 : (t129 == 1) = false := beq_eq_false_iff_ne.mpr c30
   have c30b1 : (t129 != 1) = true := bne_iff_ne.mpr c30
   simp only [Option.some.injEq, Prod.mk.injEq] at H
   obtain ⟨rfl, rfl, rfl, rfl, rfl, rfl⟩ := H
   go_enter Try.func12, Try.ntmps12
   go_wp2_with (first | ((with_reducible refine gate_dst (N := 2) rfl ?_); refine box_event rfl (N := 2) rfl (cs := #[.int .i64 0, .int .i64 0, .int .i64 0, .bool false]) (t := 24) sE ?_; intro gb115 hg w53 hbox hb; replace HB := Aside0.mk (below_step (by repeat (first | (with_reducible first | exact HB.out | apply below_alloc | apply pw_below_drewN | apply below_drew1 | refine below_set ?_ (IsS41.ge HI0.out)) | exact HB.out)) hb); have BK115 := Aside0.mk hbox; have GW115 := Aside0.mk ((by rw [hg]; exact (keep_size (w := w) (g := g) (row := none) (by repeat (first | (with_reducible first | exact HK.out | apply KeepBut.set_ | apply keep_drewN | apply keep_drew | apply keep_alloc) | exact HK.out))) : w.heap.size ≤ gb115)); have GE115 := Aside0.mk ((Nat.le_trans HW0.out (by rw [hg]; exact (keep_size (w := w) (g := g) (row := none) (by repeat (first | (with_reducible first | exact HK.out | apply KeepBut.set_ | apply keep_drewN | apply keep_drew | apply keep_alloc) | exact HK.out))) : w.heap.size ≤ gb115) : w0.heap.size ≤ gb115)); replace HK := Aside0.mk (KeepBut.trans (by repeat (first | (with_reducible first | exact HK.out | apply KeepBut.set_ | apply keep_drewN | apply keep_drew | apply keep_alloc) | exact HK.out)) (KeepBut.of_below hb g none) (.inl rfl)); have NB0_115 := Aside0.mk ((by rw [hg]; exact Nat.ne_of_lt (IsS41.lt (show IsS41 w0 _ g s0_0 s0_1 s0_2 from by repeat (first | (with_reducible first | exact HI0.out | apply IsS41.alloc | apply IsS41.drewN | apply IsS41.drew | apply IsS41.set_1 | apply IsS41.set_2) | exact HI0.out))) : g ≠ gb115)); have NB115_0 := Aside0.mk ((by rw [hg]; exact Nat.ne_of_gt (IsS41.lt (show IsS41 w0 _ g s0_0 s0_1 s0_2 from by repeat (first | (with_reducible first | exact HI0.out | apply IsS41.alloc | apply IsS41.drewN | apply IsS41.drew | apply IsS41.set_1 | apply IsS41.set_2) | exact HI0.out))) : gb115 ≠ g)); replace HI0 := Aside0.mk (IsS41.below (by repeat (first | (with_reducible first | exact HI0.out | apply IsS41.alloc | apply IsS41.drewN | apply IsS41.drew | apply IsS41.set_1 | apply IsS41.set_2) | exact HI0.out)) hb); clear hb hbox hg) | ((with_reducible refine gate_callee (f := 18) rfl ?_); refine goesL_ (some 5) rfl rfl Try.func18 (by kernel_rfl) rfl #[.pointer (some ⟨g, 0, none⟩), .int .i64 21] rfl aE ?_; (with_reducible refine (spec_l1Cur_pick.calls g s0_0 s0_1 s0_2 21 t116 t117 t118 w0 _ ?side1 ?side2 A2.out).mono ?_); (case side1 => repeat (first | (with_reducible first | exact HI0.out | apply IsS41.alloc | apply IsS41.drewN | apply IsS41.drew | apply IsS41.set_1 | apply IsS41.set_2 | refine IsS41.far ?_ NB0_115.out _) | exact HI0.out)); (case side2 => repeat (first | (with_reducible first | exact HB.out | apply below_alloc | apply pw_below_drewN | apply below_drew1 | refine below_set ?_ (IsS41.ge HI0.out) | refine below_set ?_ GE115.out) | exact HB.out)); rintro e w54 ⟨rfl, hi, hb, hk⟩; refine ⟨_, rfl, ?_⟩; replace BK115 := Aside0.mk (KeepBut.blk hk (g' := gb115) (o := .cells #[.int .i64 0, .int .i64 0, .int .i64 0, .bool false] 24 (0, 0)) (bV BK115) NB115_0.out (by simp)); replace HK := Aside0.mk (KeepBut.trans (by repeat (first | (with_reducible first | exact HK.out | apply KeepBut.set_ | apply keep_drewN | apply keep_drew | apply keep_alloc | refine keep_far ?_ GW115.out _) | exact HK.out)) hk (.inl rfl)); replace HB := Aside0.mk hb; replace HI0 := Aside0.mk hi; (try clear hb); (try clear hk); (try clear hi)) | ((with_reducible refine gate_callee (f := 18) rfl ?_); refine goesL_ (some 8) rfl rfl Try.func18 (by kernel_rfl) rfl #[.pointer (some ⟨g, 0, none⟩), .int .i64 21] rfl aE ?_; (with_reducible refine (spec_l1Cur_pick.calls g s0_0 t117 t118 21 t119 t120 t121 w0 _ ?side1 ?side2 A3.out).mono ?_); (case side1 => repeat (first | (with_reducible first | exact HI0.out | apply IsS41.alloc | apply IsS41.drewN | apply IsS41.drew | apply IsS41.set_1 | apply IsS41.set_2 | refine IsS41.far ?_ NB0_115.out _) | exact HI0.out)); (case side2 => repeat (first | (with_reducible first | exact HB.out | apply below_alloc | apply pw_below_drewN | apply below_drew1 | refine below_set ?_ (IsS41.ge HI0.out) | refine below_set ?_ GE115.out) | exact HB.out)); rintro e w55 ⟨rfl, hi, hb, hk⟩; refine ⟨_, rfl, ?_⟩; replace BK115 := Aside0.mk (KeepBut.blk hk (g' := gb115) (o := .cells #[.int .i64 0, .int .i64 0, .int .i64 0, .bool false] 24 (0, 0)) (bV BK115) NB115_0.out (by simp)); replace HK := Aside0.mk (KeepBut.trans (by repeat (first | (with_reducible first | exact HK.out | apply KeepBut.set_ | apply keep_drewN | apply keep_drew | apply keep_alloc | refine keep_far ?_ GW115.out _) | exact HK.out)) hk (.inl rfl)); replace HB := Aside0.mk hb; replace HI0 := Aside0.mk hi; (try clear hb); (try clear hk); (try clear hi)) | ((with_reducible refine gate_callee (f := 18) rfl ?_); refine goesL_ (some 11) rfl rfl Try.func18 (by kernel_rfl) rfl #[.pointer (some ⟨g, 0, none⟩), .int .i64 4] rfl aE ?_; (with_reducible refine (spec_l1Cur_pick.calls g s0_0 t120 t121 4 t122 t123 t124 w0 _ ?side1 ?side2 A4.out).mono ?_); (case side1 => repeat (first | (with_reducible first | exact HI0.out | apply IsS41.alloc | apply IsS41.drewN | apply IsS41.drew | apply IsS41.set_1 | apply IsS41.set_2 | refine IsS41.far ?_ NB0_115.out _) | exact HI0.out)); (case side2 => repeat (first | (with_reducible first | exact HB.out | apply below_alloc | apply pw_below_drewN | apply below_drew1 | refine below_set ?_ (IsS41.ge HI0.out) | refine below_set ?_ GE115.out) | exact HB.out)); rintro e w56 ⟨rfl, hi, hb, hk⟩; refine ⟨_, rfl, ?_⟩; replace BK115 := Aside0.mk (KeepBut.blk hk (g' := gb115) (o := .cells #[.int .i64 0, .int .i64 0, .int .i64 0, .bool false] 24 (0, 0)) (bV BK115) NB115_0.out (by simp)); replace HK := Aside0.mk (KeepBut.trans (by repeat (first | (with_reducible first | exact HK.out | apply KeepBut.set_ | apply keep_drewN | apply keep_drew | apply keep_alloc | refine keep_far ?_ GW115.out _) | exact HK.out)) hk (.inl rfl)); replace HB := Aside0.mk hb; replace HI0 := Aside0.mk hi; (try clear hb); (try clear hk); (try clear hi)) | ((with_reducible refine gate_callee (f := 30) rfl ?_); refine goesL_ (some 13) rfl rfl Try.func30 (by kernel_rfl) rfl #[.pointer (some ⟨g, 0, none⟩), .int .i64 3] rfl aE ?_; (with_reducible refine (spec_l1Cur_one.calls g s0_0 t123 t124 3 t125 t126 t127 w0 _ ?side1 ?side2 A5.out).mono ?_); (case side1 => repeat (first | (with_reducible first | exact HI0.out | apply IsS41.alloc | apply IsS41.drewN | apply IsS41.drew | apply IsS41.set_1 | apply IsS41.set_2 | refine IsS41.far ?_ NB0_115.out _) | exact HI0.out)); (case side2 => repeat (first | (with_reducible first | exact HB.out | apply below_alloc | apply pw_below_drewN | apply below_drew1 | refine below_set ?_ (IsS41.ge HI0.out) | refine below_set ?_ GE115.out) | exact HB.out)); rintro e w57 ⟨rfl, hi, hb, hk⟩; refine ⟨_, rfl, ?_⟩; replace BK115 := Aside0.mk (KeepBut.blk hk (g' := gb115) (o := .cells #[.int .i64 0, .int .i64 0, .int .i64 0, .bool false] 24 (0, 0)) (bV BK115) NB115_0.out (by simp)); replace HK := Aside0.mk (KeepBut.trans (by repeat (first | (with_reducible first | exact HK.out | apply KeepBut.set_ | apply keep_drewN | apply keep_drew | apply keep_alloc | refine keep_far ?_ GW115.out _) | exact HK.out)) hk (.inl rfl)); replace HB := Aside0.mk hb; replace HI0 := Aside0.mk hi; (try clear hb); (try clear hk); (try clear hi)) | ((with_reducible refine gate_dst (N := 3) rfl ?_); refine box_event rfl (N := 3) rfl (cs := #[.int .i64 0, .int .i64 0, .int .i64 0, .bool false]) (t := 24) sE ?_; intro gb128 hg w58 hbox hb; replace HB := Aside0.mk (below_step (by repeat (first | (with_reducible first | exact HB.out | apply below_alloc | apply pw_below_drewN | apply below_drew1 | refine below_set ?_ (IsS41.ge HI0.out) | refine below_set ?_ GE115.out) | exact HB.out)) hb); have BK128 := Aside0.mk hbox; have GW128 := Aside0.mk ((by rw [hg]; exact (keep_size (w := w) (g := g) (row := none) (by repeat (first | (with_reducible first | exact HK.out | apply KeepBut.set_ | apply keep_drewN | apply keep_drew | apply keep_alloc | refine keep_far ?_ GW115.out _) | exact HK.out))) : w.heap.size ≤ gb128)); have GE128 := Aside0.mk ((Nat.le_trans HW0.out (by rw [hg]; exact (keep_size (w := w) (g := g) (row := none) (by repeat (first | (with_reducible first | exact HK.out | apply KeepBut.set_ | apply keep_drewN | apply keep_drew | apply keep_alloc | refine keep_far ?_ GW115.out _) | exact HK.out))) : w.heap.size ≤ gb128) : w0.heap.size ≤ gb128)); replace HK := Aside0.mk (KeepBut.trans (by repeat (first | (with_reducible first | exact HK.out | apply KeepBut.set_ | apply keep_drewN | apply keep_drew | apply keep_alloc | refine keep_far ?_ GW115.out _) | exact HK.out)) (KeepBut.of_below hb g none) (.inl rfl)); have NB115_128 := nL hg (bV BK115); have NB128_115 := nG hg (bV BK115); replace BK115 := bB (bV BK115) hb; have NB0_128 := Aside0.mk ((by rw [hg]; exact Nat.ne_of_lt (IsS41.lt (show IsS41 w0 _ g s0_0 t126 t127 from by repeat (first | (with_reducible first | exact HI0.out | apply IsS41.alloc | apply IsS41.drewN | apply IsS41.drew | apply IsS41.set_1 | apply IsS41.set_2 | refine IsS41.far ?_ NB0_115.out _) | exact HI0.out))) : g ≠ gb128)); have NB128_0 := Aside0.mk ((by rw [hg]; exact Nat.ne_of_gt (IsS41.lt (show IsS41 w0 _ g s0_0 t126 t127 from by repeat (first | (with_reducible first | exact HI0.out | apply IsS41.alloc | apply IsS41.drewN | apply IsS41.drew | apply IsS41.set_1 | apply IsS41.set_2 | refine IsS41.far ?_ NB0_115.out _) | exact HI0.out))) : gb128 ≠ g)); replace HI0 := Aside0.mk (IsS41.below (by repeat (first | (with_reducible first | exact HI0.out | apply IsS41.alloc | apply IsS41.drewN | apply IsS41.drew | apply IsS41.set_1 | apply IsS41.set_2 | refine IsS41.far ?_ NB0_115.out _) | exact HI0.out)) hb); clear hb hbox hg; have hnb59 := NB128_115.out; have hnc59 := NB115_128.out; have hnb60 := NB128_0.out; have hnc60 := NB0_128.out; have hcz61_0 := cz BK128 0 (.int .i64 0); have hcz61_1 := cz BK128 1 (.int .i64 0); have hcz61_2 := cz BK128 2 (.int .i64 0); have hcz61_3 := cz BK128 3 (.bool false); have hfz61_0 := fz BK128 0; have hfz61_1 := fz BK128 1; have hfz61_2 := fz BK128 2; have hfz61_3 := fz BK128 3) | ((with_reducible refine gate_store (t := 24) (p := 3) rfl ?_); refine store_event (t := 24) (p := 3) (v := ?vo_w62) (w1 := ((((w58.setCell ⟨gb128, 0, none⟩ (.int .i64 (wrap64 (t116 - 10)))).setCell ⟨gb128, 1, none⟩ (.int .i64 (wrap64 (t119 - 10)))).setCell ⟨gb128, 2, none⟩ (.int .i64 t122)).setCell ⟨gb128, 3, none⟩ (.bool t125))) ?hg ?ho ?hn ?hr ?_; (case ho => rfl); (case hg => rfl); (case hn => rfl); (case hr => first | (go_simp; done) | (go_simp; rfl) | (have hq0_ := (blk_cell BK128.out 0).trans (show _ = some _ from rfl); have hf0_ := blk_frozen BK128.out 0; have hq1_ := (blk_cell BK128.out 1).trans (show _ = some _ from rfl); have hf1_ := blk_frozen BK128.out 1; have hq2_ := (blk_cell BK128.out 2).trans (show _ = some _ from rfl); have hf2_ := blk_frozen BK128.out 2; have hq3_ := (blk_cell BK128.out 3).trans (show _ = some _ from rfl); have hf3_ := blk_frozen BK128.out 3; first | (go_simp; done) | (go_simp; rfl))); intro w62 hw; replace BK115 : Aside0 (w62.heap[gb115]? = some (.cells #[.int .i64 0, .int .i64 0, .int .i64 0, .bool false] 24 (0, 0))) := ⟨(by rw [hw]; exact (bG NB115_128 BK115))⟩; replace BK128 : Aside0 (w62.heap[gb128]? = some (.cells #[.int .i64 (wrap64 (t116 - 10)), .int .i64 (wrap64 (t119 - 10)), .int .i64 t122, .bool t125] 24 (0, 0))) := ⟨(by rw [hw]; exact (by refine bU ?_; refine blk_put (cs := #[.int .i64 (wrap64 (t116 - 10)), .int .i64 (wrap64 (t119 - 10)), .int .i64 t122, .bool false]) ?_ 3 _ rfl; refine bU ?_; refine blk_put (cs := #[.int .i64 (wrap64 (t116 - 10)), .int .i64 (wrap64 (t119 - 10)), .int .i64 0, .bool false]) ?_ 2 _ rfl; refine bU ?_; refine blk_put (cs := #[.int .i64 (wrap64 (t116 - 10)), .int .i64 0, .int .i64 0, .bool false]) ?_ 1 _ rfl; refine bU ?_; refine blk_put (cs := #[.int .i64 0, .int .i64 0, .int .i64 0, .bool false]) ?_ 0 _ rfl; refine bU ?_; exact BK128.out))⟩; replace HK : Aside0 (KeepBut w w62 g none) := ⟨(by rw [hw]; exact (by repeat (first | (with_reducible first | exact HK.out | apply KeepBut.set_ | apply keep_drewN | apply keep_drew | apply keep_alloc | refine keep_far ?_ GW115.out _ | refine keep_far ?_ GW128.out _) | exact HK.out)))⟩; replace HB : Aside0 (Below w0.heap.size w0 w62) := ⟨(by rw [hw]; exact (by repeat (first | (with_reducible first | exact HB.out | apply below_alloc | apply pw_below_drewN | apply below_drew1 | refine below_set ?_ (IsS41.ge HI0.out) | refine below_set ?_ GE115.out | refine below_set ?_ GE128.out) | exact HB.out)))⟩; replace HI0 : Aside0 (IsS41 w0 w62 g s0_0 t126 t127) := ⟨(by rw [hw]; exact (by repeat (first | (with_reducible first | exact HI0.out | apply IsS41.alloc | apply IsS41.drewN | apply IsS41.drew | apply IsS41.set_1 | apply IsS41.set_2 | refine IsS41.far ?_ NB0_115.out _ | refine IsS41.far ?_ NB0_128.out _) | exact HI0.out)))⟩; clear hw) | ((with_reducible refine gate_callee (f := 18) rfl ?_); refine goesL_ (some 16) rfl rfl Try.func18 (by kernel_rfl) rfl #[.pointer (some ⟨g, 0, none⟩), .int .i64 30] rfl aE ?_; (with_reducible refine (spec_l1Cur_pick.calls g s0_0 t126 t127 30 t129 t130 t131 w0 _ ?side1 ?side2 A6.out).mono ?_); (case side1 => repeat (first | (with_reducible first | exact HI0.out | apply IsS41.alloc | apply IsS41.drewN | apply IsS41.drew | apply IsS41.set_1 | apply IsS41.set_2 | refine IsS41.far ?_ NB0_115.out _ | refine IsS41.far ?_ NB0_128.out _) | exact HI0.out)); (case side2 => repeat (first | (with_reducible first | exact HB.out | apply below_alloc | apply pw_below_drewN | apply below_drew1 | refine below_set ?_ (IsS41.ge HI0.out) | refine below_set ?_ GE115.out | refine below_set ?_ GE128.out) | exact HB.out)); rintro e w63 ⟨rfl, hi, hb, hk⟩; refine ⟨_, rfl, ?_⟩; replace BK115 := Aside0.mk (KeepBut.blk hk (g' := gb115) (o := .cells #[.int .i64 0, .int .i64 0, .int .i64 0, .bool false] 24 (0, 0)) (bV BK115) NB115_0.out (by simp)); replace BK128 := Aside0.mk (KeepBut.blk hk (g' := gb128) (o := .cells #[.int .i64 (wrap64 (t116 - 10)), .int .i64 (wrap64 (t119 - 10)), .int .i64 t122, .bool t125] 24 (0, 0)) (bV BK128) NB128_0.out (by simp)); replace HK := Aside0.mk (KeepBut.trans (by repeat (first | (with_reducible first | exact HK.out | apply KeepBut.set_ | apply keep_drewN | apply keep_drew | apply keep_alloc | refine keep_far ?_ GW115.out _ | refine keep_far ?_ GW128.out _) | exact HK.out)) hk (.inl rfl)); replace HB := Aside0.mk hb; replace HI0 := Aside0.mk hi; (try clear hb); (try clear hk); (try clear hi); have hcz64_0 := cz BK128 0 (.int .i64 (wrap64 (t116 - 10))); have hcz64_1 := cz BK128 1 (.int .i64 (wrap64 (t119 - 10))); have hcz64_2 := cz BK128 2 (.int .i64 t122); have hcz64_3 := cz BK128 3 (.bool t125); have hfz64_0 := fz BK128 0; have hfz64_1 := fz BK128 1; have hfz64_2 := fz BK128 2; have hfz64_3 := fz BK128 3; have hnb65 := NB115_0.out; have hnc65 := NB0_115.out; have hcz66_0 := cz BK115 0 (.int .i64 0); have hcz66_1 := cz BK115 1 (.int .i64 0); have hcz66_2 := cz BK115 2 (.int .i64 0); have hcz66_3 := cz BK115 3 (.bool false); have hfz66_0 := fz BK115 0; have hfz66_1 := fz BK115 1; have hfz66_2 := fz BK115 2; have hfz66_3 := fz BK115 3) | ((with_reducible refine gate_store (t := 24) (p := 2) rfl ?_); refine store_event (t := 24) (p := 2) (v := ?vo_w67) (w1 := ((((w63.setCell ⟨gb115, 0, none⟩ (.int .i64 (wrap64 (t116 - 10)))).setCell ⟨gb115, 1, none⟩ (.int .i64 (wrap64 (t119 - 10)))).setCell ⟨gb115, 2, none⟩ (.int .i64 t122)).setCell ⟨gb115, 3, none⟩ (.bool t125))) ?hg ?ho ?hn ?hr ?_; (case ho => rfl); (case hg => rfl); (case hn => rfl); (case hr => first | (go_simp; done) | (go_simp; rfl) | (have hq0_ := (blk_cell BK115.out 0).trans (show _ = some _ from rfl); have hf0_ := blk_frozen BK115.out 0; have hq1_ := (blk_cell BK115.out 1).trans (show _ = some _ from rfl); have hf1_ := blk_frozen BK115.out 1; have hq2_ := (blk_cell BK115.out 2).trans (show _ = some _ from rfl); have hf2_ := blk_frozen BK115.out 2; have hq3_ := (blk_cell BK115.out 3).trans (show _ = some _ from rfl); have hf3_ := blk_frozen BK115.out 3; first | (go_simp; done) | (go_simp; rfl))); intro w67 hw; replace BK115 : Aside0 (w67.heap[gb115]? = some (.cells #[.int .i64 (wrap64 (t116 - 10)), .int .i64 (wrap64 (t119 - 10)), .int .i64 t122, .bool t125] 24 (0, 0))) := ⟨(by rw [hw]; exact (by refine bU ?_; refine blk_put (cs := #[.int .i64 (wrap64 (t116 - 10)), .int .i64 (wrap64 (t119 - 10)), .int .i64 t122, .bool false]) ?_ 3 _ rfl; refine bU ?_; refine blk_put (cs := #[.int .i64 (wrap64 (t116 - 10)), .int .i64 (wrap64 (t119 - 10)), .int .i64 0, .bool false]) ?_ 2 _ rfl; refine bU ?_; refine blk_put (cs := #[.int .i64 (wrap64 (t116 - 10)), .int .i64 0, .int .i64 0, .bool false]) ?_ 1 _ rfl; refine bU ?_; refine blk_put (cs := #[.int .i64 0, .int .i64 0, .int .i64 0, .bool false]) ?_ 0 _ rfl; refine bU ?_; exact BK115.out))⟩; replace BK128 : Aside0 (w67.heap[gb128]? = some (.cells #[.int .i64 (wrap64 (t116 - 10)), .int .i64 (wrap64 (t119 - 10)), .int .i64 t122, .bool t125] 24 (0, 0))) := ⟨(by rw [hw]; exact (bG NB128_115 BK128))⟩; replace HK : Aside0 (KeepBut w w67 g none) := ⟨(by rw [hw]; exact (by repeat (first | (with_reducible first | exact HK.out | apply KeepBut.set_ | apply keep_drewN | apply keep_drew | apply keep_alloc | refine keep_far ?_ GW115.out _ | refine keep_far ?_ GW128.out _) | exact HK.out)))⟩; replace HB : Aside0 (Below w0.heap.size w0 w67) := ⟨(by rw [hw]; exact (by repeat (first | (with_reducible first | exact HB.out | apply below_alloc | apply pw_below_drewN | apply below_drew1 | refine below_set ?_ (IsS41.ge HI0.out) | refine below_set ?_ GE115.out | refine below_set ?_ GE128.out) | exact HB.out)))⟩; replace HI0 : Aside0 (IsS41 w0 w67 g s0_0 t130 t131) := ⟨(by rw [hw]; exact (by repeat (first | (with_reducible first | exact HI0.out | apply IsS41.alloc | apply IsS41.drewN | apply IsS41.drew | apply IsS41.set_1 | apply IsS41.set_2 | refine IsS41.far ?_ NB0_115.out _ | refine IsS41.far ?_ NB0_128.out _) | exact HI0.out)))⟩; clear hw))
   refine bodyPost_ret (results_cell_row rfl _ _ gb115 24 #[.int .i64 (wrap64 (t116 - 10)), .int .i64 (wrap64 (t119 - 10)), .int .i64 t122, .bool t125] (0, 0) _ rfl (bV BK115) Try.underlying24 rfl (by kernel_rfl)) rfl ?_
   exact ⟨eE, by repeat (first | (with_reducible first | exact HI0.out | apply IsS41.alloc | apply IsS41.drewN | apply IsS41.drew | apply IsS41.set_1 | apply IsS41.set_2 | refine IsS41.far ?_ NB0_115.out _ | refine IsS41.far ?_ NB0_128.out _) | exact HI0.out), by repeat (first | (with_reducible first | exact HB.out | apply below_alloc | apply pw_below_drewN | apply below_drew1 | refine below_set ?_ (IsS41.ge HI0.out) | refine below_set ?_ GE115.out | refine below_set ?_ GE128.out) | exact HB.out), by repeat (first | (with_reducible first | exact HK.out | apply KeepBut.set_ | apply keep_drewN | apply keep_drew | apply keep_alloc | refine keep_far ?_ GW115.out _ | refine keep_far ?_ GW128.out _) | exact HK.out)⟩
def spec_DrawBackSpot.f (l0 : List Int) : Option (Int × Int × Int × Bool) := (spec_l1Cur_spot.f l0 0 0).bind fun bt146 => (some (bt146.1, bt146.2.1, bt146.2.2.1, bt146.2.2.2.1))
set_option maxHeartbeats 8000000 in
set_option maxRecDepth 100000 in
theorem spec_DrawBackSpot.calls (A0 : Option Addr) (c0 : Nat) (l0 : List Int) (r1 : Int) (r2 : Int) (r3 : Int) (r4 : Bool) (w : World) (hr0 : Kd.C (Kd.int .u8) w A0 l0.length l0) (hc0 : l0.length ≤ c0) (h : spec_DrawBackSpot.f l0 = some (r1, r2, r3, r4)) :
  Calls Try.prog 4 #[.slice A0 l0.length c0] w fun e w' => e = .returned (.agg #[.int .i64 r1, .int .i64 r2, .int .i64 r3, .bool r4]) ∧ Below w.heap.size w w' := by
 have hu24 := Try.underlying24
 have hu41 := Try.underlying41
 have HR0 := Aside0.mk hr0
 have HC0 := Aside0.mk hc0
 clear hr0 hc0
 have HB := Aside0.mk (Below.refl w.heap.size w)
 have H : ((spec_l1Cur_spot.f l0 0 0).bind fun bt146 => (some (bt146.1, bt146.2.1, bt146.2.2.1, bt146.2.2.2.1))) = some (r1, r2, r3, r4) := h
 clear h
 replace H := Option.bind_eq_some_iff.mp H
 obtain ⟨⟨t146, t147, t148, t149, t150, t151⟩, A20, H⟩ := H
 replace H : (some (t146, t147, t148, t149)) = some (r1, r2, r3, r4) := H
 have A2 := Aside0.mk A20
 clear A20
 simp only [Option.some.injEq, Prod.mk.injEq] at H
 obtain ⟨rfl, rfl, rfl, rfl⟩ := H
 go_enter Try.func4, Try.ntmps4
 go_wp2_with (first | ((with_reducible refine gate_dst (N := 2) rfl ?_); refine box_event rfl (N := 2) rfl (cs := #[.int .i64 0, .int .i64 0, .int .i64 0, .bool false]) (t := 24) sE ?_; intro gb144 hg w3 hbox hb; have BK144 := Aside0.mk hbox; have GW144 := gS w hg (lU); have GE144 := gS w hg (lU); replace HB := bH (lU) hb; clear hb hbox hg) | ((with_reducible refine gate_dst (N := 6) rfl ?_); refine box_event rfl (N := 6) rfl (cs := #[.slice A0 l0.length c0, .int .i64 0, .int .u64 0]) (t := 41) sE ?_; intro gb145 hg w4 hbox hb; have NB144_145 := nL hg (bV BK144); have NB145_144 := nG hg (bV BK144); replace BK144 := bB (bV BK144) hb; have HI145 := Aside0.mk ((⟨_, _, hbox, (by rw [hg]; exact (below_size (lV1 GE144)) : w.heap.size ≤ gb145), HR0.out⟩ : IsS41 w w4 gb145 l0 0 0)); replace HB := bH (lV1 GE144) hb; clear hb hbox hg) | ((with_reducible refine gate_callee (f := 12) rfl ?_); refine goesL_ (some 8) rfl rfl Try.func12 (by kernel_rfl) rfl #[.pointer (some ⟨gb145, 0, none⟩)] rfl aE ?_; (with_reducible refine (spec_l1Cur_spot.calls gb145 l0 0 0 t146 t147 t148 t149 t150 t151 w _ ?side1 ?side2 A2.out).mono ?_); (case side1 => repeat (first | (with_reducible first | exact HI145.out | apply IsS41.alloc | apply IsS41.drewN | apply IsS41.drew | apply IsS41.set_1 | apply IsS41.set_2 | refine IsS41.far ?_ NB145_144.out _) | exact HI145.out)); (case side2 => repeat (first | (with_reducible first | exact HB.out | apply below_alloc | apply pw_below_drewN | apply below_drew1 | refine below_set ?_ (IsS41.ge HI145.out) | refine below_set ?_ GE144.out) | exact HB.out)); rintro e w5 ⟨rfl, hi, hb, hk⟩; refine ⟨_, rfl, ?_⟩; replace BK144 := Aside0.mk (KeepBut.blk hk (g' := gb144) (o := .cells #[.int .i64 0, .int .i64 0, .int .i64 0, .bool false] 24 (0, 0)) (bV BK144) NB144_145.out (by simp)); replace HB := Aside0.mk hb; replace HI145 := Aside0.mk hi; (try clear hb); (try clear hk); (try clear hi); have hnb6 := NB144_145.out; have hnc6 := NB145_144.out; have hcz7_0 := cz BK144 0 (.int .i64 0); have hcz7_1 := cz BK144 1 (.int .i64 0); have hcz7_2 := cz BK144 2 (.int .i64 0); have hcz7_3 := cz BK144 3 (.bool false); have hfz7_0 := fz BK144 0; have hfz7_1 := fz BK144 1; have hfz7_2 := fz BK144 2; have hfz7_3 := fz BK144 3) | ((with_reducible refine gate_store (t := 24) (p := 2) rfl ?_); refine store_event (t := 24) (p := 2) (v := ?vo_w8) (w1 := ((((w5.setCell ⟨gb144, 0, none⟩ (.int .i64 t146)).setCell ⟨gb144, 1, none⟩ (.int .i64 t147)).setCell ⟨gb144, 2, none⟩ (.int .i64 t148)).setCell ⟨gb144, 3, none⟩ (.bool t149))) ?hg ?ho ?hn ?hr ?_; (case ho => rfl); (case hg => rfl); (case hn => rfl); (case hr => first | (go_simp; done) | (go_simp; rfl) | (have hq0_ := (blk_cell BK144.out 0).trans (show _ = some _ from rfl); have hf0_ := blk_frozen BK144.out 0; have hq1_ := (blk_cell BK144.out 1).trans (show _ = some _ from rfl); have hf1_ := blk_frozen BK144.out 1; have hq2_ := (blk_cell BK144.out 2).trans (show _ = some _ from rfl); have hf2_ := blk_frozen BK144.out 2; have hq3_ := (blk_cell BK144.out 3).trans (show _ = some _ from rfl); have hf3_ := blk_frozen BK144.out 3; first | (go_simp; done) | (go_simp; rfl))); intro w8 hw; replace BK144 : Aside0 (w8.heap[gb144]? = some (.cells #[.int .i64 t146, .int .i64 t147, .int .i64 t148, .bool t149] 24 (0, 0))) := ⟨(by rw [hw]; exact (by refine bU ?_; refine blk_put (cs := #[.int .i64 t146, .int .i64 t147, .int .i64 t148, .bool false]) ?_ 3 _ rfl; refine bU ?_; refine blk_put (cs := #[.int .i64 t146, .int .i64 t147, .int .i64 0, .bool false]) ?_ 2 _ rfl; refine bU ?_; refine blk_put (cs := #[.int .i64 t146, .int .i64 0, .int .i64 0, .bool false]) ?_ 1 _ rfl; refine bU ?_; refine blk_put (cs := #[.int .i64 0, .int .i64 0, .int .i64 0, .bool false]) ?_ 0 _ rfl; refine bU ?_; exact BK144.out))⟩; replace HB : Aside0 (Below w.heap.size w w8) := ⟨(by rw [hw]; exact (by repeat (first | (with_reducible first | exact HB.out | apply below_alloc | apply pw_below_drewN | apply below_drew1 | refine below_set ?_ (IsS41.ge HI145.out) | refine below_set ?_ GE144.out) | exact HB.out)))⟩; replace HI145 : Aside0 (IsS41 w w8 gb145 l0 t150 t151) := ⟨(by rw [hw]; exact (by repeat (first | (with_reducible first | exact HI145.out | apply IsS41.alloc | apply IsS41.drewN | apply IsS41.drew | apply IsS41.set_1 | apply IsS41.set_2 | refine IsS41.far ?_ NB145_144.out _) | exact HI145.out)))⟩; clear hw))
 refine bodyPost_ret (results_cell_row rfl _ _ gb144 24 #[.int .i64 t146, .int .i64 t147, .int .i64 t148, .bool t149] (0, 0) _ rfl (bV BK144) Try.underlying24 rfl (by kernel_rfl)) rfl ?_
 exact ⟨eE, by repeat (first | (with_reducible first | exact HB.out | apply below_alloc | apply pw_below_drewN | apply below_drew1 | refine below_set ?_ (IsS41.ge HI145.out) | refine below_set ?_ GE144.out) | exact HB.out)⟩
def impl_inRange.f (a0 : Int) (a1 : Int) (a2 : Int) : Option (Bool) := if a1 ≤ a0 then (some (decide (a0 ≤ a2))) else (some false)
set_option maxHeartbeats 8000000 in
set_option maxRecDepth 100000 in
theorem impl_inRange.calls (a0 : Int) (a1 : Int) (a2 : Int) (r : Bool) (w : World) (h : impl_inRange.f a0 a1 a2 = some r) :
  Calls Try.prog 21 #[.int .i64 a0, .int .i64 a1, .int .i64 a2] w fun e w' => e = .returned (.bool r) ∧ Drawn0 w w' := by
 have H : (if a1 ≤ a0 then (some (decide (a0 ≤ a2))) else (some false)) = some r := h
 clear h
 by_cases c4 : a1 ≤ a0
 ·rw [if_pos c4] at H
  have c4b0 : decide (a1 ≤ a0) = true := decide_eq_true c4
  clear c4
  obtain rfl := Option.some.inj H
  go_enter Try.func21, Try.ntmps21
  go_wp2
  go_ret
  exact ⟨by first | rfl | (simp; done) | (simp [*]; done) | exact not_isEmpty _ | exact (not_isEmpty _).symm | exact is_empty _ | exact (is_empty _).symm, by repeat (first | exact Drawn0.refl _ | apply Drawn0.step)⟩
 ·rw [if_neg c4] at H
  have c4b0 : decide (a1 ≤ a0) = false := decide_eq_false c4
  clear c4
  obtain rfl := Option.some.inj H
  go_enter Try.func21, Try.ntmps21
  go_wp2
  go_ret
  exact ⟨by first | rfl | (simp; done) | (simp [*]; done) | exact not_isEmpty _ | exact (not_isEmpty _).symm | exact is_empty _ | exact (is_empty _).symm, by repeat (first | exact Drawn0.refl _ | apply Drawn0.step)⟩
def impl_isSpot.f (a0_0 : Int) (a0_1 : Int) (a0_2 : Int) (a0_3 : Bool) : Option (Bool) := (impl_inRange.f a0_0 (-1000000) 1000000).bind fun t153 => (if t153 = true then ((impl_inRange.f a0_1 (-1000000) 1000000).bind fun t154 => (if t154 = true then ((impl_inRange.f a0_2 0 3).bind fun t155 => (some t155)) else (some false))) else (some false))
set_option maxHeartbeats 8000000 in
set_option maxRecDepth 100000 in
theorem impl_isSpot.calls (a0_0 : Int) (a0_1 : Int) (a0_2 : Int) (a0_3 : Bool) (r : Bool) (w : World) (h : impl_isSpot.f a0_0 a0_1 a0_2 a0_3 = some r) :
  Calls Try.prog 13 #[.agg #[.int .i64 a0_0, .int .i64 a0_1, .int .i64 a0_2, .bool a0_3]] w fun e w' => e = .returned (.bool r) ∧ Below w.heap.size w w' := by
 have hu24 := Try.underlying24
 have HB := Aside0.mk (Below.refl w.heap.size w)
 have H : ((impl_inRange.f a0_0 (-1000000) 1000000).bind fun t153 => (if t153 = true then ((impl_inRange.f a0_1 (-1000000) 1000000).bind fun t154 => (if t154 = true then ((impl_inRange.f a0_2 0 3).bind fun t155 => (some t155)) else (some false))) else (some false))) = some r := h
 clear h
 replace H := Option.bind_eq_some_iff.mp H
 obtain ⟨t153, A20, H⟩ := H
 replace H : (if t153 = true then ((impl_inRange.f a0_1 (-1000000) 1000000).bind fun t154 => (if t154 = true then ((impl_inRange.f a0_2 0 3).bind fun t155 => (some t155)) else (some false))) else (some false)) = some r := H
 have A2 := Aside0.mk A20
 clear A20
 by_cases c3 : t153 = true
 ·subst c3
  have H1 : ((impl_inRange.f a0_1 (-1000000) 1000000).bind fun t154 => (if t154 = true then ((impl_inRange.f a0_2 0 3).bind fun t155 => (some t155)) else (some false))) = some r := by rw [if_pos rfl] at H; exact H
  clear H
  have H := H1
  clear H1
  replace H := Option.bind_eq_some_iff.mp H
  obtain ⟨t154, A40, H⟩ := H
  replace H : (if t154 = true then ((impl_inRange.f a0_2 0 3).bind fun t155 => (some t155)) else (some false)) = some r := H
  have A4 := Aside0.mk A40
  clear A40
  by_cases c5 : t154 = true
  ·subst c5
   have H1 : ((impl_inRange.f a0_2 0 3).bind fun t155 => (some t155)) = some r := by rw [if_pos rfl] at H; exact H
   clear H
   have H := H1
   clear H1
   replace H := Option.bind_eq_some_iff.mp H
   obtain ⟨t155, A60, H⟩ := H
   replace H : (some t155) = some r := H
   have A6 := Aside0.mk A60
   clear A60
   obtain rfl := Option.some.inj H
   go_enter Try.func13, Try.ntmps13
   go_wp2_with (first | ((with_reducible refine gate_dst (N := 1) rfl ?_); refine box_event rfl (N := 1) rfl (cs := #[.int .i64 a0_0, .int .i64 a0_1, .int .i64 a0_2, .bool a0_3]) (t := 24) sE ?_; intro gb152 hg w7 hbox hb; have BK152 := Aside0.mk hbox; have GW152 := gS w hg (lU); have GE152 := gS w hg (lU); replace HB := bH (lU) hb; clear hb hbox hg; have hcz8_0 := cz BK152 0 (.int .i64 a0_0); have hcz8_1 := cz BK152 1 (.int .i64 a0_1); have hcz8_2 := cz BK152 2 (.int .i64 a0_2); have hcz8_3 := cz BK152 3 (.bool a0_3); have hfz8_0 := fz BK152 0; have hfz8_1 := fz BK152 1; have hfz8_2 := fz BK152 2; have hfz8_3 := fz BK152 3) | ((with_reducible refine gate_callee (f := 21) rfl ?_); refine goesL_ (some 5) rfl rfl Try.func21 (by kernel_rfl) rfl #[.int .i64 a0_0, .int .i64 (-1000000), .int .i64 1000000] rfl aE ?_; (with_reducible refine (impl_inRange.calls a0_0 (-1000000) 1000000 true _ A2.out).mono ?_); rintro e w' ⟨rfl, ⟨nd, rfl⟩⟩; refine ⟨_, rfl, ?_⟩) | (go_at_call 21; (with_reducible refine (impl_inRange.calls a0_1 (-1000000) 1000000 true _ A4.out).mono ?_); rintro e w' ⟨rfl, ⟨nd, rfl⟩⟩) | (go_at_call 21; (with_reducible refine (impl_inRange.calls a0_2 0 3 t155 _ A6.out).mono ?_); rintro e w' ⟨rfl, ⟨nd, rfl⟩⟩))
   go_ret
   exact ⟨eE, lV1 GE152⟩
  ·replace c5 := Bool.eq_false_iff.mpr c5
   subst c5
   have H1 : (some false) = some r := by rw [if_neg (show ¬ (false = true) by decide)] at H; exact H
   clear H
   have H := H1
   clear H1
   obtain rfl := Option.some.inj H
   go_enter Try.func13, Try.ntmps13
   go_wp2_with (first | ((with_reducible refine gate_dst (N := 1) rfl ?_); refine box_event rfl (N := 1) rfl (cs := #[.int .i64 a0_0, .int .i64 a0_1, .int .i64 a0_2, .bool a0_3]) (t := 24) sE ?_; intro gb152 hg w9 hbox hb; have BK152 := Aside0.mk hbox; have GW152 := gS w hg (lU); have GE152 := gS w hg (lU); replace HB := bH (lU) hb; clear hb hbox hg; have hcz10_0 := cz BK152 0 (.int .i64 a0_0); have hcz10_1 := cz BK152 1 (.int .i64 a0_1); have hcz10_2 := cz BK152 2 (.int .i64 a0_2); have hcz10_3 := cz BK152 3 (.bool a0_3); have hfz10_0 := fz BK152 0; have hfz10_1 := fz BK152 1; have hfz10_2 := fz BK152 2; have hfz10_3 := fz BK152 3) | ((with_reducible refine gate_callee (f := 21) rfl ?_); refine goesL_ (some 5) rfl rfl Try.func21 (by kernel_rfl) rfl #[.int .i64 a0_0, .int .i64 (-1000000), .int .i64 1000000] rfl aE ?_; (with_reducible refine (impl_inRange.calls a0_0 (-1000000) 1000000 true _ A2.out).mono ?_); rintro e w' ⟨rfl, ⟨nd, rfl⟩⟩; refine ⟨_, rfl, ?_⟩) | (go_at_call 21; (with_reducible refine (impl_inRange.calls a0_1 (-1000000) 1000000 false _ A4.out).mono ?_); rintro e w' ⟨rfl, ⟨nd, rfl⟩⟩))
   go_ret
   exact ⟨eE, lV1 GE152⟩
 ·replace c3 := Bool.eq_false_iff.mpr c3
  subst c3
  have H1 : (some false) = some r := by rw [if_neg (show ¬ (false = true) by decide)] at H; exact H
  clear H
  have H := H1
  clear H1
  obtain rfl := Option.some.inj H
  go_enter Try.func13, Try.ntmps13
  go_wp2_with (first | ((with_reducible refine gate_dst (N := 1) rfl ?_); refine box_event rfl (N := 1) rfl (cs := #[.int .i64 a0_0, .int .i64 a0_1, .int .i64 a0_2, .bool a0_3]) (t := 24) sE ?_; intro gb152 hg w11 hbox hb; have BK152 := Aside0.mk hbox; have GW152 := gS w hg (lU); have GE152 := gS w hg (lU); replace HB := bH (lU) hb; clear hb hbox hg; have hcz12_0 := cz BK152 0 (.int .i64 a0_0); have hcz12_1 := cz BK152 1 (.int .i64 a0_1); have hcz12_2 := cz BK152 2 (.int .i64 a0_2); have hcz12_3 := cz BK152 3 (.bool a0_3); have hfz12_0 := fz BK152 0; have hfz12_1 := fz BK152 1; have hfz12_2 := fz BK152 2; have hfz12_3 := fz BK152 3) | ((with_reducible refine gate_callee (f := 21) rfl ?_); refine goesL_ (some 5) rfl rfl Try.func21 (by kernel_rfl) rfl #[.int .i64 a0_0, .int .i64 (-1000000), .int .i64 1000000] rfl aE ?_; (with_reducible refine (impl_inRange.calls a0_0 (-1000000) 1000000 false _ A2.out).mono ?_); rintro e w' ⟨rfl, ⟨nd, rfl⟩⟩; refine ⟨_, rfl, ?_⟩))
  go_ret
  exact ⟨eE, lV1 GE152⟩
mutual
def impl_Spot_turned.j0 : Nat → Int → Int → Int → Int → Int → Bool → Option (Int × Int)
 | 0, _, _, _, _, _, _ => none
 | k + 1, x1, x2, x157000, x157001, x157002, x157003 => impl_Spot_turned.l0 k x1 x2 x157002 0
def impl_Spot_turned.l0 : Nat → Int → Int → Int → Int → Option (Int × Int)
 | 0, _, _, _, _ => none
 | k + 1, x1, x2, x13, x14 => if x14 < x13 then (impl_Spot_turned.l0 k (wrap64 (-x2)) x1 x13 (wrap64 (x14 + 1))) else (some (x1, x2))
end
def impl_Spot_turned.f (k : Nat) (a0_0 : Int) (a0_1 : Int) (a0_2 : Int) (a0_3 : Bool) (a1 : Int) (a2 : Int) : Option (Int × Int) := if a0_3 = true then (impl_Spot_turned.j0 k (wrap64 (-a1)) a2 a0_0 a0_1 a0_2 true) else (impl_Spot_turned.j0 k a1 a2 a0_0 a0_1 a0_2 false)
theorem impl_Spot_turned.mono_l : ∀ k, (∀ y0 y1 y2 y3 y4 y5, LeO (impl_Spot_turned.j0 k y0 y1 y2 y3 y4 y5) (impl_Spot_turned.j0 (k + 1) y0 y1 y2 y3 y4 y5)) ∧ (∀ y0 y1 y2 y3, LeO (impl_Spot_turned.l0 k y0 y1 y2 y3) (impl_Spot_turned.l0 (k + 1) y0 y1 y2 y3))
 | 0 => ⟨fun _ _ _ _ _ _ r h => by simp [impl_Spot_turned.j0] at h, fun _ _ _ _ r h => by simp [impl_Spot_turned.l0] at h⟩
 | k + 1 => by
  obtain ⟨ih0, ih1⟩ := impl_Spot_turned.mono_l k
  refine ⟨?_, ?_⟩
  ·intro y0 y1 y2 y3 y4 y5
   unfold impl_Spot_turned.j0
   repeat' first
   | (with_reducible exact ih0 _ _ _ _ _ _)
   | (with_reducible exact ih1 _ _ _ _)
   | (with_reducible first | exact LeO.refl _ | exact LeO.none _ | refine LeO.ite ?_ ?_ | refine LeO.bind ?_ (fun _ => ?_))
   | exact ih0 _ _ _ _ _ _
   | exact ih1 _ _ _ _ | exact LeO.none _ | refine LeO.ite ?_ ?_ | refine LeO.bind ?_ (fun _ => ?_)
  ·intro y0 y1 y2 y3
   unfold impl_Spot_turned.l0
   repeat' first
   | (with_reducible exact ih0 _ _ _ _ _ _)
   | (with_reducible exact ih1 _ _ _ _)
   | (with_reducible first | exact LeO.refl _ | exact LeO.none _ | refine LeO.ite ?_ ?_ | refine LeO.bind ?_ (fun _ => ?_))
   | exact ih0 _ _ _ _ _ _
   | exact ih1 _ _ _ _ | exact LeO.none _ | refine LeO.ite ?_ ?_ | refine LeO.bind ?_ (fun _ => ?_)
theorem impl_Spot_turned.mono : ∀ a0 a1 a2 a3 a4 a5 k, LeO (impl_Spot_turned.f k a0 a1 a2 a3 a4 a5) (impl_Spot_turned.f (k + 1) a0 a1 a2 a3 a4 a5) := by
 intro a0 a1 a2 a3 a4 a5 k
 obtain ⟨ih0, ih1⟩ := impl_Spot_turned.mono_l k
 unfold impl_Spot_turned.f
 repeat' first
   | (with_reducible exact ih0 _ _ _ _ _ _)
   | (with_reducible exact ih1 _ _ _ _)
   | (with_reducible first | exact LeO.refl _ | exact LeO.none _ | refine LeO.ite ?_ ?_ | refine LeO.bind ?_ (fun _ => ?_))
   | exact ih0 _ _ _ _ _ _
   | exact ih1 _ _ _ _ | exact LeO.none _ | refine LeO.ite ?_ ?_ | refine LeO.bind ?_ (fun _ => ?_)
set_option maxHeartbeats 8000000 in
set_option maxRecDepth 100000 in
theorem impl_Spot_turned.calls (k : Nat) (a0_0 : Int) (a0_1 : Int) (a0_2 : Int) (a0_3 : Bool) (a1 : Int) (a2 : Int) (r1 : Int) (r2 : Int) (w : World) (h : impl_Spot_turned.f k a0_0 a0_1 a0_2 a0_3 a1 a2 = some (r1, r2)) :
  Calls Try.prog 14 #[.agg #[.int .i64 a0_0, .int .i64 a0_1, .int .i64 a0_2, .bool a0_3], .int .i64 a1, .int .i64 a2] w fun e w' => e = .returned (.tuple #[.int .i64 r1, .int .i64 r2]) ∧ Below w.heap.size w w' := by
 have hu24 := Try.underlying24
 have HB := Aside0.mk (Below.refl w.heap.size w)
 have H : (if a0_3 = true then (impl_Spot_turned.j0 k (wrap64 (-a1)) a2 a0_0 a0_1 a0_2 true) else (impl_Spot_turned.j0 k a1 a2 a0_0 a0_1 a0_2 false)) = some (r1, r2) := h
 clear h
 have HC4 := Aside0.mk H
 clear H
 go_enter Try.func14, Try.ntmps14
 go_upto_if 9 with (first | ((with_reducible refine gate_dst (N := 3) rfl ?_); refine box_event rfl (N := 3) rfl (cs := #[.int .i64 a0_0, .int .i64 a0_1, .int .i64 a0_2, .bool a0_3]) (t := 24) sE ?_; intro gb156 hg w5 hbox hb; have BK156 := Aside0.mk hbox; have GW156 := gS w hg (lU); have GE156 := gS w hg (lU); replace HB := bH (lU) hb; clear hb hbox hg; have hcz6_0 := cz BK156 0 (.int .i64 a0_0); have hcz6_1 := cz BK156 1 (.int .i64 a0_1); have hcz6_2 := cz BK156 2 (.int .i64 a0_2); have hcz6_3 := cz BK156 3 (.bool a0_3); have hfz6_0 := fz BK156 0; have hfz6_1 := fz BK156 1; have hfz6_2 := fz BK156 2; have hfz6_3 := fz BK156 3))
 (try simp only [Act.put, List.setIfInBounds_toArray, List.set_cons_zero, List.set_cons_succ])
 go_cut [1] (fun v1 wc => ∃ (kq : Nat) (x1_3 : Int), v1 = .int .i64 x1_3 ∧ Aside0 (impl_Spot_turned.j0 kq x1_3 a2 a0_0 a0_1 a0_2 a0_3 = some (r1, r2)) ∧ Aside0 (kq ≤ k) ∧ Aside0 (wc.heap[gb156]? = some (.cells #[.int .i64 a0_0, .int .i64 a0_1, .int .i64 a0_2, .bool a0_3] 24 (0, 0))) ∧ Aside0 (Below w.heap.size w wc))
 case first =>
  have H := HC4.out
  clear HC4
  by_cases c7 : a0_3 = true
  ·subst c7
   have H1 : (impl_Spot_turned.j0 k (wrap64 (-a1)) a2 a0_0 a0_1 a0_2 true) = some (r1, r2) := by rw [if_pos rfl] at H; exact H
   clear H
   have H := H1
   clear H1
   have H' := Aside0.mk H
   clear H
   go_wp2
   go_meet
   case rel => exact ⟨_, (wrap64 (-a1)), tE, H', ⟨by first | omega | exact Nat.le_refl _⟩, ⟨by refine bU ?_; exact BK156.out⟩, ⟨by repeat (first | (with_reducible first | exact HB.out | apply below_alloc | apply pw_below_drewN | apply below_drew1 | refine below_set ?_ GE156.out) | exact HB.out)⟩⟩
  ·replace c7 := Bool.eq_false_iff.mpr c7
   subst c7
   have H1 : (impl_Spot_turned.j0 k a1 a2 a0_0 a0_1 a0_2 false) = some (r1, r2) := by rw [if_neg (show ¬ (false = true) by decide)] at H; exact H
   clear H
   have H := H1
   clear H1
   have H' := Aside0.mk H
   clear H
   go_wp2
   go_meet
   case rel => exact ⟨_, (a1), tE, H', ⟨by first | omega | exact Nat.le_refl _⟩, ⟨by refine bU ?_; exact BK156.out⟩, ⟨by repeat (first | (with_reducible first | exact HB.out | apply below_alloc | apply pw_below_drewN | apply below_drew1 | refine below_set ?_ GE156.out) | exact HB.out)⟩⟩
 case rest =>
  clear HC4
  try clear c1
  try clear p2
  try clear p6
  try clear c7
  try clear hcz6_0
  try clear hcz6_1
  try clear hcz6_2
  try clear hcz6_3
  try clear hfz6_0
  try clear hfz6_1
  try clear hfz6_2
  try clear hfz6_3
  obtain ⟨kq, x1_3, rfl, HA, HJ3, BK156, HB⟩ := hcut
  cases kq with
  | zero => exact absurd HA.out (by simp [impl_Spot_turned.j0])
  | succ kj3 =>
   have H := HA.out
   clear HA
   simp only [impl_Spot_turned.j0] at H
   have H' := Aside0.mk H
   clear H
   have hcz8_0 := cz BK156 0 (.int .i64 a0_0)
   have hcz8_1 := cz BK156 1 (.int .i64 a0_1)
   have hcz8_2 := cz BK156 2 (.int .i64 a0_2)
   have hcz8_3 := cz BK156 3 (.bool a0_3)
   have hfz8_0 := fz BK156 0
   have hfz8_1 := fz BK156 1
   have hfz8_2 := fz BK156 2
   have hfz8_3 := fz BK156 3
   go_wp2
   go_loopg [1, 2, 14] kj3 (fun kq v1 v2 v14 w' => ∃ (x1_2 : Int) (x2_2 : Int) (x14_2 : Int), v1 = .int .i64 x1_2 ∧ v2 = .int .i64 x2_2 ∧ v14 = .int .i64 x14_2 ∧ Aside0 (impl_Spot_turned.l0 kq x1_2 x2_2 a0_2 x14_2 = some (r1, r2)) ∧ Aside0 (kq ≤ kj3) ∧ Aside0 (w'.heap[gb156]? = some (.cells #[.int .i64 a0_0, .int .i64 a0_1, .int .i64 a0_2, .bool a0_3] 24 (0, 0))) ∧ Aside0 (Below w.heap.size w w'))
   case atStart => exact ⟨(x1_3), (a2), (0), tE, tE, tE, H', ⟨Nat.le_refl _⟩, ⟨by refine bU ?_; exact BK156.out⟩, ⟨by repeat (first | (with_reducible first | exact HB.out | apply below_alloc | apply pw_below_drewN | apply below_drew1 | refine below_set ?_ GE156.out) | exact HB.out)⟩⟩
   case round =>
    clear H'
    try clear c1
    try clear p2
    try clear p6
    try clear c7
    try clear hcz6_0
    try clear hcz6_1
    try clear hcz6_2
    try clear hcz6_3
    try clear hcz8_0
    try clear hcz8_1
    try clear hcz8_2
    try clear hcz8_3
    try clear hfz6_0
    try clear hfz6_1
    try clear hfz6_2
    try clear hfz6_3
    try clear hfz8_0
    try clear hfz8_1
    try clear hfz8_2
    try clear hfz8_3
    try clear p2
    try clear p6
    obtain ⟨x1_2, x2_2, x14_2, rfl, rfl, rfl, HA, HK2, BK156, HB⟩ := hrel
    cases gk with
    | zero => exact absurd HA.out (by simp [impl_Spot_turned.l0])
    | succ k2 =>
     have H := HA.out
     clear HA
     simp only [impl_Spot_turned.l0] at H
     by_cases c9 : x14_2 < a0_2
     ·rw [if_pos c9] at H
      have c9b0 : decide (x14_2 < a0_2) = true := decide_eq_true c9
      clear c9
      have H' := Aside0.mk H
      clear H
      go_wp2
      go_roundg k2
      case measure => have := HJ3.out; have := HK2.out; omega
      case rel => exact ⟨(wrap64 (-x2_2)), (x1_2), (wrap64 (x14_2 + 1)), tE, tE, tE, H', ⟨by have := HJ3.out; have := HK2.out; omega⟩, ⟨by refine bU ?_; exact BK156.out⟩, ⟨by repeat (first | (with_reducible first | exact HB.out | apply below_alloc | apply pw_below_drewN | apply below_drew1 | refine below_set ?_ GE156.out) | exact HB.out)⟩⟩
     ·rw [if_neg c9] at H
      have c9b0 : decide (x14_2 < a0_2) = false := decide_eq_false c9
      clear c9
      simp only [Option.some.injEq, Prod.mk.injEq] at H
      obtain ⟨rfl, rfl⟩ := H
      go_wp2
      go_ret2
      exact ⟨eE, lV1 GE156⟩
def impl_BackSpot.f (k : Nat) (a0_0 : Int) (a0_1 : Int) (a0_2 : Int) (a0_3 : Bool) : Option (Int × Int × Int × Bool × Bool) := (impl_isSpot.f a0_0 a0_1 a0_2 a0_3).bind fun t159 => (if t159 = true then (if a0_3 = true then ((impl_Spot_turned.f k 0 0 a0_2 true (wrap64 (-a0_0)) (wrap64 (-a0_1))).bind fun bt161 => (some (bt161.1, bt161.2, a0_2, true, true))) else ((impl_Spot_turned.f k 0 0 (Int.tmod (wrap64 (4 - a0_2)) 4) false (wrap64 (-a0_0)) (wrap64 (-a0_1))).bind fun bt163 => (some (bt163.1, bt163.2, Int.tmod (wrap64 (4 - a0_2)) 4, false, true)))) else (some (0, 0, 0, false, false)))
theorem impl_BackSpot.mono : ∀ a0 a1 a2 a3 k, LeO (impl_BackSpot.f k a0 a1 a2 a3) (impl_BackSpot.f (k + 1) a0 a1 a2 a3) := by
 intro a0 a1 a2 a3 k
 unfold impl_BackSpot.f
 repeat' first
   | (with_reducible exact impl_Spot_turned.mono _ _ _ _ _ _ _)
   | (with_reducible first | exact LeO.refl _ | exact LeO.none _ | refine LeO.ite ?_ ?_ | refine LeO.bind ?_ (fun _ => ?_))
   | exact impl_Spot_turned.mono _ _ _ _ _ _ _ | exact LeO.none _ | refine LeO.ite ?_ ?_ | refine LeO.bind ?_ (fun _ => ?_)
set_option maxHeartbeats 8000000 in
set_option maxRecDepth 100000 in
theorem impl_BackSpot.calls (k : Nat) (a0_0 : Int) (a0_1 : Int) (a0_2 : Int) (a0_3 : Bool) (r1 : Int) (r2 : Int) (r3 : Int) (r4 : Bool) (r5 : Bool) (w : World) (h : impl_BackSpot.f k a0_0 a0_1 a0_2 a0_3 = some (r1, r2, r3, r4, r5)) :
  Calls Try.prog 5 #[.agg #[.int .i64 a0_0, .int .i64 a0_1, .int .i64 a0_2, .bool a0_3]] w fun e w' => e = .returned (.tuple #[.agg #[.int .i64 r1, .int .i64 r2, .int .i64 r3, .bool r4], .bool r5]) ∧ Below w.heap.size w w' := by
 have hu24 := Try.underlying24
 have HB := Aside0.mk (Below.refl w.heap.size w)
 have H : ((impl_isSpot.f a0_0 a0_1 a0_2 a0_3).bind fun t159 => (if t159 = true then (if a0_3 = true then ((impl_Spot_turned.f k 0 0 a0_2 true (wrap64 (-a0_0)) (wrap64 (-a0_1))).bind fun bt161 => (some (bt161.1, bt161.2, a0_2, true, true))) else ((impl_Spot_turned.f k 0 0 (Int.tmod (wrap64 (4 - a0_2)) 4) false (wrap64 (-a0_0)) (wrap64 (-a0_1))).bind fun bt163 => (some (bt163.1, bt163.2, Int.tmod (wrap64 (4 - a0_2)) 4, false, true)))) else (some (0, 0, 0, false, false)))) = some (r1, r2, r3, r4, r5) := h
 clear h
 replace H := Option.bind_eq_some_iff.mp H
 obtain ⟨t159, A20, H⟩ := H
 replace H : (if t159 = true then (if a0_3 = true then ((impl_Spot_turned.f k 0 0 a0_2 true (wrap64 (-a0_0)) (wrap64 (-a0_1))).bind fun bt161 => (some (bt161.1, bt161.2, a0_2, true, true))) else ((impl_Spot_turned.f k 0 0 (Int.tmod (wrap64 (4 - a0_2)) 4) false (wrap64 (-a0_0)) (wrap64 (-a0_1))).bind fun bt163 => (some (bt163.1, bt163.2, Int.tmod (wrap64 (4 - a0_2)) 4, false, true)))) else (some (0, 0, 0, false, false))) = some (r1, r2, r3, r4, r5) := H
 have A2 := Aside0.mk A20
 clear A20
 by_cases c3 : t159 = true
 ·subst c3
  have H1 : (if a0_3 = true then ((impl_Spot_turned.f k 0 0 a0_2 true (wrap64 (-a0_0)) (wrap64 (-a0_1))).bind fun bt161 => (some (bt161.1, bt161.2, a0_2, true, true))) else ((impl_Spot_turned.f k 0 0 (Int.tmod (wrap64 (4 - a0_2)) 4) false (wrap64 (-a0_0)) (wrap64 (-a0_1))).bind fun bt163 => (some (bt163.1, bt163.2, Int.tmod (wrap64 (4 - a0_2)) 4, false, true)))) = some (r1, r2, r3, r4, r5) := by rw [if_pos rfl] at H; exact H
  clear H
  have H := H1
  clear H1
  by_cases c4 : a0_3 = true
  ·subst c4
   have H1 : ((impl_Spot_turned.f k 0 0 a0_2 true (wrap64 (-a0_0)) (wrap64 (-a0_1))).bind fun bt161 => (some (bt161.1, bt161.2, a0_2, true, true))) = some (r1, r2, r3, r4, r5) := by rw [if_pos rfl] at H; exact H
   clear H
   have H := H1
   clear H1
   replace H := Option.bind_eq_some_iff.mp H
   obtain ⟨⟨t161, t162⟩, A50, H⟩ := H
   replace H : (some (t161, t162, a0_2, true, true)) = some (r1, r2, r3, r4, r5) := H
   have A5 := Aside0.mk A50
   clear A50
   simp only [Option.some.injEq, Prod.mk.injEq] at H
   obtain ⟨rfl, rfl, rfl, rfl, rfl⟩ := H
   go_enter Try.func5, Try.ntmps5
   go_wp2_with (first | ((with_reducible refine gate_dst (N := 1) rfl ?_); refine box_event rfl (N := 1) rfl (cs := #[.int .i64 a0_0, .int .i64 a0_1, .int .i64 a0_2, .bool true]) (t := 24) sE ?_; intro gb157 hg w6 hbox hb; have BK157 := Aside0.mk hbox; have GW157 := gS w hg (lU); have GE157 := gS w hg (lU); replace HB := bH (lU) hb; clear hb hbox hg) | ((with_reducible refine gate_dst (N := 2) rfl ?_); refine box_event rfl (N := 2) rfl (cs := #[.int .i64 0, .int .i64 0, .int .i64 0, .bool false]) (t := 24) sE ?_; intro gb158 hg w7 hbox hb; have BK158 := Aside0.mk hbox; have GW158 := gS w hg (lV1 GE157); have GE158 := gS w hg (lV1 GE157); replace HB := bH (lV1 GE157) hb; have NB157_158 := nL hg (bV BK157); have NB158_157 := nG hg (bV BK157); replace BK157 := bB (bV BK157) hb; clear hb hbox hg; have hnb8 := NB157_158.out; have hnc8 := NB158_157.out; have hcz9_0 := cz BK157 0 (.int .i64 a0_0); have hcz9_1 := cz BK157 1 (.int .i64 a0_1); have hcz9_2 := cz BK157 2 (.int .i64 a0_2); have hcz9_3 := cz BK157 3 (.bool true); have hfz9_0 := fz BK157 0; have hfz9_1 := fz BK157 1; have hfz9_2 := fz BK157 2; have hfz9_3 := fz BK157 3) | ((with_reducible refine gate_callee (f := 13) rfl ?_); refine goesL_ (some 6) rfl rfl Try.func13 (by kernel_rfl) rfl #[.agg #[.int .i64 a0_0, .int .i64 a0_1, .int .i64 a0_2, .bool true]] rfl aE ?_; (with_reducible refine (impl_isSpot.calls a0_0 a0_1 a0_2 true true _ A2.out).mono ?_); rintro e w10 ⟨rfl, hb⟩; refine ⟨_, rfl, ?_⟩; replace BK157 := bB (bV BK157) hb; replace BK158 := bB (bV BK158) hb; replace HB := bH (lV2 GE157 GE158) hb; (try clear hb); have hcz11_0 := cz BK157 0 (.int .i64 a0_0); have hcz11_1 := cz BK157 1 (.int .i64 a0_1); have hcz11_2 := cz BK157 2 (.int .i64 a0_2); have hcz11_3 := cz BK157 3 (.bool true); have hfz11_0 := fz BK157 0; have hfz11_1 := fz BK157 1; have hfz11_2 := fz BK157 2; have hfz11_3 := fz BK157 3) | ((with_reducible refine gate_dst (N := 4) rfl ?_); refine box_event rfl (N := 4) rfl (cs := #[.int .i64 0, .int .i64 0, .int .i64 0, .bool false]) (t := 24) sE ?_; intro gb160 hg w12 hbox hb; have BK160 := Aside0.mk hbox; have GW160 := gS w hg (lV2 GE157 GE158); have GE160 := gS w hg (lV2 GE157 GE158); replace HB := bH (lV2 GE157 GE158) hb; have NB157_160 := nL hg (bV BK157); have NB160_157 := nG hg (bV BK157); replace BK157 := bB (bV BK157) hb; have NB158_160 := nL hg (bV BK158); have NB160_158 := nG hg (bV BK158); replace BK158 := bB (bV BK158) hb; clear hb hbox hg; have hnb13 := NB160_157.out; have hnc13 := NB157_160.out; have hnb14 := NB160_158.out; have hnc14 := NB158_160.out; have hcz15_0 := cz BK160 0 (.int .i64 0); have hcz15_1 := cz BK160 1 (.int .i64 0); have hcz15_2 := cz BK160 2 (.int .i64 0); have hcz15_3 := cz BK160 3 (.bool false); have hfz15_0 := fz BK160 0; have hfz15_1 := fz BK160 1; have hfz15_2 := fz BK160 2; have hfz15_3 := fz BK160 3) | ((with_reducible refine gate_store (t := 24) (p := 4) rfl ?_); refine store_event (t := 24) (p := 4) (v := ?vo_w16) (w1 := ((((w12.setCell ⟨gb160, 0, none⟩ (.int .i64 0)).setCell ⟨gb160, 1, none⟩ (.int .i64 0)).setCell ⟨gb160, 2, none⟩ (.int .i64 (Int.tmod (wrap64 (4 - a0_2)) 4))).setCell ⟨gb160, 3, none⟩ (.bool true))) ?hg ?ho ?hn ?hr ?_; (case ho => rfl); (case hg => rfl); (case hn => rfl); (case hr => first | (go_simp; done) | (go_simp; rfl) | (have hq0_ := (blk_cell BK160.out 0).trans (show _ = some _ from rfl); have hf0_ := blk_frozen BK160.out 0; have hq1_ := (blk_cell BK160.out 1).trans (show _ = some _ from rfl); have hf1_ := blk_frozen BK160.out 1; have hq2_ := (blk_cell BK160.out 2).trans (show _ = some _ from rfl); have hf2_ := blk_frozen BK160.out 2; have hq3_ := (blk_cell BK160.out 3).trans (show _ = some _ from rfl); have hf3_ := blk_frozen BK160.out 3; first | (go_simp; done) | (go_simp; rfl))); intro w16 hw; replace BK157 : Aside0 (w16.heap[gb157]? = some (.cells #[.int .i64 a0_0, .int .i64 a0_1, .int .i64 a0_2, .bool true] 24 (0, 0))) := ⟨(by rw [hw]; exact (bG NB157_160 BK157))⟩; replace BK158 : Aside0 (w16.heap[gb158]? = some (.cells #[.int .i64 0, .int .i64 0, .int .i64 0, .bool false] 24 (0, 0))) := ⟨(by rw [hw]; exact (bG NB158_160 BK158))⟩; replace BK160 : Aside0 (w16.heap[gb160]? = some (.cells #[.int .i64 0, .int .i64 0, .int .i64 (Int.tmod (wrap64 (4 - a0_2)) 4), .bool true] 24 (0, 0))) := ⟨(by rw [hw]; exact (by refine bU ?_; refine blk_put (cs := #[.int .i64 0, .int .i64 0, .int .i64 (Int.tmod (wrap64 (4 - a0_2)) 4), .bool false]) ?_ 3 _ rfl; refine bU ?_; refine blk_put (cs := #[.int .i64 0, .int .i64 0, .int .i64 0, .bool false]) ?_ 2 _ rfl; refine bU ?_; refine blk_put (cs := #[.int .i64 0, .int .i64 0, .int .i64 0, .bool false]) ?_ 1 _ rfl; refine bU ?_; refine blk_put (cs := #[.int .i64 0, .int .i64 0, .int .i64 0, .bool false]) ?_ 0 _ rfl; refine bU ?_; exact BK160.out))⟩; replace HB : Aside0 (Below w.heap.size w w16) := ⟨(by rw [hw]; exact (lV3 GE157 GE158 GE160))⟩; clear hw; have hcz17_0 := cz BK157 0 (.int .i64 a0_0); have hcz17_1 := cz BK157 1 (.int .i64 a0_1); have hcz17_2 := cz BK157 2 (.int .i64 a0_2); have hcz17_3 := cz BK157 3 (.bool true); have hfz17_0 := fz BK157 0; have hfz17_1 := fz BK157 1; have hfz17_2 := fz BK157 2; have hfz17_3 := fz BK157 3; have hcz18_0 := cz BK160 0 (.int .i64 0); have hcz18_1 := cz BK160 1 (.int .i64 0); have hcz18_2 := cz BK160 2 (.int .i64 (Int.tmod (wrap64 (4 - a0_2)) 4)); have hcz18_3 := cz BK160 3 (.bool true); have hfz18_0 := fz BK160 0; have hfz18_1 := fz BK160 1; have hfz18_2 := fz BK160 2; have hfz18_3 := fz BK160 3) | ((with_reducible refine gate_store (t := 3) (p := 20) rfl ?_); refine store_event (t := 3) (p := 20) (v := ?vo_w19) (w1 := (w16.setCell ⟨gb160, 2, none⟩ (.int .i64 a0_2))) ?hg ?ho ?hn ?hr ?_; (case ho => rfl); (case hg => rfl); (case hn => rfl); (case hr => first | (go_simp; done) | (go_simp; rfl) | (have hq0_ := (blk_cell BK160.out 2).trans (show _ = some _ from rfl); have hf0_ := blk_frozen BK160.out 2; first | (go_simp; done) | (go_simp; rfl))); intro w19 hw; replace BK157 : Aside0 (w19.heap[gb157]? = some (.cells #[.int .i64 a0_0, .int .i64 a0_1, .int .i64 a0_2, .bool true] 24 (0, 0))) := ⟨(by rw [hw]; exact (bG NB157_160 BK157))⟩; replace BK158 : Aside0 (w19.heap[gb158]? = some (.cells #[.int .i64 0, .int .i64 0, .int .i64 0, .bool false] 24 (0, 0))) := ⟨(by rw [hw]; exact (bG NB158_160 BK158))⟩; replace BK160 : Aside0 (w19.heap[gb160]? = some (.cells #[.int .i64 0, .int .i64 0, .int .i64 a0_2, .bool true] 24 (0, 0))) := ⟨(by rw [hw]; exact (by refine bU ?_; refine blk_put (cs := #[.int .i64 0, .int .i64 0, .int .i64 (Int.tmod (wrap64 (4 - a0_2)) 4), .bool true]) ?_ 2 _ rfl; refine bU ?_; exact BK160.out))⟩; replace HB : Aside0 (Below w.heap.size w w19) := ⟨(by rw [hw]; exact (lV3 GE157 GE158 GE160))⟩; clear hw; have hcz20_0 := cz BK160 0 (.int .i64 0); have hcz20_1 := cz BK160 1 (.int .i64 0); have hcz20_2 := cz BK160 2 (.int .i64 a0_2); have hcz20_3 := cz BK160 3 (.bool true); have hfz20_0 := fz BK160 0; have hfz20_1 := fz BK160 1; have hfz20_2 := fz BK160 2; have hfz20_3 := fz BK160 3; have hcz21_0 := cz BK157 0 (.int .i64 a0_0); have hcz21_1 := cz BK157 1 (.int .i64 a0_1); have hcz21_2 := cz BK157 2 (.int .i64 a0_2); have hcz21_3 := cz BK157 3 (.bool true); have hfz21_0 := fz BK157 0; have hfz21_1 := fz BK157 1; have hfz21_2 := fz BK157 2; have hfz21_3 := fz BK157 3) | ((with_reducible refine gate_callee (f := 14) rfl ?_); refine goesL_ (some 29) rfl rfl Try.func14 (by kernel_rfl) rfl #[.agg #[.int .i64 0, .int .i64 0, .int .i64 a0_2, .bool true], .int .i64 (wrap64 (-a0_0)), .int .i64 (wrap64 (-a0_1))] rfl aE ?_; (with_reducible refine (impl_Spot_turned.calls k 0 0 a0_2 true (wrap64 (-a0_0)) (wrap64 (-a0_1)) t161 t162 _ A5.out).mono ?_); rintro e w22 ⟨rfl, hb⟩; refine ⟨_, rfl, ?_⟩; replace BK157 := bB (bV BK157) hb; replace BK158 := bB (bV BK158) hb; replace BK160 := bB (bV BK160) hb; replace HB := bH (lV3 GE157 GE158 GE160) hb; (try clear hb); have hcz23_0 := cz BK160 0 (.int .i64 0); have hcz23_1 := cz BK160 1 (.int .i64 0); have hcz23_2 := cz BK160 2 (.int .i64 a0_2); have hcz23_3 := cz BK160 3 (.bool true); have hfz23_0 := fz BK160 0; have hfz23_1 := fz BK160 1; have hfz23_2 := fz BK160 2; have hfz23_3 := fz BK160 3) | ((with_reducible refine gate_store (t := 3) (p := 32) rfl ?_); refine store_event (t := 3) (p := 32) (v := ?vo_w24) (w1 := (w22.setCell ⟨gb160, 0, none⟩ (.int .i64 t161))) ?hg ?ho ?hn ?hr ?_; (case ho => rfl); (case hg => rfl); (case hn => rfl); (case hr => first | (go_simp; done) | (go_simp; rfl) | (have hq0_ := (blk_cell BK160.out 0).trans (show _ = some _ from rfl); have hf0_ := blk_frozen BK160.out 0; first | (go_simp; done) | (go_simp; rfl))); intro w24 hw; replace BK157 : Aside0 (w24.heap[gb157]? = some (.cells #[.int .i64 a0_0, .int .i64 a0_1, .int .i64 a0_2, .bool true] 24 (0, 0))) := ⟨(by rw [hw]; exact (bG NB157_160 BK157))⟩; replace BK158 : Aside0 (w24.heap[gb158]? = some (.cells #[.int .i64 0, .int .i64 0, .int .i64 0, .bool false] 24 (0, 0))) := ⟨(by rw [hw]; exact (bG NB158_160 BK158))⟩; replace BK160 : Aside0 (w24.heap[gb160]? = some (.cells #[.int .i64 t161, .int .i64 0, .int .i64 a0_2, .bool true] 24 (0, 0))) := ⟨(by rw [hw]; exact (by refine bU ?_; refine blk_put (cs := #[.int .i64 0, .int .i64 0, .int .i64 a0_2, .bool true]) ?_ 0 _ rfl; refine bU ?_; exact BK160.out))⟩; replace HB : Aside0 (Below w.heap.size w w24) := ⟨(by rw [hw]; exact (lV3 GE157 GE158 GE160))⟩; clear hw; have hcz25_0 := cz BK160 0 (.int .i64 t161); have hcz25_1 := cz BK160 1 (.int .i64 0); have hcz25_2 := cz BK160 2 (.int .i64 a0_2); have hcz25_3 := cz BK160 3 (.bool true); have hfz25_0 := fz BK160 0; have hfz25_1 := fz BK160 1; have hfz25_2 := fz BK160 2; have hfz25_3 := fz BK160 3) | ((with_reducible refine gate_store (t := 3) (p := 33) rfl ?_); refine store_event (t := 3) (p := 33) (v := ?vo_w26) (w1 := (w24.setCell ⟨gb160, 1, none⟩ (.int .i64 t162))) ?hg ?ho ?hn ?hr ?_; (case ho => rfl); (case hg => rfl); (case hn => rfl); (case hr => first | (go_simp; done) | (go_simp; rfl) | (have hq0_ := (blk_cell BK160.out 1).trans (show _ = some _ from rfl); have hf0_ := blk_frozen BK160.out 1; first | (go_simp; done) | (go_simp; rfl))); intro w26 hw; replace BK157 : Aside0 (w26.heap[gb157]? = some (.cells #[.int .i64 a0_0, .int .i64 a0_1, .int .i64 a0_2, .bool true] 24 (0, 0))) := ⟨(by rw [hw]; exact (bG NB157_160 BK157))⟩; replace BK158 : Aside0 (w26.heap[gb158]? = some (.cells #[.int .i64 0, .int .i64 0, .int .i64 0, .bool false] 24 (0, 0))) := ⟨(by rw [hw]; exact (bG NB158_160 BK158))⟩; replace BK160 : Aside0 (w26.heap[gb160]? = some (.cells #[.int .i64 t161, .int .i64 t162, .int .i64 a0_2, .bool true] 24 (0, 0))) := ⟨(by rw [hw]; exact (by refine bU ?_; refine blk_put (cs := #[.int .i64 t161, .int .i64 0, .int .i64 a0_2, .bool true]) ?_ 1 _ rfl; refine bU ?_; exact BK160.out))⟩; replace HB : Aside0 (Below w.heap.size w w26) := ⟨(by rw [hw]; exact (lV3 GE157 GE158 GE160))⟩; clear hw; have hcz27_0 := cz BK160 0 (.int .i64 t161); have hcz27_1 := cz BK160 1 (.int .i64 t162); have hcz27_2 := cz BK160 2 (.int .i64 a0_2); have hcz27_3 := cz BK160 3 (.bool true); have hfz27_0 := fz BK160 0; have hfz27_1 := fz BK160 1; have hfz27_2 := fz BK160 2; have hfz27_3 := fz BK160 3; have hcz28_0 := cz BK158 0 (.int .i64 0); have hcz28_1 := cz BK158 1 (.int .i64 0); have hcz28_2 := cz BK158 2 (.int .i64 0); have hcz28_3 := cz BK158 3 (.bool false); have hfz28_0 := fz BK158 0; have hfz28_1 := fz BK158 1; have hfz28_2 := fz BK158 2; have hfz28_3 := fz BK158 3) | ((with_reducible refine gate_store (t := 24) (p := 2) rfl ?_); refine store_event (t := 24) (p := 2) (v := ?vo_w29) (w1 := ((((w26.setCell ⟨gb158, 0, none⟩ (.int .i64 t161)).setCell ⟨gb158, 1, none⟩ (.int .i64 t162)).setCell ⟨gb158, 2, none⟩ (.int .i64 a0_2)).setCell ⟨gb158, 3, none⟩ (.bool true))) ?hg ?ho ?hn ?hr ?_; (case ho => rfl); (case hg => rfl); (case hn => rfl); (case hr => first | (go_simp; done) | (go_simp; rfl) | (have hq0_ := (blk_cell BK158.out 0).trans (show _ = some _ from rfl); have hf0_ := blk_frozen BK158.out 0; have hq1_ := (blk_cell BK158.out 1).trans (show _ = some _ from rfl); have hf1_ := blk_frozen BK158.out 1; have hq2_ := (blk_cell BK158.out 2).trans (show _ = some _ from rfl); have hf2_ := blk_frozen BK158.out 2; have hq3_ := (blk_cell BK158.out 3).trans (show _ = some _ from rfl); have hf3_ := blk_frozen BK158.out 3; first | (go_simp; done) | (go_simp; rfl))); intro w29 hw; replace BK157 : Aside0 (w29.heap[gb157]? = some (.cells #[.int .i64 a0_0, .int .i64 a0_1, .int .i64 a0_2, .bool true] 24 (0, 0))) := ⟨(by rw [hw]; exact (bG NB157_158 BK157))⟩; replace BK158 : Aside0 (w29.heap[gb158]? = some (.cells #[.int .i64 t161, .int .i64 t162, .int .i64 a0_2, .bool true] 24 (0, 0))) := ⟨(by rw [hw]; exact (by refine bU ?_; refine blk_put (cs := #[.int .i64 t161, .int .i64 t162, .int .i64 a0_2, .bool false]) ?_ 3 _ rfl; refine bU ?_; refine blk_put (cs := #[.int .i64 t161, .int .i64 t162, .int .i64 0, .bool false]) ?_ 2 _ rfl; refine bU ?_; refine blk_put (cs := #[.int .i64 t161, .int .i64 0, .int .i64 0, .bool false]) ?_ 1 _ rfl; refine bU ?_; refine blk_put (cs := #[.int .i64 0, .int .i64 0, .int .i64 0, .bool false]) ?_ 0 _ rfl; refine bU ?_; exact BK158.out))⟩; replace BK160 : Aside0 (w29.heap[gb160]? = some (.cells #[.int .i64 t161, .int .i64 t162, .int .i64 a0_2, .bool true] 24 (0, 0))) := ⟨(by rw [hw]; exact (bG NB160_158 BK160))⟩; replace HB : Aside0 (Below w.heap.size w w29) := ⟨(by rw [hw]; exact (lV3 GE157 GE158 GE160))⟩; clear hw))
   refine bodyPost_ret (results_ct rfl _ _ gb158 24 #[.int .i64 t161, .int .i64 t162, .int .i64 a0_2, .bool true] (0, 0) _ rfl (bV BK158) Try.underlying24 rfl (by kernel_rfl)) rfl ?_
   exact ⟨eE, lV3 GE157 GE158 GE160⟩
  ·replace c4 := Bool.eq_false_iff.mpr c4
   subst c4
   have H1 : ((impl_Spot_turned.f k 0 0 (Int.tmod (wrap64 (4 - a0_2)) 4) false (wrap64 (-a0_0)) (wrap64 (-a0_1))).bind fun bt163 => (some (bt163.1, bt163.2, Int.tmod (wrap64 (4 - a0_2)) 4, false, true))) = some (r1, r2, r3, r4, r5) := by rw [if_neg (show ¬ (false = true) by decide)] at H; exact H
   clear H
   have H := H1
   clear H1
   replace H := Option.bind_eq_some_iff.mp H
   obtain ⟨⟨t163, t164⟩, A300, H⟩ := H
   replace H : (some (t163, t164, Int.tmod (wrap64 (4 - a0_2)) 4, false, true)) = some (r1, r2, r3, r4, r5) := H
   have A30 := Aside0.mk A300
   clear A300
   simp only [Option.some.injEq, Prod.mk.injEq] at H
   obtain ⟨rfl, rfl, rfl, rfl, rfl⟩ := H
   go_enter Try.func5, Try.ntmps5
   go_wp2_with (first | ((with_reducible refine gate_dst (N := 1) rfl ?_); refine box_event rfl (N := 1) rfl (cs := #[.int .i64 a0_0, .int .i64 a0_1, .int .i64 a0_2, .bool false]) (t := 24) sE ?_; intro gb157 hg w31 hbox hb; have BK157 := Aside0.mk hbox; have GW157 := gS w hg (lU); have GE157 := gS w hg (lU); replace HB := bH (lU) hb; clear hb hbox hg) | ((with_reducible refine gate_dst (N := 2) rfl ?_); refine box_event rfl (N := 2) rfl (cs := #[.int .i64 0, .int .i64 0, .int .i64 0, .bool false]) (t := 24) sE ?_; intro gb158 hg w32 hbox hb; have BK158 := Aside0.mk hbox; have GW158 := gS w hg (lV1 GE157); have GE158 := gS w hg (lV1 GE157); replace HB := bH (lV1 GE157) hb; have NB157_158 := nL hg (bV BK157); have NB158_157 := nG hg (bV BK157); replace BK157 := bB (bV BK157) hb; clear hb hbox hg; have hnb33 := NB157_158.out; have hnc33 := NB158_157.out; have hcz34_0 := cz BK157 0 (.int .i64 a0_0); have hcz34_1 := cz BK157 1 (.int .i64 a0_1); have hcz34_2 := cz BK157 2 (.int .i64 a0_2); have hcz34_3 := cz BK157 3 (.bool false); have hfz34_0 := fz BK157 0; have hfz34_1 := fz BK157 1; have hfz34_2 := fz BK157 2; have hfz34_3 := fz BK157 3) | ((with_reducible refine gate_callee (f := 13) rfl ?_); refine goesL_ (some 6) rfl rfl Try.func13 (by kernel_rfl) rfl #[.agg #[.int .i64 a0_0, .int .i64 a0_1, .int .i64 a0_2, .bool false]] rfl aE ?_; (with_reducible refine (impl_isSpot.calls a0_0 a0_1 a0_2 false true _ A2.out).mono ?_); rintro e w35 ⟨rfl, hb⟩; refine ⟨_, rfl, ?_⟩; replace BK157 := bB (bV BK157) hb; replace BK158 := bB (bV BK158) hb; replace HB := bH (lV2 GE157 GE158) hb; (try clear hb); have hcz36_0 := cz BK157 0 (.int .i64 a0_0); have hcz36_1 := cz BK157 1 (.int .i64 a0_1); have hcz36_2 := cz BK157 2 (.int .i64 a0_2); have hcz36_3 := cz BK157 3 (.bool false); have hfz36_0 := fz BK157 0; have hfz36_1 := fz BK157 1; have hfz36_2 := fz BK157 2; have hfz36_3 := fz BK157 3) | ((with_reducible refine gate_dst (N := 4) rfl ?_); refine box_event rfl (N := 4) rfl (cs := #[.int .i64 0, .int .i64 0, .int .i64 0, .bool false]) (t := 24) sE ?_; intro gb160 hg w37 hbox hb; have BK160 := Aside0.mk hbox; have GW160 := gS w hg (lV2 GE157 GE158); have GE160 := gS w hg (lV2 GE157 GE158); replace HB := bH (lV2 GE157 GE158) hb; have NB157_160 := nL hg (bV BK157); have NB160_157 := nG hg (bV BK157); replace BK157 := bB (bV BK157) hb; have NB158_160 := nL hg (bV BK158); have NB160_158 := nG hg (bV BK158); replace BK158 := bB (bV BK158) hb; clear hb hbox hg; have hnb38 := NB160_157.out; have hnc38 := NB157_160.out; have hnb39 := NB160_158.out; have hnc39 := NB158_160.out; have hcz40_0 := cz BK160 0 (.int .i64 0); have hcz40_1 := cz BK160 1 (.int .i64 0); have hcz40_2 := cz BK160 2 (.int .i64 0); have hcz40_3 := cz BK160 3 (.bool false); have hfz40_0 := fz BK160 0; have hfz40_1 := fz BK160 1; have hfz40_2 := fz BK160 2; have hfz40_3 := fz BK160 3) | ((with_reducible refine gate_store (t := 24) (p := 4) rfl ?_); refine store_event (t := 24) (p := 4) (v := ?vo_w41) (w1 := ((((w37.setCell ⟨gb160, 0, none⟩ (.int .i64 0)).setCell ⟨gb160, 1, none⟩ (.int .i64 0)).setCell ⟨gb160, 2, none⟩ (.int .i64 (Int.tmod (wrap64 (4 - a0_2)) 4))).setCell ⟨gb160, 3, none⟩ (.bool false))) ?hg ?ho ?hn ?hr ?_; (case ho => rfl); (case hg => rfl); (case hn => rfl); (case hr => first | (go_simp; done) | (go_simp; rfl) | (have hq0_ := (blk_cell BK160.out 0).trans (show _ = some _ from rfl); have hf0_ := blk_frozen BK160.out 0; have hq1_ := (blk_cell BK160.out 1).trans (show _ = some _ from rfl); have hf1_ := blk_frozen BK160.out 1; have hq2_ := (blk_cell BK160.out 2).trans (show _ = some _ from rfl); have hf2_ := blk_frozen BK160.out 2; have hq3_ := (blk_cell BK160.out 3).trans (show _ = some _ from rfl); have hf3_ := blk_frozen BK160.out 3; first | (go_simp; done) | (go_simp; rfl))); intro w41 hw; replace BK157 : Aside0 (w41.heap[gb157]? = some (.cells #[.int .i64 a0_0, .int .i64 a0_1, .int .i64 a0_2, .bool false] 24 (0, 0))) := ⟨(by rw [hw]; exact (bG NB157_160 BK157))⟩; replace BK158 : Aside0 (w41.heap[gb158]? = some (.cells #[.int .i64 0, .int .i64 0, .int .i64 0, .bool false] 24 (0, 0))) := ⟨(by rw [hw]; exact (bG NB158_160 BK158))⟩; replace BK160 : Aside0 (w41.heap[gb160]? = some (.cells #[.int .i64 0, .int .i64 0, .int .i64 (Int.tmod (wrap64 (4 - a0_2)) 4), .bool false] 24 (0, 0))) := ⟨(by rw [hw]; exact (by refine bU ?_; refine blk_put (cs := #[.int .i64 0, .int .i64 0, .int .i64 (Int.tmod (wrap64 (4 - a0_2)) 4), .bool false]) ?_ 3 _ rfl; refine bU ?_; refine blk_put (cs := #[.int .i64 0, .int .i64 0, .int .i64 0, .bool false]) ?_ 2 _ rfl; refine bU ?_; refine blk_put (cs := #[.int .i64 0, .int .i64 0, .int .i64 0, .bool false]) ?_ 1 _ rfl; refine bU ?_; refine blk_put (cs := #[.int .i64 0, .int .i64 0, .int .i64 0, .bool false]) ?_ 0 _ rfl; refine bU ?_; exact BK160.out))⟩; replace HB : Aside0 (Below w.heap.size w w41) := ⟨(by rw [hw]; exact (lV3 GE157 GE158 GE160))⟩; clear hw; have hcz42_0 := cz BK157 0 (.int .i64 a0_0); have hcz42_1 := cz BK157 1 (.int .i64 a0_1); have hcz42_2 := cz BK157 2 (.int .i64 a0_2); have hcz42_3 := cz BK157 3 (.bool false); have hfz42_0 := fz BK157 0; have hfz42_1 := fz BK157 1; have hfz42_2 := fz BK157 2; have hfz42_3 := fz BK157 3; have hcz43_0 := cz BK160 0 (.int .i64 0); have hcz43_1 := cz BK160 1 (.int .i64 0); have hcz43_2 := cz BK160 2 (.int .i64 (Int.tmod (wrap64 (4 - a0_2)) 4)); have hcz43_3 := cz BK160 3 (.bool false); have hfz43_0 := fz BK160 0; have hfz43_1 := fz BK160 1; have hfz43_2 := fz BK160 2; have hfz43_3 := fz BK160 3) | ((with_reducible refine gate_callee (f := 14) rfl ?_); refine goesL_ (some 29) rfl rfl Try.func14 (by kernel_rfl) rfl #[.agg #[.int .i64 0, .int .i64 0, .int .i64 (Int.tmod (wrap64 (4 - a0_2)) 4), .bool false], .int .i64 (wrap64 (-a0_0)), .int .i64 (wrap64 (-a0_1))] rfl aE ?_; (with_reducible refine (impl_Spot_turned.calls k 0 0 (Int.tmod (wrap64 (4 - a0_2)) 4) false (wrap64 (-a0_0)) (wrap64 (-a0_1)) t163 t164 _ A30.out).mono ?_); rintro e w44 ⟨rfl, hb⟩; refine ⟨_, rfl, ?_⟩; replace BK157 := bB (bV BK157) hb; replace BK158 := bB (bV BK158) hb; replace BK160 := bB (bV BK160) hb; replace HB := bH (lV3 GE157 GE158 GE160) hb; (try clear hb); have hcz45_0 := cz BK160 0 (.int .i64 0); have hcz45_1 := cz BK160 1 (.int .i64 0); have hcz45_2 := cz BK160 2 (.int .i64 (Int.tmod (wrap64 (4 - a0_2)) 4)); have hcz45_3 := cz BK160 3 (.bool false); have hfz45_0 := fz BK160 0; have hfz45_1 := fz BK160 1; have hfz45_2 := fz BK160 2; have hfz45_3 := fz BK160 3) | ((with_reducible refine gate_store (t := 3) (p := 32) rfl ?_); refine store_event (t := 3) (p := 32) (v := ?vo_w46) (w1 := (w44.setCell ⟨gb160, 0, none⟩ (.int .i64 t163))) ?hg ?ho ?hn ?hr ?_; (case ho => rfl); (case hg => rfl); (case hn => rfl); (case hr => first | (go_simp; done) | (go_simp; rfl) | (have hq0_ := (blk_cell BK160.out 0).trans (show _ = some _ from rfl); have hf0_ := blk_frozen BK160.out 0; first | (go_simp; done) | (go_simp; rfl))); intro w46 hw; replace BK157 : Aside0 (w46.heap[gb157]? = some (.cells #[.int .i64 a0_0, .int .i64 a0_1, .int .i64 a0_2, .bool false] 24 (0, 0))) := ⟨(by rw [hw]; exact (bG NB157_160 BK157))⟩; replace BK158 : Aside0 (w46.heap[gb158]? = some (.cells #[.int .i64 0, .int .i64 0, .int .i64 0, .bool false] 24 (0, 0))) := ⟨(by rw [hw]; exact (bG NB158_160 BK158))⟩; replace BK160 : Aside0 (w46.heap[gb160]? = some (.cells #[.int .i64 t163, .int .i64 0, .int .i64 (Int.tmod (wrap64 (4 - a0_2)) 4), .bool false] 24 (0, 0))) := ⟨(by rw [hw]; exact (by refine bU ?_; refine blk_put (cs := #[.int .i64 0, .int .i64 0, .int .i64 (Int.tmod (wrap64 (4 - a0_2)) 4), .bool false]) ?_ 0 _ rfl; refine bU ?_; exact BK160.out))⟩; replace HB : Aside0 (Below w.heap.size w w46) := ⟨(by rw [hw]; exact (lV3 GE157 GE158 GE160))⟩; clear hw; have hcz47_0 := cz BK160 0 (.int .i64 t163); have hcz47_1 := cz BK160 1 (.int .i64 0); have hcz47_2 := cz BK160 2 (.int .i64 (Int.tmod (wrap64 (4 - a0_2)) 4)); have hcz47_3 := cz BK160 3 (.bool false); have hfz47_0 := fz BK160 0; have hfz47_1 := fz BK160 1; have hfz47_2 := fz BK160 2; have hfz47_3 := fz BK160 3) | ((with_reducible refine gate_store (t := 3) (p := 33) rfl ?_); refine store_event (t := 3) (p := 33) (v := ?vo_w48) (w1 := (w46.setCell ⟨gb160, 1, none⟩ (.int .i64 t164))) ?hg ?ho ?hn ?hr ?_; (case ho => rfl); (case hg => rfl); (case hn => rfl); (case hr => first | (go_simp; done) | (go_simp; rfl) | (have hq0_ := (blk_cell BK160.out 1).trans (show _ = some _ from rfl); have hf0_ := blk_frozen BK160.out 1; first | (go_simp; done) | (go_simp; rfl))); intro w48 hw; replace BK157 : Aside0 (w48.heap[gb157]? = some (.cells #[.int .i64 a0_0, .int .i64 a0_1, .int .i64 a0_2, .bool false] 24 (0, 0))) := ⟨(by rw [hw]; exact (bG NB157_160 BK157))⟩; replace BK158 : Aside0 (w48.heap[gb158]? = some (.cells #[.int .i64 0, .int .i64 0, .int .i64 0, .bool false] 24 (0, 0))) := ⟨(by rw [hw]; exact (bG NB158_160 BK158))⟩; replace BK160 : Aside0 (w48.heap[gb160]? = some (.cells #[.int .i64 t163, .int .i64 t164, .int .i64 (Int.tmod (wrap64 (4 - a0_2)) 4), .bool false] 24 (0, 0))) := ⟨(by rw [hw]; exact (by refine bU ?_; refine blk_put (cs := #[.int .i64 t163, .int .i64 0, .int .i64 (Int.tmod (wrap64 (4 - a0_2)) 4), .bool false]) ?_ 1 _ rfl; refine bU ?_; exact BK160.out))⟩; replace HB : Aside0 (Below w.heap.size w w48) := ⟨(by rw [hw]; exact (lV3 GE157 GE158 GE160))⟩; clear hw; have hcz49_0 := cz BK160 0 (.int .i64 t163); have hcz49_1 := cz BK160 1 (.int .i64 t164); have hcz49_2 := cz BK160 2 (.int .i64 (Int.tmod (wrap64 (4 - a0_2)) 4)); have hcz49_3 := cz BK160 3 (.bool false); have hfz49_0 := fz BK160 0; have hfz49_1 := fz BK160 1; have hfz49_2 := fz BK160 2; have hfz49_3 := fz BK160 3; have hcz50_0 := cz BK158 0 (.int .i64 0); have hcz50_1 := cz BK158 1 (.int .i64 0); have hcz50_2 := cz BK158 2 (.int .i64 0); have hcz50_3 := cz BK158 3 (.bool false); have hfz50_0 := fz BK158 0; have hfz50_1 := fz BK158 1; have hfz50_2 := fz BK158 2; have hfz50_3 := fz BK158 3) | ((with_reducible refine gate_store (t := 24) (p := 2) rfl ?_); refine store_event (t := 24) (p := 2) (v := ?vo_w51) (w1 := ((((w48.setCell ⟨gb158, 0, none⟩ (.int .i64 t163)).setCell ⟨gb158, 1, none⟩ (.int .i64 t164)).setCell ⟨gb158, 2, none⟩ (.int .i64 (Int.tmod (wrap64 (4 - a0_2)) 4))).setCell ⟨gb158, 3, none⟩ (.bool false))) ?hg ?ho ?hn ?hr ?_; (case ho => rfl); (case hg => rfl); (case hn => rfl); (case hr => first | (go_simp; done) | (go_simp; rfl) | (have hq0_ := (blk_cell BK158.out 0).trans (show _ = some _ from rfl); have hf0_ := blk_frozen BK158.out 0; have hq1_ := (blk_cell BK158.out 1).trans (show _ = some _ from rfl); have hf1_ := blk_frozen BK158.out 1; have hq2_ := (blk_cell BK158.out 2).trans (show _ = some _ from rfl); have hf2_ := blk_frozen BK158.out 2; have hq3_ := (blk_cell BK158.out 3).trans (show _ = some _ from rfl); have hf3_ := blk_frozen BK158.out 3; first | (go_simp; done) | (go_simp; rfl))); intro w51 hw; replace BK157 : Aside0 (w51.heap[gb157]? = some (.cells #[.int .i64 a0_0, .int .i64 a0_1, .int .i64 a0_2, .bool false] 24 (0, 0))) := ⟨(by rw [hw]; exact (bG NB157_158 BK157))⟩; replace BK158 : Aside0 (w51.heap[gb158]? = some (.cells #[.int .i64 t163, .int .i64 t164, .int .i64 (Int.tmod (wrap64 (4 - a0_2)) 4), .bool false] 24 (0, 0))) := ⟨(by rw [hw]; exact (by refine bU ?_; refine blk_put (cs := #[.int .i64 t163, .int .i64 t164, .int .i64 (Int.tmod (wrap64 (4 - a0_2)) 4), .bool false]) ?_ 3 _ rfl; refine bU ?_; refine blk_put (cs := #[.int .i64 t163, .int .i64 t164, .int .i64 0, .bool false]) ?_ 2 _ rfl; refine bU ?_; refine blk_put (cs := #[.int .i64 t163, .int .i64 0, .int .i64 0, .bool false]) ?_ 1 _ rfl; refine bU ?_; refine blk_put (cs := #[.int .i64 0, .int .i64 0, .int .i64 0, .bool false]) ?_ 0 _ rfl; refine bU ?_; exact BK158.out))⟩; replace BK160 : Aside0 (w51.heap[gb160]? = some (.cells #[.int .i64 t163, .int .i64 t164, .int .i64 (Int.tmod (wrap64 (4 - a0_2)) 4), .bool false] 24 (0, 0))) := ⟨(by rw [hw]; exact (bG NB160_158 BK160))⟩; replace HB : Aside0 (Below w.heap.size w w51) := ⟨(by rw [hw]; exact (lV3 GE157 GE158 GE160))⟩; clear hw))
   refine bodyPost_ret (results_ct rfl _ _ gb158 24 #[.int .i64 t163, .int .i64 t164, .int .i64 (Int.tmod (wrap64 (4 - a0_2)) 4), .bool false] (0, 0) _ rfl (bV BK158) Try.underlying24 rfl (by kernel_rfl)) rfl ?_
   exact ⟨eE, lV3 GE157 GE158 GE160⟩
 ·replace c3 := Bool.eq_false_iff.mpr c3
  subst c3
  have H1 : (some (0, 0, 0, false, false)) = some (r1, r2, r3, r4, r5) := by rw [if_neg (show ¬ (false = true) by decide)] at H; exact H
  clear H
  have H := H1
  clear H1
  simp only [Option.some.injEq, Prod.mk.injEq] at H
  obtain ⟨rfl, rfl, rfl, rfl, rfl⟩ := H
  go_enter Try.func5, Try.ntmps5
  go_wp2_with (first | ((with_reducible refine gate_dst (N := 1) rfl ?_); refine box_event rfl (N := 1) rfl (cs := #[.int .i64 a0_0, .int .i64 a0_1, .int .i64 a0_2, .bool a0_3]) (t := 24) sE ?_; intro gb157 hg w52 hbox hb; have BK157 := Aside0.mk hbox; have GW157 := gS w hg (lU); have GE157 := gS w hg (lU); replace HB := bH (lU) hb; clear hb hbox hg) | ((with_reducible refine gate_dst (N := 2) rfl ?_); refine box_event rfl (N := 2) rfl (cs := #[.int .i64 0, .int .i64 0, .int .i64 0, .bool false]) (t := 24) sE ?_; intro gb158 hg w53 hbox hb; have BK158 := Aside0.mk hbox; have GW158 := gS w hg (lV1 GE157); have GE158 := gS w hg (lV1 GE157); replace HB := bH (lV1 GE157) hb; have NB157_158 := nL hg (bV BK157); have NB158_157 := nG hg (bV BK157); replace BK157 := bB (bV BK157) hb; clear hb hbox hg; have hnb54 := NB157_158.out; have hnc54 := NB158_157.out; have hcz55_0 := cz BK157 0 (.int .i64 a0_0); have hcz55_1 := cz BK157 1 (.int .i64 a0_1); have hcz55_2 := cz BK157 2 (.int .i64 a0_2); have hcz55_3 := cz BK157 3 (.bool a0_3); have hfz55_0 := fz BK157 0; have hfz55_1 := fz BK157 1; have hfz55_2 := fz BK157 2; have hfz55_3 := fz BK157 3) | ((with_reducible refine gate_callee (f := 13) rfl ?_); refine goesL_ (some 6) rfl rfl Try.func13 (by kernel_rfl) rfl #[.agg #[.int .i64 a0_0, .int .i64 a0_1, .int .i64 a0_2, .bool a0_3]] rfl aE ?_; (with_reducible refine (impl_isSpot.calls a0_0 a0_1 a0_2 a0_3 false _ A2.out).mono ?_); rintro e w56 ⟨rfl, hb⟩; refine ⟨_, rfl, ?_⟩; replace BK157 := bB (bV BK157) hb; replace BK158 := bB (bV BK158) hb; replace HB := bH (lV2 GE157 GE158) hb; (try clear hb); have hcz57_0 := cz BK158 0 (.int .i64 0); have hcz57_1 := cz BK158 1 (.int .i64 0); have hcz57_2 := cz BK158 2 (.int .i64 0); have hcz57_3 := cz BK158 3 (.bool false); have hfz57_0 := fz BK158 0; have hfz57_1 := fz BK158 1; have hfz57_2 := fz BK158 2; have hfz57_3 := fz BK158 3) | ((with_reducible refine gate_store (t := 24) (p := 2) rfl ?_); refine store_event (t := 24) (p := 2) (v := ?vo_w58) (w1 := ((((w56.setCell ⟨gb158, 0, none⟩ (.int .i64 0)).setCell ⟨gb158, 1, none⟩ (.int .i64 0)).setCell ⟨gb158, 2, none⟩ (.int .i64 0)).setCell ⟨gb158, 3, none⟩ (.bool false))) ?hg ?ho ?hn ?hr ?_; (case ho => rfl); (case hg => rfl); (case hn => rfl); (case hr => first | (go_simp; done) | (go_simp; rfl) | (have hq0_ := (blk_cell BK158.out 0).trans (show _ = some _ from rfl); have hf0_ := blk_frozen BK158.out 0; have hq1_ := (blk_cell BK158.out 1).trans (show _ = some _ from rfl); have hf1_ := blk_frozen BK158.out 1; have hq2_ := (blk_cell BK158.out 2).trans (show _ = some _ from rfl); have hf2_ := blk_frozen BK158.out 2; have hq3_ := (blk_cell BK158.out 3).trans (show _ = some _ from rfl); have hf3_ := blk_frozen BK158.out 3; first | (go_simp; done) | (go_simp; rfl))); intro w58 hw; replace BK157 : Aside0 (w58.heap[gb157]? = some (.cells #[.int .i64 a0_0, .int .i64 a0_1, .int .i64 a0_2, .bool a0_3] 24 (0, 0))) := ⟨(by rw [hw]; exact (bG NB157_158 BK157))⟩; replace BK158 : Aside0 (w58.heap[gb158]? = some (.cells #[.int .i64 0, .int .i64 0, .int .i64 0, .bool false] 24 (0, 0))) := ⟨(by rw [hw]; exact (by refine bU ?_; refine blk_put (cs := #[.int .i64 0, .int .i64 0, .int .i64 0, .bool false]) ?_ 3 _ rfl; refine bU ?_; refine blk_put (cs := #[.int .i64 0, .int .i64 0, .int .i64 0, .bool false]) ?_ 2 _ rfl; refine bU ?_; refine blk_put (cs := #[.int .i64 0, .int .i64 0, .int .i64 0, .bool false]) ?_ 1 _ rfl; refine bU ?_; refine blk_put (cs := #[.int .i64 0, .int .i64 0, .int .i64 0, .bool false]) ?_ 0 _ rfl; refine bU ?_; exact BK158.out))⟩; replace HB : Aside0 (Below w.heap.size w w58) := ⟨(by rw [hw]; exact (lV2 GE157 GE158))⟩; clear hw))
  refine bodyPost_ret (results_ct rfl _ _ gb158 24 #[.int .i64 0, .int .i64 0, .int .i64 0, .bool false] (0, 0) _ rfl (bV BK158) Try.underlying24 rfl (by kernel_rfl)) rfl ?_
  exact ⟨eE, lV2 GE157 GE158⟩
def spec_l1In.f (a0 : Int) (a1 : Int) (a2 : Int) : Option (Bool) := if a0 ≥ a1 then (some (decide (a0 ≤ a2))) else (some false)
set_option maxHeartbeats 8000000 in
set_option maxRecDepth 100000 in
theorem spec_l1In.calls (a0 : Int) (a1 : Int) (a2 : Int) (r : Bool) (w : World) (h : spec_l1In.f a0 a1 a2 = some r) :
  Calls Try.prog 26 #[.int .i64 a0, .int .i64 a1, .int .i64 a2] w fun e w' => e = .returned (.bool r) ∧ Drawn0 w w' := by
 have H : (if a0 ≥ a1 then (some (decide (a0 ≤ a2))) else (some false)) = some r := h
 clear h
 by_cases c4 : a0 ≥ a1
 ·rw [if_pos c4] at H
  have c4b0 : decide (a1 ≤ a0) = true := decide_eq_true c4
  clear c4
  obtain rfl := Option.some.inj H
  go_enter Try.func26, Try.ntmps26
  go_wp2
  go_ret
  exact ⟨by first | rfl | (simp; done) | (simp [*]; done) | exact not_isEmpty _ | exact (not_isEmpty _).symm | exact is_empty _ | exact (is_empty _).symm, by repeat (first | exact Drawn0.refl _ | apply Drawn0.step)⟩
 ·rw [if_neg c4] at H
  have c4b0 : decide (a1 ≤ a0) = false := decide_eq_false c4
  clear c4
  obtain rfl := Option.some.inj H
  go_enter Try.func26, Try.ntmps26
  go_wp2
  go_ret
  exact ⟨by first | rfl | (simp; done) | (simp [*]; done) | exact not_isEmpty _ | exact (not_isEmpty _).symm | exact is_empty _ | exact (is_empty _).symm, by repeat (first | exact Drawn0.refl _ | apply Drawn0.step)⟩
def spec_l4Good.f (a0_0 : Int) (a0_1 : Int) (a0_2 : Int) (a0_3 : Bool) : Option (Bool) := (spec_l1In.f a0_0 (-1000000) 1000000).bind fun t166 => (if t166 = true then ((spec_l1In.f a0_1 (-1000000) 1000000).bind fun t167 => (if t167 = true then ((spec_l1In.f a0_2 0 3).bind fun t168 => (some t168)) else (some false))) else (some false))
set_option maxHeartbeats 8000000 in
set_option maxRecDepth 100000 in
theorem spec_l4Good.calls (a0_0 : Int) (a0_1 : Int) (a0_2 : Int) (a0_3 : Bool) (r : Bool) (w : World) (h : spec_l4Good.f a0_0 a0_1 a0_2 a0_3 = some r) :
  Calls Try.prog 15 #[.agg #[.int .i64 a0_0, .int .i64 a0_1, .int .i64 a0_2, .bool a0_3]] w fun e w' => e = .returned (.bool r) ∧ Below w.heap.size w w' := by
 have hu24 := Try.underlying24
 have HB := Aside0.mk (Below.refl w.heap.size w)
 have H : ((spec_l1In.f a0_0 (-1000000) 1000000).bind fun t166 => (if t166 = true then ((spec_l1In.f a0_1 (-1000000) 1000000).bind fun t167 => (if t167 = true then ((spec_l1In.f a0_2 0 3).bind fun t168 => (some t168)) else (some false))) else (some false))) = some r := h
 clear h
 replace H := Option.bind_eq_some_iff.mp H
 obtain ⟨t166, A20, H⟩ := H
 replace H : (if t166 = true then ((spec_l1In.f a0_1 (-1000000) 1000000).bind fun t167 => (if t167 = true then ((spec_l1In.f a0_2 0 3).bind fun t168 => (some t168)) else (some false))) else (some false)) = some r := H
 have A2 := Aside0.mk A20
 clear A20
 by_cases c3 : t166 = true
 ·subst c3
  have H1 : ((spec_l1In.f a0_1 (-1000000) 1000000).bind fun t167 => (if t167 = true then ((spec_l1In.f a0_2 0 3).bind fun t168 => (some t168)) else (some false))) = some r := by rw [if_pos rfl] at H; exact H
  clear H
  have H := H1
  clear H1
  replace H := Option.bind_eq_some_iff.mp H
  obtain ⟨t167, A40, H⟩ := H
  replace H : (if t167 = true then ((spec_l1In.f a0_2 0 3).bind fun t168 => (some t168)) else (some false)) = some r := H
  have A4 := Aside0.mk A40
  clear A40
  by_cases c5 : t167 = true
  ·subst c5
   have H1 : ((spec_l1In.f a0_2 0 3).bind fun t168 => (some t168)) = some r := by rw [if_pos rfl] at H; exact H
   clear H
   have H := H1
   clear H1
   replace H := Option.bind_eq_some_iff.mp H
   obtain ⟨t168, A60, H⟩ := H
   replace H : (some t168) = some r := H
   have A6 := Aside0.mk A60
   clear A60
   obtain rfl := Option.some.inj H
   go_enter Try.func15, Try.ntmps15
   go_wp2_with (first | ((with_reducible refine gate_dst (N := 1) rfl ?_); refine box_event rfl (N := 1) rfl (cs := #[.int .i64 a0_0, .int .i64 a0_1, .int .i64 a0_2, .bool a0_3]) (t := 24) sE ?_; intro gb165 hg w7 hbox hb; have BK165 := Aside0.mk hbox; have GW165 := gS w hg (lU); have GE165 := gS w hg (lU); replace HB := bH (lU) hb; clear hb hbox hg; have hcz8_0 := cz BK165 0 (.int .i64 a0_0); have hcz8_1 := cz BK165 1 (.int .i64 a0_1); have hcz8_2 := cz BK165 2 (.int .i64 a0_2); have hcz8_3 := cz BK165 3 (.bool a0_3); have hfz8_0 := fz BK165 0; have hfz8_1 := fz BK165 1; have hfz8_2 := fz BK165 2; have hfz8_3 := fz BK165 3) | ((with_reducible refine gate_callee (f := 26) rfl ?_); refine goesL_ (some 5) rfl rfl Try.func26 (by kernel_rfl) rfl #[.int .i64 a0_0, .int .i64 (-1000000), .int .i64 1000000] rfl aE ?_; (with_reducible refine (spec_l1In.calls a0_0 (-1000000) 1000000 true _ A2.out).mono ?_); rintro e w' ⟨rfl, ⟨nd, rfl⟩⟩; refine ⟨_, rfl, ?_⟩) | (go_at_call 26; (with_reducible refine (spec_l1In.calls a0_1 (-1000000) 1000000 true _ A4.out).mono ?_); rintro e w' ⟨rfl, ⟨nd, rfl⟩⟩) | (go_at_call 26; (with_reducible refine (spec_l1In.calls a0_2 0 3 t168 _ A6.out).mono ?_); rintro e w' ⟨rfl, ⟨nd, rfl⟩⟩))
   go_ret
   exact ⟨eE, lV1 GE165⟩
  ·replace c5 := Bool.eq_false_iff.mpr c5
   subst c5
   have H1 : (some false) = some r := by rw [if_neg (show ¬ (false = true) by decide)] at H; exact H
   clear H
   have H := H1
   clear H1
   obtain rfl := Option.some.inj H
   go_enter Try.func15, Try.ntmps15
   go_wp2_with (first | ((with_reducible refine gate_dst (N := 1) rfl ?_); refine box_event rfl (N := 1) rfl (cs := #[.int .i64 a0_0, .int .i64 a0_1, .int .i64 a0_2, .bool a0_3]) (t := 24) sE ?_; intro gb165 hg w9 hbox hb; have BK165 := Aside0.mk hbox; have GW165 := gS w hg (lU); have GE165 := gS w hg (lU); replace HB := bH (lU) hb; clear hb hbox hg; have hcz10_0 := cz BK165 0 (.int .i64 a0_0); have hcz10_1 := cz BK165 1 (.int .i64 a0_1); have hcz10_2 := cz BK165 2 (.int .i64 a0_2); have hcz10_3 := cz BK165 3 (.bool a0_3); have hfz10_0 := fz BK165 0; have hfz10_1 := fz BK165 1; have hfz10_2 := fz BK165 2; have hfz10_3 := fz BK165 3) | ((with_reducible refine gate_callee (f := 26) rfl ?_); refine goesL_ (some 5) rfl rfl Try.func26 (by kernel_rfl) rfl #[.int .i64 a0_0, .int .i64 (-1000000), .int .i64 1000000] rfl aE ?_; (with_reducible refine (spec_l1In.calls a0_0 (-1000000) 1000000 true _ A2.out).mono ?_); rintro e w' ⟨rfl, ⟨nd, rfl⟩⟩; refine ⟨_, rfl, ?_⟩) | (go_at_call 26; (with_reducible refine (spec_l1In.calls a0_1 (-1000000) 1000000 false _ A4.out).mono ?_); rintro e w' ⟨rfl, ⟨nd, rfl⟩⟩))
   go_ret
   exact ⟨eE, lV1 GE165⟩
 ·replace c3 := Bool.eq_false_iff.mpr c3
  subst c3
  have H1 : (some false) = some r := by rw [if_neg (show ¬ (false = true) by decide)] at H; exact H
  clear H
  have H := H1
  clear H1
  obtain rfl := Option.some.inj H
  go_enter Try.func15, Try.ntmps15
  go_wp2_with (first | ((with_reducible refine gate_dst (N := 1) rfl ?_); refine box_event rfl (N := 1) rfl (cs := #[.int .i64 a0_0, .int .i64 a0_1, .int .i64 a0_2, .bool a0_3]) (t := 24) sE ?_; intro gb165 hg w11 hbox hb; have BK165 := Aside0.mk hbox; have GW165 := gS w hg (lU); have GE165 := gS w hg (lU); replace HB := bH (lU) hb; clear hb hbox hg; have hcz12_0 := cz BK165 0 (.int .i64 a0_0); have hcz12_1 := cz BK165 1 (.int .i64 a0_1); have hcz12_2 := cz BK165 2 (.int .i64 a0_2); have hcz12_3 := cz BK165 3 (.bool a0_3); have hfz12_0 := fz BK165 0; have hfz12_1 := fz BK165 1; have hfz12_2 := fz BK165 2; have hfz12_3 := fz BK165 3) | ((with_reducible refine gate_callee (f := 26) rfl ?_); refine goesL_ (some 5) rfl rfl Try.func26 (by kernel_rfl) rfl #[.int .i64 a0_0, .int .i64 (-1000000), .int .i64 1000000] rfl aE ?_; (with_reducible refine (spec_l1In.calls a0_0 (-1000000) 1000000 false _ A2.out).mono ?_); rintro e w' ⟨rfl, ⟨nd, rfl⟩⟩; refine ⟨_, rfl, ?_⟩))
  go_ret
  exact ⟨eE, lV1 GE165⟩
end Go.Proofs.Ytmmgmbmjlbdpnaa.PFnPlaced
