/- Texts of the row of the law FnPatched, laid together. -/
import Derived.Test.YtbamdbdcglohmaaZFnPatched0
import Derived.Deep.RegionLaw
import Derived.Lib.SliceRun
import Derived.Laws.Externs
import Derived.Lib.Bytealg
import Derived.Test.YtbamdbdcglohmaaZFnPatched1
import Derived.Test.YtbamdbdcglohmaaProg
import Derived.Below
import Derived.Deep.Draws
import Derived.Deep.AppendLies
import Derived.Maps.AppendAt
import Derived.OwnWalk
import Derived.Laws.BytesArg
import Derived.Laws.MakeOwn
import Derived.Laws.OwnMore
import Derived.Deep.OwnRows
import Derived.Tactics
import Derived.Lib.ConvBytes
import Derived.Laws.Slices
import Derived.WalkKit
import Derived.KernelRfl
import Derived.RowKit3
import Derived.Deep.LoopGhost
import Derived.Deep.QuietTactic
import Derived.BigQuiet
import Derived.WideLaws
import Derived.Deep.DeepCutAuto
import Derived.Deep.CutBlock
import Derived.Deep.RegionHeld3
import Derived.Laws.Rows
import Derived.Lib.AppendStr
import Derived.ArgAppend
import Derived.Laws.IdiomCopy
import Derived.OrdersHeld
import Derived.Laws.BitsLemmas
import Derived.RowKit
import Derived.Laws.Cover1
import Derived.Test.YtbamdbdcglohmaaZFnPatched2
namespace Go.Proofs.YtbamdbdcglohmaaW.PrintWords
open Go.RowKit
namespace Kd
section
variable {P : Program} {α : Type}
end
end Kd
end Go.Proofs.YtbamdbdcglohmaaW.PrintWords
namespace Go.Proofs.YtbamdbdcglohmaaW.PrintLast
open Go.RowKit Go.Proofs.YtbamdbdcglohmaaW.PrintWords
def bz (n m : Nat) : Array Bool := ((List.range n).map fun i => m.testBit i).toArray
section
variable {P : Program} {ops : Array Oper} {Q : Exit → Act → World → Prop} {md : Region.Mode} {S : World → Prop} {ds : List Nat}
theorem pureA (i : Nat) (N : Tmp) {oi : Oper} {v : Value} {fuel : Nat} {l : Array Bool} {a : Act} {w : World} (l' : Array Bool) {a' : Act} (hi : ops[i]? = some oi) (hN : oi.dst = some N) (hc : anyB md ops l l' i = true) (h : wpAnyLast P md ops Q S ds fuel l' a' w)
    (hQ : ∀ c a w, Q (.panic c) (a.put oi.dst v) w → Q (.panic c) a w := by exact fun _ _ _ h => h) (hw : Region.wanted oi (yielded ops a.tmps) = true := by rfl)
    (hy : ∀ w, (execOp a.eval oi).run P w = .ok (.value v) w := by intro w'; go_simp; with_reducible rfl) (ha : a.put (some N) v = a' := by simp only [Act.put, List.setIfInBounds_toArray, List.set_cons_zero, List.set_cons_succ, i64_w, i32_w]; rfl) : wpAnyLast P md ops Q S ds (fuel + 1) l a w :=
  pure_ l' hi hN hc hQ (Or.inl ⟨hw, hy⟩) ha h
theorem pureU (i : Nat) (N : Tmp) {oi : Oper} {fuel : Nat} {l : Array Bool} {a : Act} {w : World} (l' : Array Bool) {a' : Act} (hi : ops[i]? = some oi) (hN : oi.dst = some N) (hc : anyB md ops l l' i = true) (h : wpAnyLast P md ops Q S ds fuel l' a' w)
    (hQ : ∀ c a w, Q (.panic c) (a.put oi.dst undef) w → Q (.panic c) a w := by exact fun _ _ _ h => h) (hw : Region.wanted oi (yielded ops a.tmps) = false := by rfl)
    (ha : a.put (some N) undef = a' := by simp only [Act.put, List.setIfInBounds_toArray, List.set_cons_zero, List.set_cons_succ, i64_w, i32_w]; rfl) : wpAnyLast P md ops Q S ds (fuel + 1) l a w :=
  pure_ l' hi hN hc hQ (Or.inr ⟨hw, rfl⟩) ha h
theorem takeA (i : Nat) (N : Tmp) {oi : Oper} {v : Value} {fuel : Nat} {l : Array Bool} {a : Act} {w : World} (l' : Array Bool) {a' : Act} (hi : ops[i]? = some oi) (hN : oi.dst = some N) (hc : takeB md ops ds l l' i = true) (hS : S w) (hy : ∀ w, S w → (execOp a.eval oi).run P w = .ok (.value v) w) (h : wpAnyLast P md ops Q S ds fuel l' a' w)
    (hQ : ∀ c a w, Q (.panic c) (a.put oi.dst v) w → Q (.panic c) a w := by exact fun _ _ _ h => h) (hw : Region.wanted oi (yielded ops a.tmps) = true := by rfl)
    (ha : a.put (some N) v = a' := by simp only [Act.put, List.setIfInBounds_toArray, List.set_cons_zero, List.set_cons_succ, i64_w, i32_w]; rfl) : wpAnyLast P md ops Q S ds (fuel + 1) l a w :=
  take_ l' hi hN hc hQ (Or.inl ⟨hw, hy⟩) hS ha h
end
end Go.Proofs.YtbamdbdcglohmaaW.PrintLast
namespace Go.Proofs.YtbamdbdcglohmaaW.PrintWords
open Go.RowKit
end Go.Proofs.YtbamdbdcglohmaaW.PrintWords
namespace Go.Proofs.YtbamdbdcglohmaaW.PrintWords
open Go.RowKit
section
variable {P : Program} {ops : Array Oper} {o : Oper} {a : Act} {Q : Exit → Act → World → Prop} {Kc : Act → World → Prop}
end
end Go.Proofs.YtbamdbdcglohmaaW.PrintWords
namespace Go.Proofs.YtbamdbdcglohmaaW.PrintWords
open Go.RowKit
namespace Kd
section
variable {α : Type} {d : Kd α} {e base : Nat} {ok : Nat → Prop} {W : World} {u : Value} {xs : List α} {PS : Nat → Prop} {L : List Nat}
end
end Kd
end Go.Proofs.YtbamdbdcglohmaaW.PrintWords
namespace Go.Proofs.YtbamdbdcglohmaaW.PrintWords
open Go.RowKit
end Go.Proofs.YtbamdbdcglohmaaW.PrintWords
namespace Go.Proofs.YtbamdbdcglohmaaW.PrintLast
section
variable {P : Program} {ops : Array Oper} {Q : Exit → Act → World → Prop} {md : Region.Mode} {S T : World → Prop} {ds : List Nat}
end
end Go.Proofs.YtbamdbdcglohmaaW.PrintLast
namespace Go.Proofs.Ytbamdbdcglohmaa.PFnPatched
open Go.RowKit Go.Proofs.YtbamdbdcglohmaaW.PrintWords Go.Proofs.YtbamdbdcglohmaaW.PrintLast Go.Proofs.YtbamdbdcglohmaaW.PrintMore
attribute [local go_sem] max2_int min2_int max_two min_two max_three min_three max_four min_four   -- for this text's walks alone
set_option linter.unusedVariables false
set_option linter.unusedSimpArgs false
def errW : Option Int → Value
 | none => .nilIface
 | some c => .iface 0 (.int .i64 c)
theorem errW_none : errW none = .nilIface := rfl
theorem errW_some (c : Int) : errW (some c) = .iface 0 (.int .i64 c) := rfl
theorem info5 : (Try.prog.info? 5).map (fun i => (i.zero, i.size, i.bytes)) = some (some (.int .u8 0), 1, 1) := by kernel_rfl
theorem info51 : (Try.prog.info? 51).map (fun i => (i.zero, i.size, i.bytes)) = some (some (.agg #[(.int .i64 0), (.int .i64 0), (.slice none 0 0)]), 3, 40) := by kernel_rfl
structure S51 where
 f0 : Int
 f1 : Int
 f2 : (List Int)
def z51 : S51 := ⟨(0 : Int), (0 : Int), ([] : List Int)⟩
def k51 : Kd S51 := Kd.iso (Kd.pair (Kd.int .i64) (Kd.pair (Kd.int .i64) (Kd.slice 5 (Kd.int .u8)))) (fun x : S51 => (x.f0, x.f1, x.f2))
theorem k51_open {w : World} {x : S51} {cs : List Value} (h : k51.K w x cs) : ∃ A2 c2, cs = [.int .i64 x.f0, .int .i64 x.f1, .slice A2 x.f2.length c2] ∧ x.f2.length ≤ c2 ∧ (Kd.int .u8).C w A2 x.f2.length x.f2 := by
 obtain ⟨_, _, rfl, rfl, ⟨_, _, rfl, rfl, ⟨A2, c2, rfl, l2, g2⟩⟩⟩ := h
 exact ⟨A2, c2, rfl, l2, g2⟩
theorem k51_openM {w : World} {base : Nat} {ok : Nat → Prop} {x : S51} {cs : List Value} (h : k51.M w base ok x cs) : ∃ v2, cs = [.int .i64 x.f0, .int .i64 x.f1, v2] ∧ (Kd.int .u8).R 5 w base ok v2 x.f2 := by
 obtain ⟨_, _, rfl, rfl, ⟨_, _, rfl, rfl, ⟨v2, rfl, g2⟩⟩⟩ := h
 exact ⟨v2, rfl, g2⟩
theorem k51_mkM (w : World) (base : Nat) (ok : Nat → Prop) (x : S51) {v2 : Value} (g2 : (Kd.int .u8).R 5 w base ok v2 x.f2) : k51.M w base ok x [.int .i64 x.f0, .int .i64 x.f1, v2] := ⟨[.int .i64 x.f0], [.int .i64 x.f1, v2], rfl, rfl, ⟨[.int .i64 x.f1], [v2], rfl, rfl, ⟨v2, rfl, g2⟩⟩⟩
def rd_T51 (xs : List S51) (i : Int) : S51 := xs.getD i.toNat z51
theorem at_T51 {w : World} {A : Option Addr} {n : Nat} {xs : List S51} (h : Kd.C k51 w A n xs) (i : Int) (h0 : 0 ≤ i) (h1 : i < n) : ∃ ad A2 c2, A = some ad ∧ w.cell? (ad.add (i.toNat * 3)) = some (.int .i64 (rd_T51 xs i).f0) ∧ w.cell? ⟨(ad.add (i.toNat * 3)).block, (ad.add (i.toNat * 3)).off + 1, none⟩ = some (.int .i64 (rd_T51 xs i).f1) ∧ w.cell? ⟨(ad.add (i.toNat * 3)).block, (ad.add (i.toNat * 3)).off + 2, none⟩ = some (.slice A2 (rd_T51 xs i).f2.length c2) ∧ (rd_T51 xs i).f2.length ≤ c2 ∧ (Kd.int .u8).C w A2 (rd_T51 xs i).f2.length (rd_T51 xs i).f2 := by
 obtain ⟨ad, c, e, _, hK, hc0⟩ := Kd.C_get h z51 i h0 h1
 have hc : ∀ j u, c[j]? = some u → w.cell? (ad.add (i.toNat * 3 + j)) = some u := hc0
 obtain ⟨A2, c2, rfl, l2, g2⟩ := k51_open hK
 exact ⟨ad, A2, c2, e, hc 0 _ rfl, by rw [← add_field _ _ 1 (by omega)]; exact hc 1 _ rfl, by rw [← add_field _ _ 2 (by omega)]; exact hc 2 _ rfl, l2, g2⟩
end Go.Proofs.Ytbamdbdcglohmaa.PFnPatched
namespace Go.Proofs.Ytbamdbdcglohmaa.PFnPatched
open Go.RowKit Go.Proofs.YtbamdbdcglohmaaW.PrintWords Go.Proofs.YtbamdbdcglohmaaW.PrintLast Go.Proofs.YtbamdbdcglohmaaW.PrintMore
attribute [local go_sem] max2_int min2_int max_two min_two max_three min_three max_four min_four   -- for this text's walks alone
set_option linter.unusedVariables false
set_option linter.unusedSimpArgs false
def IsS46 (w0 W : World) (g : Nat) (f0 : List Int) (f1 : Int) (f2 : Int) : Prop := ∃ A0 c0, W.heap[g]? = some (.cells #[.slice A0 f0.length c0, .int .i64 f1, .int .u64 f2] 46 (0, 0)) ∧ w0.heap.size ≤ g ∧ Kd.C (Kd.int .u8) w0 A0 f0.length f0
theorem IsS46.grown {w0 W : World} {g : Nat} {f0 : List Int} {f1 : Int} {f2 : Int} {W1 : World} {row : Option Nat} (h : IsS46 w0 W g f0 f1 f2) (hw : W.grownBy W1 row) (hne : some g ≠ row) : IsS46 w0 W1 g f0 f1 f2 := by
 obtain ⟨A0, c0, hb, hg, hr0⟩ := h
 exact ⟨A0, c0, blk_grown hb hw hne, hg, hr0⟩
theorem IsS46.fresh {w0 W : World} {g : Nat} {f0 : List Int} {f1 : Int} {f2 : Int} (h : IsS46 w0 W g f0 f1 f2) : ∀ k, W.heap.size ≤ k → k ≠ g := by
 obtain ⟨A0, c0, hb, hg, hr0⟩ := h
 exact Kd.freshB hb
theorem IsS46.kept {w0 W : World} {g : Nat} {f0 : List Int} {f1 : Int} {f2 : Int} {W1 : World} {S : Nat → Prop} (h : IsS46 w0 W g f0 f1 f2) (hk : Kept W W1 S) (hne : ¬ S g) : IsS46 w0 W1 g f0 f1 f2 := by
 obtain ⟨A0, c0, hb, hg, hr0⟩ := h
 exact ⟨A0, c0, blk_kept hb hk hne, hg, hr0⟩
theorem IsS46.below {w0 W : World} {g : Nat} {f0 : List Int} {f1 : Int} {f2 : Int} {W1 : World} (h : IsS46 w0 W g f0 f1 f2) (hw : Below W.heap.size W W1) : IsS46 w0 W1 g f0 f1 f2 := h.grown (grown_of_below hw none) (by simp)
theorem IsS46.alloc {w0 W : World} {g : Nat} {f0 : List Int} {f1 : Int} {f2 : Int} (h : IsS46 w0 W g f0 f1 f2) (o : Obj) : IsS46 w0 (W.alloc o) g f0 f1 f2 := h.below (below_alloc (Below.refl _ _) o)
theorem IsS46.drewN {w0 W : World} {g : Nat} {f0 : List Int} {f1 : Int} {f2 : Int} (h : IsS46 w0 W g f0 f1 f2) (m : Nat) : IsS46 w0 (W.drewN m) g f0 f1 f2 := h
theorem IsS46.drew {w0 W : World} {g : Nat} {f0 : List Int} {f1 : Int} {f2 : Int} (h : IsS46 w0 W g f0 f1 f2) : IsS46 w0 W.drew g f0 f1 f2 := h
theorem IsS46.at_ {w0 W : World} {g : Nat} {f0 : List Int} {f1 : Int} {f2 : Int} {w' : World} {m : Nat} (hq : W.drewN m = w') (h : IsS46 w0 W g f0 f1 f2) : IsS46 w0 w' g f0 f1 f2 := by subst hq; exact IsS46.drewN h m
theorem IsS46.apart {w0 W : World} {g : Nat} {f0 : List Int} {f1 : Int} {f2 : Int} {α : Type} {d : Kd α} {e : Nat} {base : Nat} {ok : Nat → Prop} {v : Value} {xs : List α} (h : IsS46 w0 W g f0 f1 f2) (ho : d.R e W base ok v xs) (ht : ∀ q, q ∈ e :: d.E → q ≠ 46) : d.R e W base (fun k => ok k ∧ k ≠ g) v xs := by
 obtain ⟨A0, c0, hb, hg, hr0⟩ := h
 exact Kd.R_types ho hb ht
theorem IsS46.own_ne {w0 W : World} {g : Nat} {f0 : List Int} {f1 : Int} {f2 : Int} {α : Type} {d : Kd α} {e : Nat} {base : Nat} {ok : Nat → Prop} {v : Value} {xs : List α} (h : IsS46 w0 W g f0 f1 f2) (ho : d.R e W base ok v xs) (ht : e ≠ 46) : some g ≠ v.ownBlock := by
 obtain ⟨A0, c0, hb, hg, hr0⟩ := h
 exact Kd.R_ne ho hb ht
theorem IsS46.ge {w0 W : World} {g : Nat} {f0 : List Int} {f1 : Int} {f2 : Int} (h : IsS46 w0 W g f0 f1 f2) : w0.heap.size ≤ g := by
 obtain ⟨A0, c0, hb, hg, hr0⟩ := h
 exact hg
theorem cellS46_0 {W : World} {g : Nat} {A0 : Option Addr} {c0 : Nat} {f0 : List Int} {f1 : Int} {f2 : Int} (h : W.heap[g]? = some (.cells #[.slice A0 f0.length c0, .int .i64 f1, .int .u64 f2] 46 (0, 0))) : W.cell? ⟨g, 0, none⟩ = some (.slice A0 f0.length c0) := (blk_cell h 0).trans rfl
theorem cellS46_1 {W : World} {g : Nat} {A0 : Option Addr} {c0 : Nat} {f0 : List Int} {f1 : Int} {f2 : Int} (h : W.heap[g]? = some (.cells #[.slice A0 f0.length c0, .int .i64 f1, .int .u64 f2] 46 (0, 0))) : W.cell? ⟨g, 1, none⟩ = some (.int .i64 f1) := (blk_cell h 1).trans rfl
theorem IsS46.set_1 {w0 W : World} {g : Nat} {f0 : List Int} {f1 : Int} {f2 : Int} (h : IsS46 w0 W g f0 f1 f2) (x : Int) : IsS46 w0 (W.setCell ⟨g, 1, none⟩ (.int .i64 x)) g f0 x f2 := by
 obtain ⟨A0, c0, hb, hg, hr0⟩ := h
 exact ⟨A0, c0, by simpa using blk_set hb 1 (.int .i64 x), hg, hr0⟩
theorem cellS46_2 {W : World} {g : Nat} {A0 : Option Addr} {c0 : Nat} {f0 : List Int} {f1 : Int} {f2 : Int} (h : W.heap[g]? = some (.cells #[.slice A0 f0.length c0, .int .i64 f1, .int .u64 f2] 46 (0, 0))) : W.cell? ⟨g, 2, none⟩ = some (.int .u64 f2) := (blk_cell h 2).trans rfl
theorem IsS46.set_2 {w0 W : World} {g : Nat} {f0 : List Int} {f1 : Int} {f2 : Int} (h : IsS46 w0 W g f0 f1 f2) (x : Int) : IsS46 w0 (W.setCell ⟨g, 2, none⟩ (.int .u64 x)) g f0 f1 x := by
 obtain ⟨A0, c0, hb, hg, hr0⟩ := h
 exact ⟨A0, c0, by simpa using blk_set hb 2 (.int .u64 x), hg, hr0⟩
def spec_l1Cur_next.f (s0_0 : List Int) (s0_1 : Int) (s0_2 : Int) : Option (Int × Int × Int) := if s0_1 < (s0_0.length : Int) then (if 0 ≤ s0_1 then (if (wrap64 (s0_1 + 1)) ≤ (s0_0.length : Int) then (some (wrap64 (rd s0_0 s0_1), wrap64 (s0_1 + 1), IntKind.u64.wrap ((IntKind.u64.wrap ((IntKind.u64.wrap (s0_2 * 6364136223846793005)) + (IntKind.u64.wrap (wrap64 (rd s0_0 s0_1))))) + 1442695040888963407))) else (some (wrap64 (Go.bits .and .u64 ((IntKind.u64.wrap ((IntKind.u64.wrap ((IntKind.u64.wrap (s0_2 * 6364136223846793005)) + (IntKind.u64.wrap (wrap64 (rd s0_0 s0_1))))) + 1442695040888963407)) / 1099511627776) 255), wrap64 (s0_1 + 1), IntKind.u64.wrap ((IntKind.u64.wrap ((IntKind.u64.wrap (s0_2 * 6364136223846793005)) + (IntKind.u64.wrap (wrap64 (rd s0_0 s0_1))))) + 1442695040888963407)))) else (none)) else (if (wrap64 (s0_1 + 1)) ≤ (s0_0.length : Int) then (some (0, wrap64 (s0_1 + 1), IntKind.u64.wrap ((IntKind.u64.wrap ((IntKind.u64.wrap (s0_2 * 6364136223846793005)))) + 1442695040888963407))) else (some (wrap64 (Go.bits .and .u64 ((IntKind.u64.wrap ((IntKind.u64.wrap ((IntKind.u64.wrap (s0_2 * 6364136223846793005)))) + 1442695040888963407)) / 1099511627776) 255), wrap64 (s0_1 + 1), IntKind.u64.wrap ((IntKind.u64.wrap ((IntKind.u64.wrap (s0_2 * 6364136223846793005)))) + 1442695040888963407))))
set_option maxHeartbeats 8000000 in
set_option maxRecDepth 100000 in
theorem spec_l1Cur_next.calls (g : Nat) (s0_0 : List Int) (s0_1 : Int) (s0_2 : Int) (r1 : Int) (r2 : Int) (r3 : Int) (w0 w : World) (hI : IsS46 w0 w g s0_0 s0_1 s0_2) (hB : Below w0.heap.size w0 w) (h : spec_l1Cur_next.f s0_0 s0_1 s0_2 = some (r1, r2, r3)) :
  Calls Try.prog 35 #[.pointer (some ⟨g, 0, none⟩)] w fun e w' => e = .returned (.int .i64 r1) ∧ IsS46 w0 w' g s0_0 r2 r3 ∧ Below w0.heap.size w0 w' ∧ KeepBut w w' g none := by
 have HI0 := Aside0.mk hI
 have HK := Aside0.mk (KeepBut.refl w g none)
 have HL := Aside0.mk hB.size
 clear hI
 have HW0 := Aside0.mk hB.size
 have HB := Aside0.mk hB
 clear hB
 have H : (if s0_1 < (s0_0.length : Int) then (if 0 ≤ s0_1 then (if (wrap64 (s0_1 + 1)) ≤ (s0_0.length : Int) then (some (wrap64 (rd s0_0 s0_1), wrap64 (s0_1 + 1), IntKind.u64.wrap ((IntKind.u64.wrap ((IntKind.u64.wrap (s0_2 * 6364136223846793005)) + (IntKind.u64.wrap (wrap64 (rd s0_0 s0_1))))) + 1442695040888963407))) else (some (wrap64 (Go.bits .and .u64 ((IntKind.u64.wrap ((IntKind.u64.wrap ((IntKind.u64.wrap (s0_2 * 6364136223846793005)) + (IntKind.u64.wrap (wrap64 (rd s0_0 s0_1))))) + 1442695040888963407)) / 1099511627776) 255), wrap64 (s0_1 + 1), IntKind.u64.wrap ((IntKind.u64.wrap ((IntKind.u64.wrap (s0_2 * 6364136223846793005)) + (IntKind.u64.wrap (wrap64 (rd s0_0 s0_1))))) + 1442695040888963407)))) else (none)) else (if (wrap64 (s0_1 + 1)) ≤ (s0_0.length : Int) then (some (0, wrap64 (s0_1 + 1), IntKind.u64.wrap ((IntKind.u64.wrap ((IntKind.u64.wrap (s0_2 * 6364136223846793005)))) + 1442695040888963407))) else (some (wrap64 (Go.bits .and .u64 ((IntKind.u64.wrap ((IntKind.u64.wrap ((IntKind.u64.wrap (s0_2 * 6364136223846793005)))) + 1442695040888963407)) / 1099511627776) 255), wrap64 (s0_1 + 1), IntKind.u64.wrap ((IntKind.u64.wrap ((IntKind.u64.wrap (s0_2 * 6364136223846793005)))) + 1442695040888963407))))) = some (r1, r2, r3) := h
 clear h
 by_cases c2 : s0_1 < (s0_0.length : Int)
 ·rw [if_pos c2] at H
  have c2b0 : decide (s0_1 < (s0_0.length : Int)) = true := decide_eq_true c2
  clear c2
  by_cases c3 : 0 ≤ s0_1
  ·rw [if_pos c3] at H
   have c3b0 : decide (0 ≤ s0_1) = true := decide_eq_true c3
   clear c3
   by_cases c4 : (wrap64 (s0_1 + 1)) ≤ (s0_0.length : Int)
   ·rw [if_pos c4] at H
    have c4b0 : decide ((wrap64 (s0_1 + 1)) ≤ (s0_0.length : Int)) = true := decide_eq_true c4
    clear c4
    simp only [Option.some.injEq, Prod.mk.injEq] at H
    obtain ⟨rfl, rfl, rfl⟩ := H
    obtain ⟨ASz5_0, cSz5_0, HGz5, hgz5, HSz5_0⟩ := HI0.out
    have hcz5_0 := cellS46_0 HGz5
    have hcz5_1 := cellS46_1 HGz5
    have hcz5_2 := cellS46_2 HGz5
    have hfz5_1 := blk_frozen HGz5 1
    have hfz5_2 := blk_frozen HGz5 2
    clear HGz5 hgz5
    have p101 : 0 ≤ (s0_1 : Int) := of_decide_eq_true hE
    have q101 : s0_1 < (s0_0.length : Int) := of_decide_eq_true hE
    obtain ⟨ad101, e101, hx101_0⟩ := Kd.at_int HSz5_0 s0_1 p101 q101
    cases e101
    replace hx101_0 := pw_cell_below HB.out hx101_0
    replace p101 := eq_true p101
    replace q101 := eq_true q101
    go_enter Try.func35, Try.ntmps35
    go_wp2
    repeat (go_quiet (fail); try go_wp2)
    go_ret
    exact ⟨eE, by repeat (first | (with_reducible first | exact HI0.out | apply IsS46.alloc | apply IsS46.drewN | apply IsS46.drew | apply IsS46.set_1 | apply IsS46.set_2) | exact HI0.out), by repeat (first | (with_reducible first | exact HB.out | apply below_alloc | apply pw_below_drewN | apply below_drew1 | refine below_set ?_ (IsS46.ge HI0.out)) | exact HB.out), by repeat (first | (with_reducible first | exact HK.out | apply KeepBut.set_ | apply keep_drewN | apply keep_drew | apply keep_alloc) | exact HK.out)⟩
   ·rw [if_neg c4] at H
    have c4b0 : decide ((wrap64 (s0_1 + 1)) ≤ (s0_0.length : Int)) = false := decide_eq_false c4
    clear c4
    simp only [Option.some.injEq, Prod.mk.injEq] at H
    obtain ⟨rfl, rfl, rfl⟩ := H
    obtain ⟨ASz6_0, cSz6_0, HGz6, hgz6, HSz6_0⟩ := HI0.out
    have hcz6_0 := cellS46_0 HGz6
    have hcz6_1 := cellS46_1 HGz6
    have hcz6_2 := cellS46_2 HGz6
    have hfz6_1 := blk_frozen HGz6 1
    have hfz6_2 := blk_frozen HGz6 2
    clear HGz6 hgz6
    have p101 : 0 ≤ (s0_1 : Int) := of_decide_eq_true hE
    have q101 : s0_1 < (s0_0.length : Int) := of_decide_eq_true hE
    obtain ⟨ad101, e101, hx101_0⟩ := Kd.at_int HSz6_0 s0_1 p101 q101
    cases e101
    replace hx101_0 := pw_cell_below HB.out hx101_0
    replace p101 := eq_true p101
    replace q101 := eq_true q101
    go_enter Try.func35, Try.ntmps35
    go_wp2
    repeat (go_quiet (fail); try go_wp2)
    go_ret
    exact ⟨eE, by repeat (first | (with_reducible first | exact HI0.out | apply IsS46.alloc | apply IsS46.drewN | apply IsS46.drew | apply IsS46.set_1 | apply IsS46.set_2) | exact HI0.out), by repeat (first | (with_reducible first | exact HB.out | apply below_alloc | apply pw_below_drewN | apply below_drew1 | refine below_set ?_ (IsS46.ge HI0.out)) | exact HB.out), by repeat (first | (with_reducible first | exact HK.out | apply KeepBut.set_ | apply keep_drewN | apply keep_drew | apply keep_alloc) | exact HK.out)⟩
  ·rw [if_neg c3] at H
   exact absurd H (by simp)
 ·rw [if_neg c2] at H
  have c2b0 : decide (s0_1 < (s0_0.length : Int)) = false := decide_eq_false c2
  clear c2
  by_cases c7 : (wrap64 (s0_1 + 1)) ≤ (s0_0.length : Int)
  ·rw [if_pos c7] at H
   have c7b0 : decide ((wrap64 (s0_1 + 1)) ≤ (s0_0.length : Int)) = true := decide_eq_true c7
   clear c7
   simp only [Option.some.injEq, Prod.mk.injEq] at H
   obtain ⟨rfl, rfl, rfl⟩ := H
   obtain ⟨ASz8_0, cSz8_0, HGz8, hgz8, HSz8_0⟩ := HI0.out
   have hcz8_0 := cellS46_0 HGz8
   have hcz8_1 := cellS46_1 HGz8
   have hcz8_2 := cellS46_2 HGz8
   have hfz8_1 := blk_frozen HGz8 1
   have hfz8_2 := blk_frozen HGz8 2
   clear HGz8 hgz8
   go_enter Try.func35, Try.ntmps35
   go_wp2
   repeat (go_quiet (fail); try go_wp2)
   go_ret
   exact ⟨eE, by repeat (first | (with_reducible first | exact HI0.out | apply IsS46.alloc | apply IsS46.drewN | apply IsS46.drew | apply IsS46.set_1 | apply IsS46.set_2) | exact HI0.out), by repeat (first | (with_reducible first | exact HB.out | apply below_alloc | apply pw_below_drewN | apply below_drew1 | refine below_set ?_ (IsS46.ge HI0.out)) | exact HB.out), by repeat (first | (with_reducible first | exact HK.out | apply KeepBut.set_ | apply keep_drewN | apply keep_drew | apply keep_alloc) | exact HK.out)⟩
  ·rw [if_neg c7] at H
   have c7b0 : decide ((wrap64 (s0_1 + 1)) ≤ (s0_0.length : Int)) = false := decide_eq_false c7
   clear c7
   simp only [Option.some.injEq, Prod.mk.injEq] at H
   obtain ⟨rfl, rfl, rfl⟩ := H
   obtain ⟨ASz9_0, cSz9_0, HGz9, hgz9, HSz9_0⟩ := HI0.out
   have hcz9_0 := cellS46_0 HGz9
   have hcz9_1 := cellS46_1 HGz9
   have hcz9_2 := cellS46_2 HGz9
   have hfz9_1 := blk_frozen HGz9 1
   have hfz9_2 := blk_frozen HGz9 2
   clear HGz9 hgz9
   go_enter Try.func35, Try.ntmps35
   go_wp2
   repeat (go_quiet (fail); try go_wp2)
   go_ret
   exact ⟨eE, by repeat (first | (with_reducible first | exact HI0.out | apply IsS46.alloc | apply IsS46.drewN | apply IsS46.drew | apply IsS46.set_1 | apply IsS46.set_2) | exact HI0.out), by repeat (first | (with_reducible first | exact HB.out | apply below_alloc | apply pw_below_drewN | apply below_drew1 | refine below_set ?_ (IsS46.ge HI0.out)) | exact HB.out), by repeat (first | (with_reducible first | exact HK.out | apply KeepBut.set_ | apply keep_drewN | apply keep_drew | apply keep_alloc) | exact HK.out)⟩
def spec_l1Cur_pick.f (s0_0 : List Int) (s0_1 : Int) (s0_2 : Int) (a1 : Int) : Option (Int × Int × Int) := if a1 ≤ 1 then (some (0, s0_1, s0_2)) else ((spec_l1Cur_next.f s0_0 s0_1 s0_2).bind fun bt102 => (if a1 > 200 then ((spec_l1Cur_next.f s0_0 bt102.2.1 bt102.2.2).bind fun bt105 => (if a1 = 0 then (none) else (some (Int.tmod (wrap64 ((wrap64 (bt102.1 * 256)) + bt105.1)) a1, bt105.2.1, bt105.2.2)))) else (if a1 = 0 then (none) else (some (Int.tmod bt102.1 a1, bt102.2.1, bt102.2.2)))))
set_option maxHeartbeats 8000000 in
set_option maxRecDepth 100000 in
theorem spec_l1Cur_pick.calls (g : Nat) (s0_0 : List Int) (s0_1 : Int) (s0_2 : Int) (a1 : Int) (r1 : Int) (r2 : Int) (r3 : Int) (w0 w : World) (hI : IsS46 w0 w g s0_0 s0_1 s0_2) (hB : Below w0.heap.size w0 w) (h : spec_l1Cur_pick.f s0_0 s0_1 s0_2 a1 = some (r1, r2, r3)) :
  Calls Try.prog 19 #[.pointer (some ⟨g, 0, none⟩), .int .i64 a1] w fun e w' => e = .returned (.int .i64 r1) ∧ IsS46 w0 w' g s0_0 r2 r3 ∧ Below w0.heap.size w0 w' ∧ KeepBut w w' g none := by
 have HI0 := Aside0.mk hI
 have HK := Aside0.mk (KeepBut.refl w g none)
 have HL := Aside0.mk hB.size
 clear hI
 have HW0 := Aside0.mk hB.size
 have HB := Aside0.mk hB
 clear hB
 have H : (if a1 ≤ 1 then (some (0, s0_1, s0_2)) else ((spec_l1Cur_next.f s0_0 s0_1 s0_2).bind fun bt102 => (if a1 > 200 then ((spec_l1Cur_next.f s0_0 bt102.2.1 bt102.2.2).bind fun bt105 => (if a1 = 0 then (none) else (some (Int.tmod (wrap64 ((wrap64 (bt102.1 * 256)) + bt105.1)) a1, bt105.2.1, bt105.2.2)))) else (if a1 = 0 then (none) else (some (Int.tmod bt102.1 a1, bt102.2.1, bt102.2.2)))))) = some (r1, r2, r3) := h
 clear h
 by_cases c3 : a1 ≤ 1
 ·rw [if_pos c3] at H
  have c3b0 : decide (a1 ≤ 1) = true := decide_eq_true c3
  clear c3
  simp only [Option.some.injEq, Prod.mk.injEq] at H
  obtain ⟨rfl, rfl, rfl⟩ := H
  go_enter Try.func19, Try.ntmps19
  go_wp2
  go_ret
  exact ⟨eE, by repeat (first | (with_reducible first | exact HI0.out | apply IsS46.alloc | apply IsS46.drewN | apply IsS46.drew | apply IsS46.set_1 | apply IsS46.set_2) | exact HI0.out), by repeat (first | (with_reducible first | exact HB.out | apply below_alloc | apply pw_below_drewN | apply below_drew1 | refine below_set ?_ (IsS46.ge HI0.out)) | exact HB.out), by repeat (first | (with_reducible first | exact HK.out | apply KeepBut.set_ | apply keep_drewN | apply keep_drew | apply keep_alloc) | exact HK.out)⟩
 ·rw [if_neg c3] at H
  have c3b0 : decide (a1 ≤ 1) = false := decide_eq_false c3
  clear c3
  replace H := Option.bind_eq_some_iff.mp H
  obtain ⟨⟨t102, t103, t104⟩, A40, H⟩ := H
  replace H : (if a1 > 200 then ((spec_l1Cur_next.f s0_0 t103 t104).bind fun bt105 => (if a1 = 0 then (none) else (some (Int.tmod (wrap64 ((wrap64 (t102 * 256)) + bt105.1)) a1, bt105.2.1, bt105.2.2)))) else (if a1 = 0 then (none) else (some (Int.tmod t102 a1, t103, t104)))) = some (r1, r2, r3) := H
  have A4 := Aside0.mk A40
  clear A40
  by_cases c5 : a1 > 200
  ·rw [if_pos c5] at H
   have c5b0 : decide (200 < a1) = true := decide_eq_true c5
   clear c5
   replace H := Option.bind_eq_some_iff.mp H
   obtain ⟨⟨t105, t106, t107⟩, A60, H⟩ := H
   replace H : (if a1 = 0 then (none) else (some (Int.tmod (wrap64 ((wrap64 (t102 * 256)) + t105)) a1, t106, t107))) = some (r1, r2, r3) := H
   have A6 := Aside0.mk A60
   clear A60
   by_cases c7 : a1 = 0
   ·rw [if_pos c7] at H
    exact absurd H (by simp)
   ·rw [if_neg c7] at H
    have c7b0 : (a1 == 0) = false := beq_eq_false_iff_ne.mpr c7
    have c7b1 : (a1 != 0) = true := bne_iff_ne.mpr c7
    simp only [Option.some.injEq, Prod.mk.injEq] at H
    obtain ⟨rfl, rfl, rfl⟩ := H
    go_enter Try.func19, Try.ntmps19
    go_wp2_with (first | ((with_reducible refine gate_callee (f := 35) rfl ?_); refine goesL_ (some 9) rfl rfl Try.func35 (by kernel_rfl) rfl #[.pointer (some ⟨g, 0, none⟩)] rfl aE ?_; (with_reducible refine (spec_l1Cur_next.calls g s0_0 s0_1 s0_2 t102 t103 t104 w0 _ ?side1 ?side2 A4.out).mono ?_); (case side1 => repeat (first | (with_reducible first | exact HI0.out | apply IsS46.alloc | apply IsS46.drewN | apply IsS46.drew | apply IsS46.set_1 | apply IsS46.set_2) | exact HI0.out)); (case side2 => repeat (first | (with_reducible first | exact HB.out | apply below_alloc | apply pw_below_drewN | apply below_drew1 | refine below_set ?_ (IsS46.ge HI0.out)) | exact HB.out)); rintro e w8 ⟨rfl, hi, hb, hk⟩; refine ⟨_, rfl, ?_⟩; replace HK := Aside0.mk (KeepBut.trans (by repeat (first | (with_reducible first | exact HK.out | apply KeepBut.set_ | apply keep_drewN | apply keep_drew | apply keep_alloc) | exact HK.out)) hk (.inl rfl)); replace HB := Aside0.mk hb; replace HI0 := Aside0.mk hi; (try clear hb); (try clear hk); (try clear hi)) | ((with_reducible refine gate_callee (f := 35) rfl ?_); refine goesL_ (some 15) rfl rfl Try.func35 (by kernel_rfl) rfl #[.pointer (some ⟨g, 0, none⟩)] rfl aE ?_; (with_reducible refine (spec_l1Cur_next.calls g s0_0 t103 t104 t105 t106 t107 w0 _ ?side1 ?side2 A6.out).mono ?_); (case side1 => repeat (first | (with_reducible first | exact HI0.out | apply IsS46.alloc | apply IsS46.drewN | apply IsS46.drew | apply IsS46.set_1 | apply IsS46.set_2) | exact HI0.out)); (case side2 => repeat (first | (with_reducible first | exact HB.out | apply below_alloc | apply pw_below_drewN | apply below_drew1 | refine below_set ?_ (IsS46.ge HI0.out)) | exact HB.out)); rintro e w9 ⟨rfl, hi, hb, hk⟩; refine ⟨_, rfl, ?_⟩; replace HK := Aside0.mk (KeepBut.trans (by repeat (first | (with_reducible first | exact HK.out | apply KeepBut.set_ | apply keep_drewN | apply keep_drew | apply keep_alloc) | exact HK.out)) hk (.inl rfl)); replace HB := Aside0.mk hb; replace HI0 := Aside0.mk hi; (try clear hb); (try clear hk); (try clear hi)))
    go_ret
    exact ⟨eE, by repeat (first | (with_reducible first | exact HI0.out | apply IsS46.alloc | apply IsS46.drewN | apply IsS46.drew | apply IsS46.set_1 | apply IsS46.set_2) | exact HI0.out), by repeat (first | (with_reducible first | exact HB.out | apply below_alloc | apply pw_below_drewN | apply below_drew1 | refine below_set ?_ (IsS46.ge HI0.out)) | exact HB.out), by repeat (first | (with_reducible first | exact HK.out | apply KeepBut.set_ | apply keep_drewN | apply keep_drew | apply keep_alloc) | exact HK.out)⟩
  ·rw [if_neg c5] at H
   have c5b0 : decide (200 < a1) = false := decide_eq_false c5
   clear c5
   by_cases c10 : a1 = 0
   ·rw [if_pos c10] at H
    exact absurd H (by simp)
   ·rw [if_neg c10] at H
    have c10b0 : (a1 == 0) = false := beq_eq_false_iff_ne.mpr c10
    have c10b1 : (a1 != 0) = true := bne_iff_ne.mpr c10
    simp only [Option.some.injEq, Prod.mk.injEq] at H
    obtain ⟨rfl, rfl, rfl⟩ := H
    go_enter Try.func19, Try.ntmps19
    go_wp2_with (first | ((with_reducible refine gate_callee (f := 35) rfl ?_); refine goesL_ (some 9) rfl rfl Try.func35 (by kernel_rfl) rfl #[.pointer (some ⟨g, 0, none⟩)] rfl aE ?_; (with_reducible refine (spec_l1Cur_next.calls g s0_0 s0_1 s0_2 t102 t103 t104 w0 _ ?side1 ?side2 A4.out).mono ?_); (case side1 => repeat (first | (with_reducible first | exact HI0.out | apply IsS46.alloc | apply IsS46.drewN | apply IsS46.drew | apply IsS46.set_1 | apply IsS46.set_2) | exact HI0.out)); (case side2 => repeat (first | (with_reducible first | exact HB.out | apply below_alloc | apply pw_below_drewN | apply below_drew1 | refine below_set ?_ (IsS46.ge HI0.out)) | exact HB.out)); rintro e w11 ⟨rfl, hi, hb, hk⟩; refine ⟨_, rfl, ?_⟩; replace HK := Aside0.mk (KeepBut.trans (by repeat (first | (with_reducible first | exact HK.out | apply KeepBut.set_ | apply keep_drewN | apply keep_drew | apply keep_alloc) | exact HK.out)) hk (.inl rfl)); replace HB := Aside0.mk hb; replace HI0 := Aside0.mk hi; (try clear hb); (try clear hk); (try clear hi)))
    go_ret
    exact ⟨eE, by repeat (first | (with_reducible first | exact HI0.out | apply IsS46.alloc | apply IsS46.drewN | apply IsS46.drew | apply IsS46.set_1 | apply IsS46.set_2) | exact HI0.out), by repeat (first | (with_reducible first | exact HB.out | apply below_alloc | apply pw_below_drewN | apply below_drew1 | refine below_set ?_ (IsS46.ge HI0.out)) | exact HB.out), by repeat (first | (with_reducible first | exact HK.out | apply KeepBut.set_ | apply keep_drewN | apply keep_drew | apply keep_alloc) | exact HK.out)⟩
def spec_l1Cur_one.f (s0_0 : List Int) (s0_1 : Int) (s0_2 : Int) (a1 : Int) : Option (Bool × Int × Int) := (spec_l1Cur_pick.f s0_0 s0_1 s0_2 a1).bind fun bt108 => (some ((bt108.1 == 0), bt108.2.1, bt108.2.2))
set_option maxHeartbeats 8000000 in
set_option maxRecDepth 100000 in
theorem spec_l1Cur_one.calls (g : Nat) (s0_0 : List Int) (s0_1 : Int) (s0_2 : Int) (a1 : Int) (r1 : Bool) (r2 : Int) (r3 : Int) (w0 w : World) (hI : IsS46 w0 w g s0_0 s0_1 s0_2) (hB : Below w0.heap.size w0 w) (h : spec_l1Cur_one.f s0_0 s0_1 s0_2 a1 = some (r1, r2, r3)) :
  Calls Try.prog 20 #[.pointer (some ⟨g, 0, none⟩), .int .i64 a1] w fun e w' => e = .returned (.bool r1) ∧ IsS46 w0 w' g s0_0 r2 r3 ∧ Below w0.heap.size w0 w' ∧ KeepBut w w' g none := by
 have HI0 := Aside0.mk hI
 have HK := Aside0.mk (KeepBut.refl w g none)
 have HL := Aside0.mk hB.size
 clear hI
 have HW0 := Aside0.mk hB.size
 have HB := Aside0.mk hB
 clear hB
 have H : ((spec_l1Cur_pick.f s0_0 s0_1 s0_2 a1).bind fun bt108 => (some ((bt108.1 == 0), bt108.2.1, bt108.2.2))) = some (r1, r2, r3) := h
 clear h
 replace H := Option.bind_eq_some_iff.mp H
 obtain ⟨⟨t108, t109, t110⟩, A30, H⟩ := H
 replace H : (some ((t108 == 0), t109, t110)) = some (r1, r2, r3) := H
 have A3 := Aside0.mk A30
 clear A30
 simp only [Option.some.injEq, Prod.mk.injEq] at H
 obtain ⟨rfl, rfl, rfl⟩ := H
 go_enter Try.func20, Try.ntmps20
 go_wp2_with (first | ((with_reducible refine gate_callee (f := 19) rfl ?_); refine goesL_ (some 7) rfl rfl Try.func19 (by kernel_rfl) rfl #[.pointer (some ⟨g, 0, none⟩), .int .i64 a1] rfl aE ?_; (with_reducible refine (spec_l1Cur_pick.calls g s0_0 s0_1 s0_2 a1 t108 t109 t110 w0 _ ?side1 ?side2 A3.out).mono ?_); (case side1 => repeat (first | (with_reducible first | exact HI0.out | apply IsS46.alloc | apply IsS46.drewN | apply IsS46.drew | apply IsS46.set_1 | apply IsS46.set_2) | exact HI0.out)); (case side2 => repeat (first | (with_reducible first | exact HB.out | apply below_alloc | apply pw_below_drewN | apply below_drew1 | refine below_set ?_ (IsS46.ge HI0.out)) | exact HB.out)); rintro e w4 ⟨rfl, hi, hb, hk⟩; refine ⟨_, rfl, ?_⟩; replace HK := Aside0.mk (KeepBut.trans (by repeat (first | (with_reducible first | exact HK.out | apply KeepBut.set_ | apply keep_drewN | apply keep_drew | apply keep_alloc) | exact HK.out)) hk (.inl rfl)); replace HB := Aside0.mk hb; replace HI0 := Aside0.mk hi; (try clear hb); (try clear hk); (try clear hi)))
 go_ret
 exact ⟨eE, by repeat (first | (with_reducible first | exact HI0.out | apply IsS46.alloc | apply IsS46.drewN | apply IsS46.drew | apply IsS46.set_1 | apply IsS46.set_2) | exact HI0.out), by repeat (first | (with_reducible first | exact HB.out | apply below_alloc | apply pw_below_drewN | apply below_drew1 | refine below_set ?_ (IsS46.ge HI0.out)) | exact HB.out), by repeat (first | (with_reducible first | exact HK.out | apply KeepBut.set_ | apply keep_drewN | apply keep_drew | apply keep_alloc) | exact HK.out)⟩
def spec_l1Cur_of.f (s0_0 : List Int) (s0_1 : Int) (s0_2 : Int) (l1 : List ByteArray) : Option (ByteArray × Int × Int) := (spec_l1Cur_pick.f s0_0 s0_1 s0_2 (l1.length : Int)).bind fun bt111 => (if 0 ≤ bt111.1 then (if bt111.1 < (l1.length : Int) then (some (rdOf ByteArray.empty l1 bt111.1, bt111.2.1, bt111.2.2)) else (none)) else (none))
set_option maxHeartbeats 8000000 in
set_option maxRecDepth 100000 in
theorem spec_l1Cur_of.calls (g : Nat) (s0_0 : List Int) (s0_1 : Int) (s0_2 : Int) (A1 : Option Addr) (c1 : Nat) (l1 : List ByteArray) (r1 : ByteArray) (r2 : Int) (r3 : Int) (w0 w : World) (hI : IsS46 w0 w g s0_0 s0_1 s0_2) (hB : Below w0.heap.size w0 w) (hr1 : Kd.C Kd.string w A1 l1.length l1) (hc1 : l1.length ≤ c1) (hf1 : ∀ ad, A1 = some ad → 0 < l1.length → ad.block ≠ g) (h : spec_l1Cur_of.f s0_0 s0_1 s0_2 l1 = some (r1, r2, r3)) :
  Calls Try.prog 34 #[.pointer (some ⟨g, 0, none⟩), .slice A1 l1.length c1] w fun e w' => e = .returned (.string r1) ∧ IsS46 w0 w' g s0_0 r2 r3 ∧ Below w0.heap.size w0 w' ∧ KeepBut w w' g none := by
 have HR1 := Aside0.mk hr1
 have HC1 := Aside0.mk hc1
 clear hr1 hc1
 have HI0 := Aside0.mk hI
 have HK := Aside0.mk (KeepBut.refl w g none)
 have HL := Aside0.mk hB.size
 clear hI
 have HW0 := Aside0.mk hB.size
 have HB := Aside0.mk hB
 clear hB
 have H : ((spec_l1Cur_pick.f s0_0 s0_1 s0_2 (l1.length : Int)).bind fun bt111 => (if 0 ≤ bt111.1 then (if bt111.1 < (l1.length : Int) then (some (rdOf ByteArray.empty l1 bt111.1, bt111.2.1, bt111.2.2)) else (none)) else (none))) = some (r1, r2, r3) := h
 clear h
 replace H := Option.bind_eq_some_iff.mp H
 obtain ⟨⟨t111, t112, t113⟩, A30, H⟩ := H
 replace H : (if 0 ≤ t111 then (if t111 < (l1.length : Int) then (some (rdOf ByteArray.empty l1 t111, t112, t113)) else (none)) else (none)) = some (r1, r2, r3) := H
 have A3 := Aside0.mk A30
 clear A30
 by_cases c4 : 0 ≤ t111
 ·rw [if_pos c4] at H
  have c4b0 : decide (0 ≤ t111) = true := decide_eq_true c4
  clear c4
  by_cases c5 : t111 < (l1.length : Int)
  ·rw [if_pos c5] at H
   have c5b0 : decide (t111 < (l1.length : Int)) = true := decide_eq_true c5
   clear c5
   simp only [Option.some.injEq, Prod.mk.injEq] at H
   obtain ⟨rfl, rfl, rfl⟩ := H
   go_enter Try.func34, Try.ntmps34
   go_wp2_with (first | ((with_reducible refine gate_callee (f := 19) rfl ?_); refine goesL_ (some 9) rfl rfl Try.func19 (by kernel_rfl) rfl #[.pointer (some ⟨g, 0, none⟩), .int .i64 (l1.length : Int)] rfl aE ?_; (with_reducible refine (spec_l1Cur_pick.calls g s0_0 s0_1 s0_2 (l1.length : Int) t111 t112 t113 w0 _ ?side1 ?side2 A3.out).mono ?_); (case side1 => repeat (first | (with_reducible first | exact HI0.out | apply IsS46.alloc | apply IsS46.drewN | apply IsS46.drew | apply IsS46.set_1 | apply IsS46.set_2) | exact HI0.out)); (case side2 => repeat (first | (with_reducible first | exact HB.out | apply below_alloc | apply pw_below_drewN | apply below_drew1 | refine below_set ?_ (IsS46.ge HI0.out)) | exact HB.out)); rintro e w6 ⟨rfl, hi, hb, hk⟩; refine ⟨_, rfl, ?_⟩; replace HK := Aside0.mk (KeepBut.trans (by repeat (first | (with_reducible first | exact HK.out | apply KeepBut.set_ | apply keep_drewN | apply keep_drew | apply keep_alloc) | exact HK.out)) hk (.inl rfl)); replace HB := Aside0.mk hb; replace HI0 := Aside0.mk hi; (try clear hb); (try clear hk); (try clear hi); have p114 : 0 ≤ (t111 : Int) := of_decide_eq_true hE; have q114 : t111 < (l1.length : Int) := of_decide_eq_true hE; obtain ⟨ad114, e114, hx114_0⟩ := Kd.at_string HR1.out t111 p114 q114; cases e114; replace hx114_0 := keep_cell HK.out hx114_0 (by first | (rw [add_block]; exact hf1 _ rfl (by omega)) | exact hf1 _ rfl (by omega) | exact hf1 ad114 rfl (by omega)); replace p114 := eq_true p114; replace q114 := eq_true q114))
   go_ret
   exact ⟨eE, by repeat (first | (with_reducible first | exact HI0.out | apply IsS46.alloc | apply IsS46.drewN | apply IsS46.drew | apply IsS46.set_1 | apply IsS46.set_2) | exact HI0.out), by repeat (first | (with_reducible first | exact HB.out | apply below_alloc | apply pw_below_drewN | apply below_drew1 | refine below_set ?_ (IsS46.ge HI0.out)) | exact HB.out), by repeat (first | (with_reducible first | exact HK.out | apply KeepBut.set_ | apply keep_drewN | apply keep_drew | apply keep_alloc) | exact HK.out)⟩
  ·rw [if_neg c5] at H
   exact absurd H (by simp)
 ·rw [if_neg c4] at H
  exact absurd H (by simp)
def spec_l1Cur_rows.l0 : Nat → List Int → Int → List Int → Int → Int → Option (List Int × Int × Int)
 | 0, _, _, _, _, _ => none
 | k + 1, x3, x4, x1000, x1001, x1002 => if x4 > 0 then ((spec_l1Cur_of.f x1000 x1001 x1002 (([(⟨#[97, 98, 99, 100]⟩ : ByteArray), (⟨#[97, 98, 99]⟩ : ByteArray), (⟨#[120, 121, 122]⟩ : ByteArray), (⟨#[113]⟩ : ByteArray), (⟨#[104, 101, 108, 108, 111]⟩ : ByteArray), (⟨#[0, 1]⟩ : ByteArray)] : List ByteArray))).bind fun bt121 => (if x3.length + bt121.1.size < 140737488355328 then (spec_l1Cur_rows.l0 k (x3 ++ bytesOf bt121.1) (wrap64 (x4 - 1)) x1000 bt121.2.1 bt121.2.2) else (none))) else ((spec_l1Cur_one.f x1000 x1001 x1002 30).bind fun bt127 => (if bt127.1 = true then ((spec_l1Cur_pick.f x1000 bt127.2.1 bt127.2.2 2).bind fun bt130 => (if 0 ≤ (wrap64 (400 + bt130.1)) then (if (wrap64 (400 + bt130.1) : Int).toNat ≤ 281474976710656 then (some ((List.replicate (wrap64 (400 + bt130.1) : Int).toNat 0), bt130.2.1, bt130.2.2)) else (none)) else (none))) else (some (x3, bt127.2.1, bt127.2.2))))
def spec_l1Cur_rows.f (k : Nat) (s0_0 : List Int) (s0_1 : Int) (s0_2 : Int) : Option (List Int × Int × Int) := (spec_l1Cur_pick.f s0_0 s0_1 s0_2 12).bind fun bt115 => (spec_l1Cur_rows.l0 k ([] : List Int) bt115.1 s0_0 bt115.2.1 bt115.2.2)
theorem spec_l1Cur_rows.mono_l : ∀ k, (∀ y0 y1 y2 y3 y4, LeO (spec_l1Cur_rows.l0 k y0 y1 y2 y3 y4) (spec_l1Cur_rows.l0 (k + 1) y0 y1 y2 y3 y4))
 | 0 => fun _ _ _ _ _ r h => by simp [spec_l1Cur_rows.l0] at h
 | k + 1 => by
  have ih0 := spec_l1Cur_rows.mono_l k
  ·intro y0 y1 y2 y3 y4
   unfold spec_l1Cur_rows.l0
   repeat' first
   | (with_reducible exact ih0 _ _ _ _ _)
   | (with_reducible exact LeO.refl _)
   | (with_reducible exact LeO.none _)
   | (with_reducible refine LeO.ite ?_ ?_)
   | (with_reducible refine LeO.bind ?_ (fun _ => ?_))
   | exact ih0 _ _ _ _ _
   | exact LeO.none _
   | refine LeO.ite ?_ ?_
   | refine LeO.bind ?_ (fun _ => ?_)
theorem spec_l1Cur_rows.mono : ∀ a0 a1 a2 k, LeO (spec_l1Cur_rows.f k a0 a1 a2) (spec_l1Cur_rows.f (k + 1) a0 a1 a2) := by
 intro a0 a1 a2 k
 have ih0 := spec_l1Cur_rows.mono_l k
 unfold spec_l1Cur_rows.f
 repeat' first
   | (with_reducible exact ih0 _ _ _ _ _)
   | (with_reducible exact LeO.refl _)
   | (with_reducible exact LeO.none _)
   | (with_reducible refine LeO.ite ?_ ?_)
   | (with_reducible refine LeO.bind ?_ (fun _ => ?_))
   | exact ih0 _ _ _ _ _
   | exact LeO.none _
   | refine LeO.ite ?_ ?_
   | refine LeO.bind ?_ (fun _ => ?_)
set_option maxHeartbeats 8000000 in
set_option maxRecDepth 100000 in
theorem spec_l1Cur_rows.calls (k : Nat) (g : Nat) (s0_0 : List Int) (s0_1 : Int) (s0_2 : Int) (r1 : List Int) (r2 : Int) (r3 : Int) (w0 w : World) (hI : IsS46 w0 w g s0_0 s0_1 s0_2) (hB : Below w0.heap.size w0 w) (h : spec_l1Cur_rows.f k s0_0 s0_1 s0_2 = some (r1, r2, r3)) :
  Calls Try.prog 15 #[.pointer (some ⟨g, 0, none⟩)] w fun e w' => ∃ v0_ : Value, e = .returned (v0_) ∧ Kd.R (Kd.int .u8) 5 w' w.heap.size (fun _ => True) v0_ r1 ∧ IsS46 w0 w' g s0_0 r2 r3 ∧ Below w0.heap.size w0 w' ∧ KeepBut w w' g none := by
 have HI0 := Aside0.mk hI
 have HK := Aside0.mk (KeepBut.refl w g none)
 have HL := Aside0.mk hB.size
 clear hI
 have HW0 := Aside0.mk hB.size
 have HB := Aside0.mk hB
 clear hB
 have H : ((spec_l1Cur_pick.f s0_0 s0_1 s0_2 12).bind fun bt115 => (spec_l1Cur_rows.l0 k ([] : List Int) bt115.1 s0_0 bt115.2.1 bt115.2.2)) = some (r1, r2, r3) := h
 clear h
 replace H := Option.bind_eq_some_iff.mp H
 obtain ⟨⟨t115, t116, t117⟩, A20, H⟩ := H
 replace H : (spec_l1Cur_rows.l0 k ([] : List Int) t115 s0_0 t116 t117) = some (r1, r2, r3) := H
 have A2 := Aside0.mk A20
 clear A20
 have H' := Aside0.mk H
 clear H
 go_enter Try.func15, Try.ntmps15
 go_wp2_with (first | ((with_reducible refine gate_callee (f := 19) rfl ?_); refine goesL_ (some 6) rfl rfl Try.func19 (by kernel_rfl) rfl #[.pointer (some ⟨g, 0, none⟩), .int .i64 12] rfl aE ?_; (with_reducible refine (spec_l1Cur_pick.calls g s0_0 s0_1 s0_2 12 t115 t116 t117 w0 _ ?side1 ?side2 A2.out).mono ?_); (case side1 => repeat (first | (with_reducible first | exact HI0.out | apply IsS46.alloc | apply IsS46.drewN | apply IsS46.drew | apply IsS46.set_1 | apply IsS46.set_2) | exact HI0.out)); (case side2 => repeat (first | (with_reducible first | exact HB.out | apply below_alloc | apply pw_below_drewN | apply below_drew1 | refine below_set ?_ (IsS46.ge HI0.out)) | exact HB.out)); rintro e w3 ⟨rfl, hi, hb, hk⟩; refine ⟨_, rfl, ?_⟩; replace HK := Aside0.mk (KeepBut.trans (by repeat (first | (with_reducible first | exact HK.out | apply KeepBut.set_ | apply keep_drewN | apply keep_drew | apply keep_alloc) | exact HK.out)) hk (.inl rfl)); replace HB := Aside0.mk hb; replace HI0 := Aside0.mk hi; (try clear hb); (try clear hk); (try clear hi)))
 (try simp only [Act.put, List.setIfInBounds_toArray, List.set_cons_zero, List.set_cons_succ])
 go_loopg [3, 4] k (fun kq v3 v4 w' => ∃ (x3_1 : List Int) (x4_1 : Int) (x1001_1 : Int) (x1002_1 : Int), v4 = .int .i64 x4_1 ∧ Aside0 (spec_l1Cur_rows.l0 kq x3_1 x4_1 s0_0 x1001_1 x1002_1 = some (r1, r2, r3)) ∧ Aside0 (kq ≤ k) ∧ Aside0 (Kd.R (Kd.int .u8) 5 w' w.heap.size (fun _ => True) v3 x3_1) ∧ Aside0 (IsS46 w0 w' g s0_0 x1001_1 x1002_1) ∧ Aside0 (KeepBut w w' g none) ∧ Aside0 (Below w0.heap.size w0 w'))
 case atStart => exact ⟨(([] : List Int)), (t115), (t116), (t117), tE, H', ⟨Nat.le_refl _⟩, ⟨by first | exact Kd.R_nil _ _ _ _ _ | exact Kd.N_nil _ _ _ _ _ | exact Kd.V_nil _ _ _ _ _ | exact Kd.Q_nil _ _ _ _ _ | exact Kd.S_nil _ _ _ _ _⟩, ⟨by repeat (first | (with_reducible first | exact HI0.out | apply IsS46.alloc | apply IsS46.drewN | apply IsS46.drew | apply IsS46.set_1 | apply IsS46.set_2) | exact HI0.out)⟩, ⟨by repeat (first | (with_reducible first | exact HK.out | apply KeepBut.set_ | apply keep_drewN | apply keep_drew | apply keep_alloc) | exact HK.out)⟩, ⟨by repeat (first | (with_reducible first | exact HB.out | apply below_alloc | apply pw_below_drewN | apply below_drew1 | refine below_set ?_ (IsS46.ge HI0.out)) | exact HB.out)⟩⟩
 case round =>
  clear H'
  try clear c1
  try clear p2
  obtain ⟨x3_1, x4_1, x1001_1, x1002_1, rfl, HA, HK1, HO_3, HI0, HK, HB⟩ := hrel
  cases gk with
  | zero => exact absurd HA.out (by simp [spec_l1Cur_rows.l0])
  | succ k1 =>
   have H := HA.out
   clear HA
   simp only [spec_l1Cur_rows.l0] at H
   by_cases c4 : x4_1 > 0
   ·rw [if_pos c4] at H
    have c4b0 : decide (0 < x4_1) = true := decide_eq_true c4
    clear c4
    obtain ⟨y118, hy118⟩ : ∃ y_ : List ByteArray, y_ = (([(⟨#[97, 98, 99, 100]⟩ : ByteArray), (⟨#[97, 98, 99]⟩ : ByteArray), (⟨#[120, 121, 122]⟩ : ByteArray), (⟨#[113]⟩ : ByteArray), (⟨#[104, 101, 108, 108, 111]⟩ : ByteArray), (⟨#[0, 1]⟩ : ByteArray)] : List ByteArray)) := ⟨_, rfl⟩
    replace H : ((spec_l1Cur_of.f s0_0 x1001_1 x1002_1 y118).bind fun bt121 => (if x3_1.length + bt121.1.size < 140737488355328 then (spec_l1Cur_rows.l0 k1 (x3_1 ++ bytesOf bt121.1) (wrap64 (x4_1 - 1)) s0_0 bt121.2.1 bt121.2.2) else (none))) = some (r1, r2, r3) := by first | (rw [hy118]; with_reducible exact H) | (have H2_ := (Option.bind_some _ _).symm.trans H; rw [hy118]; with_reducible exact H2_) | (have H2_ := (Option.bind_some _ _).symm.trans H; with_reducible exact H2_) | with_reducible exact H | (rw [hy118]; exact H) | exact H
    have Ny118 := Aside0.mk hy118
    clear hy118
    replace H := Option.bind_eq_some_iff.mp H
    obtain ⟨⟨t121, t122, t123⟩, A50, H⟩ := H
    replace H : (if x3_1.length + t121.size < 140737488355328 then (spec_l1Cur_rows.l0 k1 (x3_1 ++ bytesOf t121) (wrap64 (x4_1 - 1)) s0_0 t122 t123) else (none)) = some (r1, r2, r3) := H
    have A5 := Aside0.mk A50
    clear A50
    by_cases c6 : x3_1.length + t121.size < 140737488355328
    ·rw [if_pos c6] at H
     have LMc6 := Aside0.mk c6
     clear c6
     obtain ⟨y124, hy124⟩ : ∃ y_ : List Int, y_ = (x3_1 ++ bytesOf t121) := ⟨_, rfl⟩
     replace H : (spec_l1Cur_rows.l0 k1 y124 (wrap64 (x4_1 - 1)) s0_0 t122 t123) = some (r1, r2, r3) := by first | (rw [hy124]; with_reducible exact H) | (have H2_ := (Option.bind_some _ _).symm.trans H; rw [hy124]; with_reducible exact H2_) | (have H2_ := (Option.bind_some _ _).symm.trans H; with_reducible exact H2_) | with_reducible exact H | (rw [hy124]; exact H) | exact H
     have Ny124 := Aside0.mk hy124
     clear hy124
     have H' := Aside0.mk H
     clear H
     go_wp2_with (first | ((with_reducible refine gate_dst (N := 13) rfl ?_); refine Kd.R_lit Kd.string _ 9 ?hg (N := 13) ?hd (xs := ([(⟨#[97, 98, 99, 100]⟩ : ByteArray), (⟨#[97, 98, 99]⟩ : ByteArray), (⟨#[120, 121, 122]⟩ : ByteArray), (⟨#[113]⟩ : ByteArray), (⟨#[104, 101, 108, 108, 111]⟩ : ByteArray), (⟨#[0, 1]⟩ : ByteArray)] : List ByteArray)) (inner := [.string (⟨#[97, 98, 99, 100]⟩ : ByteArray), .string (⟨#[97, 98, 99]⟩ : ByteArray), .string (⟨#[120, 121, 122]⟩ : ByteArray), .string (⟨#[113]⟩ : ByteArray), .string (⟨#[104, 101, 108, 108, 111]⟩ : ByteArray), .string (⟨#[0, 1]⟩ : ByteArray)]) (ok := fun _ => True) (okp := fun _ => True) ?hr ?hp (fun _ hk => hk) trivial (Below.refl _ _) (Nat.le_refl _) (by simp) ?_; (case hd => rfl); (case hg => rfl); (case hr => exact sE); (case hp => exact (Reps.one (show Kd.M Kd.string _ _ _ (⟨#[97, 98, 99, 100]⟩ : ByteArray) [.string (⟨#[97, 98, 99, 100]⟩ : ByteArray)] from rfl) (Reps.one (show Kd.M Kd.string _ _ _ (⟨#[97, 98, 99]⟩ : ByteArray) [.string (⟨#[97, 98, 99]⟩ : ByteArray)] from rfl) (Reps.one (show Kd.M Kd.string _ _ _ (⟨#[120, 121, 122]⟩ : ByteArray) [.string (⟨#[120, 121, 122]⟩ : ByteArray)] from rfl) (Reps.one (show Kd.M Kd.string _ _ _ (⟨#[113]⟩ : ByteArray) [.string (⟨#[113]⟩ : ByteArray)] from rfl) (Reps.one (show Kd.M Kd.string _ _ _ (⟨#[104, 101, 108, 108, 111]⟩ : ByteArray) [.string (⟨#[104, 101, 108, 108, 111]⟩ : ByteArray)] from rfl) (Reps.one (show Kd.M Kd.string _ _ _ (⟨#[0, 1]⟩ : ByteArray) [.string (⟨#[0, 1]⟩ : ByteArray)] from rfl) (Reps.none _ _)))))))); intro v119 w7 ho8 hb hg_ hnew_; clear hg_ hnew_; (first | rw [← Ny118.out] at ho8 | (simp only [Int.reduceToNat] at ho8; rw [← Ny118.out] at ho8)); replace HO_3 := Aside0.mk (Kd.R_below (rU HO_3.out) hb); have HO120 := Aside0.mk (Kd.R_lower ho8 (keep_size (w := w) (g := g) (row := none) (by repeat (first | (with_reducible first | exact HK.out | apply KeepBut.set_ | apply keep_drewN | apply keep_drew | apply keep_alloc) | exact HK.out)))); replace HK := Aside0.mk (KeepBut.trans (by repeat (first | (with_reducible first | exact HK.out | apply KeepBut.set_ | apply keep_drewN | apply keep_drew | apply keep_alloc) | exact HK.out)) (KeepBut.of_below hb g none) (.inl rfl)); replace HB := Aside0.mk (below_step (by repeat (first | (with_reducible first | exact HB.out | apply below_alloc | apply pw_below_drewN | apply below_drew1 | refine below_set ?_ (IsS46.ge HI0.out)) | exact HB.out)) hb); replace HI0 := Aside0.mk (IsS46.below (by repeat (first | (with_reducible first | exact HI0.out | apply IsS46.alloc | apply IsS46.drewN | apply IsS46.drew | apply IsS46.set_1 | apply IsS46.set_2) | exact HI0.out)) hb); clear hb ho8; obtain ⟨Ao9, co9, eo9⟩ := Kd.R_slice HO120.out; subst eo9) | ((with_reducible refine gate_callee (f := 34) rfl ?_); refine goesL_ (some 14) rfl rfl Try.func34 (by kernel_rfl) rfl #[.pointer (some ⟨g, 0, none⟩), .slice Ao9 y118.length co9] rfl aE ?_; (with_reducible refine (spec_l1Cur_of.calls g s0_0 x1001_1 x1002_1 _ _ y118 t121 t122 t123 w0 _ ?side1 ?side2 ?side3 ?side4 ?side5 A5.out).mono ?_); (case side1 => repeat (first | (with_reducible first | exact HI0.out | apply IsS46.alloc | apply IsS46.drewN | apply IsS46.drew | apply IsS46.set_1 | apply IsS46.set_2) | exact HI0.out)); (case side2 => repeat (first | (with_reducible first | exact HB.out | apply below_alloc | apply pw_below_drewN | apply below_drew1 | refine below_set ?_ (IsS46.ge HI0.out)) | exact HB.out)); (case side3 => exact cU (Kd.R_reads' HO120.out).2.2); (case side4 => exact (Kd.R_reads' HO120.out).2.1); (case side5 => exact far_slice (IsS46.own_ne HI0.out HO120.out (by decide))); rintro e w10 ⟨rfl, hi, hb, hk⟩; refine ⟨_, rfl, ?_⟩; replace HO_3 := Aside0.mk (Kd.R_mono (Kd.R_keep (IsS46.apart (show IsS46 w0 _ g s0_0 x1001_1 x1002_1 from by repeat (first | (with_reducible first | exact HI0.out | apply IsS46.alloc | apply IsS46.drewN | apply IsS46.drew | apply IsS46.set_1 | apply IsS46.set_2) | exact HI0.out)) (rU HO_3.out) (by decide)) hk (fun _ h => h.2)) (fun _ h => h.1)); replace HO120 := Aside0.mk (Kd.R_mono (Kd.R_keep (IsS46.apart (show IsS46 w0 _ g s0_0 x1001_1 x1002_1 from by repeat (first | (with_reducible first | exact HI0.out | apply IsS46.alloc | apply IsS46.drewN | apply IsS46.drew | apply IsS46.set_1 | apply IsS46.set_2) | exact HI0.out)) (rU HO120.out) (by decide)) hk (fun _ h => h.2)) (fun _ h => h.1)); replace HK := Aside0.mk (KeepBut.trans (by repeat (first | (with_reducible first | exact HK.out | apply KeepBut.set_ | apply keep_drewN | apply keep_drew | apply keep_alloc) | exact HK.out)) hk (.inl rfl)); replace HB := Aside0.mk hb; replace HI0 := Aside0.mk hi; (try clear hb); (try clear hk); (try clear hi)) | (at_builtin; refine print_append_str w.heap.size rfl (.tmp 11) _ 22 9 5 rfl Try.underlying22 Try.underlying9 info5 u3 x3_1 t121 rfl rfl ?aO (Below.refl _ _) ?aS ?aL ?_; (case aO => exact (Kd.own_of_R (rU HO_3.out))); (case aS => exact (keep_size (w := w) (g := g) (row := none) (by repeat (first | (with_reducible first | exact HK.out | apply KeepBut.set_ | apply keep_drewN | apply keep_drew | apply keep_alloc) | exact HK.out)))); (case aL => have := LMc6.out; omega); intro v125 w11 ho0 hb hg; have ho := Kd.R_of_own (h1 := fun _ => rfl) (ok := fun _ => True) ho0 (fun _ _ => trivial); clear ho0; have hat := True.intro; rw [← Ny124.out] at ho; change Kd.R (Kd.int .u8) 5 w11 w.heap.size (fun _ => True) v125 y124 at ho; replace HO120 := Aside0.mk (Kd.R_over' (rU HO120.out) (Kd.R_typed (rU HO_3.out)) (by decide) hg); replace HB := Aside0.mk (below_weaken (by repeat (first | (with_reducible first | exact HB.out | apply below_alloc | apply pw_below_drewN | apply below_drew1 | refine below_set ?_ (IsS46.ge HI0.out)) | exact HB.out)) HL.out hb); replace HI0 := Aside0.mk (IsS46.grown (by repeat (first | (with_reducible first | exact HI0.out | apply IsS46.alloc | apply IsS46.drewN | apply IsS46.drew | apply IsS46.set_1 | apply IsS46.set_2) | exact HI0.out)) hg (IsS46.own_ne HI0.out HO_3.out (by decide))); replace HK := Aside0.mk (KeepBut.trans (by repeat (first | (with_reducible first | exact HK.out | apply KeepBut.set_ | apply keep_drewN | apply keep_drew | apply keep_alloc) | exact HK.out)) (KeepBut.of_grown hg g) (Kd.R_base2 HO_3.out)); have HO126 := Aside0.mk ho; clear HO_3; clear ho hb hg hat))
     go_roundg k1
     case measure => have := HK1.out; omega
     case rel => exact ⟨(y124), (wrap64 (x4_1 - 1)), (t122), (t123), tE, H', ⟨by have := HK1.out; omega⟩, ⟨by (with_reducible repeat (first | apply Kd.R_alloc | apply Kd.R_drewN | apply Kd.R_drew)); exact HO126.out⟩, ⟨by repeat (first | (with_reducible first | exact HI0.out | apply IsS46.alloc | apply IsS46.drewN | apply IsS46.drew | apply IsS46.set_1 | apply IsS46.set_2) | exact HI0.out)⟩, ⟨by repeat (first | (with_reducible first | exact HK.out | apply KeepBut.set_ | apply keep_drewN | apply keep_drew | apply keep_alloc) | exact HK.out)⟩, ⟨by repeat (first | (with_reducible first | exact HB.out | apply below_alloc | apply pw_below_drewN | apply below_drew1 | refine below_set ?_ (IsS46.ge HI0.out)) | exact HB.out)⟩⟩
    ·rw [if_neg c6] at H
     exact absurd H (by simp)
   ·rw [if_neg c4] at H
    have c4b0 : decide (0 < x4_1) = false := decide_eq_false c4
    clear c4
    replace H := Option.bind_eq_some_iff.mp H
    obtain ⟨⟨t127, t128, t129⟩, A120, H⟩ := H
    replace H : (if t127 = true then ((spec_l1Cur_pick.f s0_0 t128 t129 2).bind fun bt130 => (if 0 ≤ (wrap64 (400 + bt130.1)) then (if (wrap64 (400 + bt130.1) : Int).toNat ≤ 281474976710656 then (some ((List.replicate (wrap64 (400 + bt130.1) : Int).toNat 0), bt130.2.1, bt130.2.2)) else (none)) else (none))) else (some (x3_1, t128, t129))) = some (r1, r2, r3) := H
    have A12 := Aside0.mk A120
    clear A120
    by_cases c13 : t127 = true
    ·subst c13
     have H1 : ((spec_l1Cur_pick.f s0_0 t128 t129 2).bind fun bt130 => (if 0 ≤ (wrap64 (400 + bt130.1)) then (if (wrap64 (400 + bt130.1) : Int).toNat ≤ 281474976710656 then (some ((List.replicate (wrap64 (400 + bt130.1) : Int).toNat 0), bt130.2.1, bt130.2.2)) else (none)) else (none))) = some (r1, r2, r3) := by rw [if_pos rfl] at H; exact H
     clear H
     have H := H1
     clear H1
     replace H := Option.bind_eq_some_iff.mp H
     obtain ⟨⟨t130, t131, t132⟩, A140, H⟩ := H
     replace H : (if 0 ≤ (wrap64 (400 + t130)) then (if (wrap64 (400 + t130) : Int).toNat ≤ 281474976710656 then (some ((List.replicate (wrap64 (400 + t130) : Int).toNat 0), t131, t132)) else (none)) else (none)) = some (r1, r2, r3) := H
     have A14 := Aside0.mk A140
     clear A140
     obtain ⟨ji15, hji15⟩ : ∃ j_ : Int, (wrap64 (400 + t130)) = j_ := ⟨_, rfl⟩
     replace H : (if 0 ≤ (ji15) then (if (ji15 : Int).toNat ≤ 281474976710656 then (some ((List.replicate (ji15 : Int).toNat 0), t131, t132)) else (none)) else (none)) = some (r1, r2, r3) := by first | (rw [hji15] at H; exact H) | (simp only [hji15] at H ⊢; exact H)
     (try rw [hji15] at A12)
     (try rw [hji15] at A14)
     have hji15w : (IntKind.i64.wrap (400 + t130)) = ji15 := (i64_w _).trans hji15
     by_cases c16 : 0 ≤ (ji15)
     ·rw [if_pos c16] at H
      have c16b0 := eq_true c16
      have c16b1 : decide (0 ≤ (ji15)) = true := decide_eq_true c16
      clear c16
      by_cases c17 : (ji15 : Int).toNat ≤ 281474976710656
      ·rw [if_pos c17] at H
       have c17b0 := eq_true c17
       have c17b1 : decide ((ji15 : Int).toNat ≤ 281474976710656) = true := decide_eq_true c17
       clear c17
       obtain ⟨y133, hy133⟩ : ∃ y_ : List Int, y_ = (List.replicate (ji15 : Int).toNat 0) := ⟨_, rfl⟩
       replace H : (some (y133, t131, t132)) = some (r1, r2, r3) := by first | (rw [hy133]; with_reducible exact H) | (have H2_ := (Option.bind_some _ _).symm.trans H; rw [hy133]; with_reducible exact H2_) | (have H2_ := (Option.bind_some _ _).symm.trans H; with_reducible exact H2_) | with_reducible exact H | (rw [hy133]; exact H) | exact H
       have Ny133 := Aside0.mk hy133
       clear hy133
       simp only [Option.some.injEq, Prod.mk.injEq] at H
       obtain ⟨rfl, rfl, rfl⟩ := H
       go_wp2_with (first | ((with_reducible refine gate_callee (f := 20) rfl ?_); refine goesL_ (some 17) rfl rfl Try.func20 (by kernel_rfl) rfl #[.pointer (some ⟨g, 0, none⟩), .int .i64 30] rfl aE ?_; (with_reducible refine (spec_l1Cur_one.calls g s0_0 x1001_1 x1002_1 30 true t128 t129 w0 _ ?side1 ?side2 A12.out).mono ?_); (case side1 => repeat (first | (with_reducible first | exact HI0.out | apply IsS46.alloc | apply IsS46.drewN | apply IsS46.drew | apply IsS46.set_1 | apply IsS46.set_2) | exact HI0.out)); (case side2 => repeat (first | (with_reducible first | exact HB.out | apply below_alloc | apply pw_below_drewN | apply below_drew1 | refine below_set ?_ (IsS46.ge HI0.out)) | exact HB.out)); rintro e w18 ⟨rfl, hi, hb, hk⟩; refine ⟨_, rfl, ?_⟩; replace HO_3 := Aside0.mk (Kd.R_mono (Kd.R_keep (IsS46.apart (show IsS46 w0 _ g s0_0 x1001_1 x1002_1 from by repeat (first | (with_reducible first | exact HI0.out | apply IsS46.alloc | apply IsS46.drewN | apply IsS46.drew | apply IsS46.set_1 | apply IsS46.set_2) | exact HI0.out)) (rU HO_3.out) (by decide)) hk (fun _ h => h.2)) (fun _ h => h.1)); replace HK := Aside0.mk (KeepBut.trans (by repeat (first | (with_reducible first | exact HK.out | apply KeepBut.set_ | apply keep_drewN | apply keep_drew | apply keep_alloc) | exact HK.out)) hk (.inl rfl)); replace HB := Aside0.mk hb; replace HI0 := Aside0.mk hi; (try clear hb); (try clear hk); (try clear hi)) | ((with_reducible refine gate_callee (f := 19) rfl ?_); refine goesL_ (some 19) rfl rfl Try.func19 (by kernel_rfl) rfl #[.pointer (some ⟨g, 0, none⟩), .int .i64 2] rfl aE ?_; (with_reducible refine (spec_l1Cur_pick.calls g s0_0 t128 t129 2 t130 t131 t132 w0 _ ?side1 ?side2 A14.out).mono ?_); (case side1 => repeat (first | (with_reducible first | exact HI0.out | apply IsS46.alloc | apply IsS46.drewN | apply IsS46.drew | apply IsS46.set_1 | apply IsS46.set_2) | exact HI0.out)); (case side2 => repeat (first | (with_reducible first | exact HB.out | apply below_alloc | apply pw_below_drewN | apply below_drew1 | refine below_set ?_ (IsS46.ge HI0.out)) | exact HB.out)); rintro e w19 ⟨rfl, hi, hb, hk⟩; refine ⟨_, rfl, ?_⟩; replace HO_3 := Aside0.mk (Kd.R_mono (Kd.R_keep (IsS46.apart (show IsS46 w0 _ g s0_0 t128 t129 from by repeat (first | (with_reducible first | exact HI0.out | apply IsS46.alloc | apply IsS46.drewN | apply IsS46.drew | apply IsS46.set_1 | apply IsS46.set_2) | exact HI0.out)) (rU HO_3.out) (by decide)) hk (fun _ h => h.2)) (fun _ h => h.1)); replace HK := Aside0.mk (KeepBut.trans (by repeat (first | (with_reducible first | exact HK.out | apply KeepBut.set_ | apply keep_drewN | apply keep_drew | apply keep_alloc) | exact HK.out)) hk (.inl rfl)); replace HB := Aside0.mk hb; replace HI0 := Aside0.mk hi; (try clear hb); (try clear hk); (try clear hi)) | ((with_reducible refine gate_dst (N := 21) rfl ?_); refine Kd.R_make (Kd.int .u8) _ 5 rfl (N := 21) rfl 22 _ _ rfl ji15 rfl rfl Try.underlying22 (.int .u8 0) 1 info5 rfl (by decide) (by omega) 0 (ok := fun _ => True) (okp := fun _ => True) rfl (fun _ hk => hk) trivial (of_decide_eq_true hE) (Nat.le_trans (Nat.mul_le_mul_right _ (of_decide_eq_true hE : ji15.toNat ≤ 281474976710656)) (by omega)) (Below.refl _ _) (Nat.le_refl _) ?_; intro v134 w20 ho21 hb hg_ hnew_; clear hg_ hnew_; (first | rw [← Ny133.out] at ho21 | (simp only [Int.reduceToNat] at ho21; rw [← Ny133.out] at ho21)); have HO135 := Aside0.mk (Kd.R_lower (Kd.R_new' ho21 (Kd.R_lt (rU HO_3.out))) (keep_size (w := w) (g := g) (row := none) (by repeat (first | (with_reducible first | exact HK.out | apply KeepBut.set_ | apply keep_drewN | apply keep_drew | apply keep_alloc) | exact HK.out)))); replace HO_3 := Aside0.mk (Kd.R_elder' (rU HO_3.out) (Kd.R_base ho21) hb); replace HK := Aside0.mk (KeepBut.trans (by repeat (first | (with_reducible first | exact HK.out | apply KeepBut.set_ | apply keep_drewN | apply keep_drew | apply keep_alloc) | exact HK.out)) (KeepBut.of_below hb g none) (.inl rfl)); replace HB := Aside0.mk (below_step (by repeat (first | (with_reducible first | exact HB.out | apply below_alloc | apply pw_below_drewN | apply below_drew1 | refine below_set ?_ (IsS46.ge HI0.out)) | exact HB.out)) hb); replace HI0 := Aside0.mk (IsS46.below (by repeat (first | (with_reducible first | exact HI0.out | apply IsS46.alloc | apply IsS46.drewN | apply IsS46.drew | apply IsS46.set_1 | apply IsS46.set_2) | exact HI0.out)) hb); clear hb ho21))
       go_ret
       exact ⟨_, by first | rfl | (simp [errW_none, errW_some] <;> rfl) | (simp only [← hji15]; first | rfl | (simp [errW_none, errW_some] <;> rfl)) | (simp [*, errW_none, errW_some] <;> rfl), by (with_reducible repeat (first | apply Kd.R_alloc | apply Kd.R_drewN | apply Kd.R_drew)); exact Kd.R_mono HO135.out (fun _ hk => trivial), by repeat (first | (with_reducible first | exact HI0.out | apply IsS46.alloc | apply IsS46.drewN | apply IsS46.drew | apply IsS46.set_1 | apply IsS46.set_2) | exact HI0.out), by repeat (first | (with_reducible first | exact HB.out | apply below_alloc | apply pw_below_drewN | apply below_drew1 | refine below_set ?_ (IsS46.ge HI0.out)) | exact HB.out), by repeat (first | (with_reducible first | exact HK.out | apply KeepBut.set_ | apply keep_drewN | apply keep_drew | apply keep_alloc) | exact HK.out)⟩
      ·rw [if_neg c17] at H
       exact absurd H (by simp)
     ·rw [if_neg c16] at H
      exact absurd H (by simp)
    ·replace c13 := Bool.eq_false_iff.mpr c13
     subst c13
     have H1 : (some (x3_1, t128, t129)) = some (r1, r2, r3) := by rw [if_neg (show ¬ (false = true) by decide)] at H; exact H
     clear H
     have H := H1
     clear H1
     simp only [Option.some.injEq, Prod.mk.injEq] at H
     obtain ⟨rfl, rfl, rfl⟩ := H
     go_wp2_with (first | ((with_reducible refine gate_callee (f := 20) rfl ?_); refine goesL_ (some 17) rfl rfl Try.func20 (by kernel_rfl) rfl #[.pointer (some ⟨g, 0, none⟩), .int .i64 30] rfl aE ?_; (with_reducible refine (spec_l1Cur_one.calls g s0_0 x1001_1 x1002_1 30 false t128 t129 w0 _ ?side1 ?side2 A12.out).mono ?_); (case side1 => repeat (first | (with_reducible first | exact HI0.out | apply IsS46.alloc | apply IsS46.drewN | apply IsS46.drew | apply IsS46.set_1 | apply IsS46.set_2) | exact HI0.out)); (case side2 => repeat (first | (with_reducible first | exact HB.out | apply below_alloc | apply pw_below_drewN | apply below_drew1 | refine below_set ?_ (IsS46.ge HI0.out)) | exact HB.out)); rintro e w22 ⟨rfl, hi, hb, hk⟩; refine ⟨_, rfl, ?_⟩; replace HO_3 := Aside0.mk (Kd.R_mono (Kd.R_keep (IsS46.apart (show IsS46 w0 _ g s0_0 x1001_1 x1002_1 from by repeat (first | (with_reducible first | exact HI0.out | apply IsS46.alloc | apply IsS46.drewN | apply IsS46.drew | apply IsS46.set_1 | apply IsS46.set_2) | exact HI0.out)) (rU HO_3.out) (by decide)) hk (fun _ h => h.2)) (fun _ h => h.1)); replace HK := Aside0.mk (KeepBut.trans (by repeat (first | (with_reducible first | exact HK.out | apply KeepBut.set_ | apply keep_drewN | apply keep_drew | apply keep_alloc) | exact HK.out)) hk (.inl rfl)); replace HB := Aside0.mk hb; replace HI0 := Aside0.mk hi; (try clear hb); (try clear hk); (try clear hi)))
     go_ret
     exact ⟨_, eE, by (with_reducible repeat (first | apply Kd.R_alloc | apply Kd.R_drewN | apply Kd.R_drew)); exact HO_3.out, by repeat (first | (with_reducible first | exact HI0.out | apply IsS46.alloc | apply IsS46.drewN | apply IsS46.drew | apply IsS46.set_1 | apply IsS46.set_2) | exact HI0.out), by repeat (first | (with_reducible first | exact HB.out | apply below_alloc | apply pw_below_drewN | apply below_drew1 | refine below_set ?_ (IsS46.ge HI0.out)) | exact HB.out), by repeat (first | (with_reducible first | exact HK.out | apply KeepBut.set_ | apply keep_drewN | apply keep_drew | apply keep_alloc) | exact HK.out)⟩
def spec_DrawPatchOf.f (k : Nat) (l0 : List Int) : Option (List Int × List Int) := (spec_l1Cur_rows.f k l0 0 0).bind fun bt137 => ((spec_l1Cur_rows.f k l0 bt137.2.1 bt137.2.2).bind fun bt142 => (some (bt137.1, bt142.1)))
theorem spec_DrawPatchOf.mono : ∀ a0 k, LeO (spec_DrawPatchOf.f k a0) (spec_DrawPatchOf.f (k + 1) a0) := by
 intro a0 k
 unfold spec_DrawPatchOf.f
 repeat' first
   | (with_reducible exact spec_l1Cur_rows.mono _ _ _ _)
   | (with_reducible exact LeO.refl _)
   | (with_reducible exact LeO.none _)
   | (with_reducible refine LeO.ite ?_ ?_)
   | (with_reducible refine LeO.bind ?_ (fun _ => ?_))
   | exact spec_l1Cur_rows.mono _ _ _ _
   | exact LeO.none _
   | refine LeO.ite ?_ ?_
   | refine LeO.bind ?_ (fun _ => ?_)
set_option maxHeartbeats 8000000 in
set_option maxRecDepth 100000 in
theorem spec_DrawPatchOf.calls (k : Nat) (A0 : Option Addr) (c0 : Nat) (l0 : List Int) (r1 : List Int) (r2 : List Int) (w : World) (hr0 : Kd.C (Kd.int .u8) w A0 l0.length l0) (hc0 : l0.length ≤ c0) (h : spec_DrawPatchOf.f k l0 = some (r1, r2)) :
  Calls Try.prog 5 #[.slice A0 l0.length c0] w fun e w' => ∃ v0_ v1_ : Value, e = .returned (.tuple #[v0_, v1_]) ∧ Kd.R (Kd.int .u8) 5 w' w.heap.size (fun k_ => some k_ ≠ (v1_ : Value).ownBlock) v0_ r1 ∧ Kd.R (Kd.int .u8) 5 w' w.heap.size (fun k_ => some k_ ≠ (v0_ : Value).ownBlock) v1_ r2 ∧ Below w.heap.size w w' := by
 have hu46 := Try.underlying46
 have HR0 := Aside0.mk hr0
 have HC0 := Aside0.mk hc0
 clear hr0 hc0
 have HB := Aside0.mk (Below.refl w.heap.size w)
 have H : ((spec_l1Cur_rows.f k l0 0 0).bind fun bt137 => ((spec_l1Cur_rows.f k l0 bt137.2.1 bt137.2.2).bind fun bt142 => (some (bt137.1, bt142.1)))) = some (r1, r2) := h
 clear h
 replace H := Option.bind_eq_some_iff.mp H
 obtain ⟨⟨t137, t140, t141⟩, A20, H⟩ := H
 replace H : ((spec_l1Cur_rows.f k l0 t140 t141).bind fun bt142 => (some (t137, bt142.1))) = some (r1, r2) := H
 have A2 := Aside0.mk A20
 clear A20
 replace H := Option.bind_eq_some_iff.mp H
 obtain ⟨⟨t142, t145, t146⟩, A30, H⟩ := H
 replace H : (some (t137, t142)) = some (r1, r2) := H
 have A3 := Aside0.mk A30
 clear A30
 simp only [Option.some.injEq, Prod.mk.injEq] at H
 obtain ⟨rfl, rfl⟩ := H
 go_enter Try.func5, Try.ntmps5
 go_wp2_with (first | ((with_reducible refine gate_dst (N := 7) rfl ?_); refine box_event rfl (N := 7) rfl (cs := #[.slice A0 l0.length c0, .int .i64 0, .int .u64 0]) (t := 46) sE ?_; intro gb136 hg w4 hbox hb; have HI136 := Aside0.mk ((⟨_, _, hbox, (by rw [hg]; exact (below_size (lU)) : w.heap.size ≤ gb136), HR0.out⟩ : IsS46 w w4 gb136 l0 0 0)); replace HB := bH (lU) hb; clear hb hbox hg) | ((with_reducible refine gate_callee (f := 15) rfl ?_); refine goesL_ (some 9) rfl rfl Try.func15 (by kernel_rfl) rfl #[.pointer (some ⟨gb136, 0, none⟩)] rfl aE ?_; (with_reducible refine (spec_l1Cur_rows.calls k gb136 l0 0 0 t137 t140 t141 w _ ?side1 ?side2 A2.out).mono ?_); (case side1 => repeat (first | (with_reducible first | exact HI136.out | apply IsS46.alloc | apply IsS46.drewN | apply IsS46.drew | apply IsS46.set_1 | apply IsS46.set_2) | exact HI136.out)); (case side2 => repeat (first | (with_reducible first | exact HB.out | apply below_alloc | apply pw_below_drewN | apply below_drew1 | refine below_set ?_ (IsS46.ge HI136.out)) | exact HB.out)); rintro e w5 ⟨v138, rfl, ho0, hi, hb, hk⟩; refine ⟨_, rfl, ?_⟩; have HO139 := Aside0.mk (Kd.R_lower ho0 (below_size (by repeat (first | (with_reducible first | exact HB.out | apply below_alloc | apply pw_below_drewN | apply below_drew1 | refine below_set ?_ (IsS46.ge HI136.out)) | exact HB.out)))); replace HB := Aside0.mk hb; replace HI136 := Aside0.mk hi; (try clear hb); (try clear hk); (try clear hi); (try clear ho0)) | ((with_reducible refine gate_callee (f := 15) rfl ?_); refine goesL_ (some 11) rfl rfl Try.func15 (by kernel_rfl) rfl #[.pointer (some ⟨gb136, 0, none⟩)] rfl aE ?_; (with_reducible refine (spec_l1Cur_rows.calls k gb136 l0 t140 t141 t142 t145 t146 w _ ?side1 ?side2 A3.out).mono ?_); (case side1 => repeat (first | (with_reducible first | exact HI136.out | apply IsS46.alloc | apply IsS46.drewN | apply IsS46.drew | apply IsS46.set_1 | apply IsS46.set_2) | exact HI136.out)); (case side2 => repeat (first | (with_reducible first | exact HB.out | apply below_alloc | apply pw_below_drewN | apply below_drew1 | refine below_set ?_ (IsS46.ge HI136.out)) | exact HB.out)); rintro e w6 ⟨v143, rfl, ho0, hi, hb, hk⟩; refine ⟨_, rfl, ?_⟩; have HO144 := Aside0.mk (Kd.R_lower (Kd.R_new' ho0 (Kd.R_lt (rU HO139.out))) (below_size (by repeat (first | (with_reducible first | exact HB.out | apply below_alloc | apply pw_below_drewN | apply below_drew1 | refine below_set ?_ (IsS46.ge HI136.out)) | exact HB.out)))); replace HO139 := Aside0.mk (Kd.R_mono (Kd.R_told (Kd.R_oldK (IsS46.apart (show IsS46 w _ gb136 l0 t140 t141 from by repeat (first | (with_reducible first | exact HI136.out | apply IsS46.alloc | apply IsS46.drewN | apply IsS46.drew | apply IsS46.set_1 | apply IsS46.set_2) | exact HI136.out)) (rU HO139.out) (by decide)) hk) (Kd.R_base ho0)) (fun _ h_ => h_.1)); replace HB := Aside0.mk hb; replace HI136 := Aside0.mk hi; (try clear hb); (try clear hk); (try clear hi); (try clear ho0)))
 go_ret2
 exact ⟨_, _, eE, by (with_reducible repeat (first | apply Kd.R_alloc | apply Kd.R_drewN | apply Kd.R_drew)); exact Kd.R_mono HO139.out (fun _ hk => hk.2), by (with_reducible repeat (first | apply Kd.R_alloc | apply Kd.R_drewN | apply Kd.R_drew)); exact Kd.R_mono HO144.out (fun _ hk => hk.2), by repeat (first | (with_reducible first | exact HB.out | apply below_alloc | apply pw_below_drewN | apply below_drew1 | refine below_set ?_ (IsS46.ge HI136.out)) | exact HB.out)⟩
mutual
def impl_longest.l0 : Nat → List Int → List Int → Int → Int → Int → Int → Option (Int × Int)
 | 0, _, _, _, _, _, _ => none
 | k + 1, x0, x1, x6, x7, x11, x12 => if x12 < x11 then (impl_longest.l1 k x0 x1 x6 x7 x12 0 x11 x12) else (some (x6, x7))
def impl_longest.l1 : Nat → List Int → List Int → Int → Int → Int → Int → Int → Int → Option (Int × Int)
 | 0, _, _, _, _, _, _, _, _ => none
 | k + 1, x0, x1, x6, x7, x8, x9, x11, x12 => if (wrap64 (x8 + x9)) < (x0.length : Int) then (if x9 < (x1.length : Int) then (if 0 ≤ (wrap64 (x8 + x9)) then (if 0 ≤ x9 then (if (rd x0 (wrap64 (x8 + x9))) = (rd x1 x9) then (impl_longest.l1 k x0 x1 x6 x7 x8 (wrap64 (x9 + 1)) x11 x12) else (if x9 > x7 then (impl_longest.l0 k x0 x1 x8 x9 x11 (wrap64 (x12 + 1))) else (impl_longest.l0 k x0 x1 x6 x7 x11 (wrap64 (x12 + 1))))) else (none)) else (none)) else (if x9 > x7 then (impl_longest.l0 k x0 x1 x8 x9 x11 (wrap64 (x12 + 1))) else (impl_longest.l0 k x0 x1 x6 x7 x11 (wrap64 (x12 + 1))))) else (if x9 > x7 then (impl_longest.l0 k x0 x1 x8 x9 x11 (wrap64 (x12 + 1))) else (impl_longest.l0 k x0 x1 x6 x7 x11 (wrap64 (x12 + 1))))
end
def impl_longest.f (k : Nat) (l0 : List Int) (l1 : List Int) : Option (Int × Int) := impl_longest.l0 k l0 l1 0 0 (l0.length : Int) 0
theorem impl_longest.mono_l : ∀ k, (∀ y0 y1 y2 y3 y4 y5, LeO (impl_longest.l0 k y0 y1 y2 y3 y4 y5) (impl_longest.l0 (k + 1) y0 y1 y2 y3 y4 y5)) ∧ (∀ y0 y1 y2 y3 y4 y5 y6 y7, LeO (impl_longest.l1 k y0 y1 y2 y3 y4 y5 y6 y7) (impl_longest.l1 (k + 1) y0 y1 y2 y3 y4 y5 y6 y7))
 | 0 => ⟨fun _ _ _ _ _ _ r h => by simp [impl_longest.l0] at h, fun _ _ _ _ _ _ _ _ r h => by simp [impl_longest.l1] at h⟩
 | k + 1 => by
  obtain ⟨ih0, ih1⟩ := impl_longest.mono_l k
  refine ⟨?_, ?_⟩
  ·intro y0 y1 y2 y3 y4 y5
   unfold impl_longest.l0
   repeat' first
   | (with_reducible exact ih0 _ _ _ _ _ _)
   | (with_reducible exact ih1 _ _ _ _ _ _ _ _)
   | (with_reducible exact LeO.refl _)
   | (with_reducible exact LeO.none _)
   | (with_reducible refine LeO.ite ?_ ?_)
   | (with_reducible refine LeO.bind ?_ (fun _ => ?_))
   | exact ih0 _ _ _ _ _ _
   | exact ih1 _ _ _ _ _ _ _ _
   | exact LeO.none _
   | refine LeO.ite ?_ ?_
   | refine LeO.bind ?_ (fun _ => ?_)
  ·intro y0 y1 y2 y3 y4 y5 y6 y7
   unfold impl_longest.l1
   repeat' first
   | (with_reducible exact ih0 _ _ _ _ _ _)
   | (with_reducible exact ih1 _ _ _ _ _ _ _ _)
   | (with_reducible exact LeO.refl _)
   | (with_reducible exact LeO.none _)
   | (with_reducible refine LeO.ite ?_ ?_)
   | (with_reducible refine LeO.bind ?_ (fun _ => ?_))
   | exact ih0 _ _ _ _ _ _
   | exact ih1 _ _ _ _ _ _ _ _
   | exact LeO.none _
   | refine LeO.ite ?_ ?_
   | refine LeO.bind ?_ (fun _ => ?_)
theorem impl_longest.mono : ∀ a0 a1 k, LeO (impl_longest.f k a0 a1) (impl_longest.f (k + 1) a0 a1) := by
 intro a0 a1 k
 obtain ⟨ih0, ih1⟩ := impl_longest.mono_l k
 unfold impl_longest.f
 repeat' first
   | (with_reducible exact ih0 _ _ _ _ _ _)
   | (with_reducible exact ih1 _ _ _ _ _ _ _ _)
   | (with_reducible exact LeO.refl _)
   | (with_reducible exact LeO.none _)
   | (with_reducible refine LeO.ite ?_ ?_)
   | (with_reducible refine LeO.bind ?_ (fun _ => ?_))
   | exact ih0 _ _ _ _ _ _
   | exact ih1 _ _ _ _ _ _ _ _
   | exact LeO.none _
   | refine LeO.ite ?_ ?_
   | refine LeO.bind ?_ (fun _ => ?_)
set_option maxHeartbeats 8000000 in
set_option maxRecDepth 100000 in
theorem impl_longest.calls (k : Nat) (A0 : Option Addr) (c0 : Nat) (l0 : List Int) (A1 : Option Addr) (c1 : Nat) (l1 : List Int) (r1 : Int) (r2 : Int) (w : World) (hr0 : Kd.C (Kd.int .u8) w A0 l0.length l0) (hc0 : l0.length ≤ c0) (hr1 : Kd.C (Kd.int .u8) w A1 l1.length l1) (hc1 : l1.length ≤ c1) (h : impl_longest.f k l0 l1 = some (r1, r2)) :
  Calls Try.prog 16 #[.slice A0 l0.length c0, .slice A1 l1.length c1] w fun e w' => e = .returned (.tuple #[.int .i64 r1, .int .i64 r2]) ∧ Drawn0 w w' := by
 have HR0 := Aside0.mk hr0
 have HC0 := Aside0.mk hc0
 clear hr0 hc0
 have HR1 := Aside0.mk hr1
 have HC1 := Aside0.mk hc1
 clear hr1 hc1
 have H : (impl_longest.l0 k l0 l1 0 0 (l0.length : Int) 0) = some (r1, r2) := h
 clear h
 have H' := Aside0.mk H
 clear H
 go_enter Try.func16, Try.ntmps16
 go_wp2
 repeat (go_quiet (fail); try go_wp2)
 go_loopg [6, 7, 12] k (fun kq v6 v7 v12 w' => ∃ (x6_1 : Int) (x7_1 : Int) (x12_1 : Int), v6 = .int .i64 x6_1 ∧ v7 = .int .i64 x7_1 ∧ v12 = .int .i64 x12_1 ∧ Aside0 (impl_longest.l0 kq l0 l1 x6_1 x7_1 (l0.length : Int) x12_1 = some (r1, r2)) ∧ Aside0 (kq ≤ k) ∧ Drawn0 w w')
 case atStart => exact ⟨(0), (0), (0), tE, tE, tE, H', ⟨Nat.le_refl _⟩, by repeat (first | exact Drawn0.refl _ | apply Drawn0.step)⟩
 case round =>
  clear H'
  try clear c1
  try clear p2
  obtain ⟨x6_1, x7_1, x12_1, rfl, rfl, rfl, HA, HK1, ⟨m1, rfl⟩⟩ := hrel
  cases gk with
  | zero => exact absurd HA.out (by simp [impl_longest.l0])
  | succ k1 =>
   have H := HA.out
   clear HA
   simp only [impl_longest.l0] at H
   by_cases c3 : x12_1 < (l0.length : Int)
   ·rw [if_pos c3] at H
    have c3b0 : decide (x12_1 < (l0.length : Int)) = true := decide_eq_true c3
    clear c3
    have H' := Aside0.mk H
    clear H
    go_wp2
    repeat (go_quiet (fail); try go_wp2)
    go_loopg [9] k1 (fun kq v9 w' => ∃ (x9_2 : Int), v9 = .int .i64 x9_2 ∧ Aside0 (impl_longest.l1 kq l0 l1 x6_1 x7_1 x12_1 x9_2 (l0.length : Int) x12_1 = some (r1, r2)) ∧ Aside0 (kq ≤ k1) ∧ Drawn0 w w')
    case atStart => exact ⟨(0), tE, H', ⟨Nat.le_refl _⟩, by repeat (first | exact Drawn0.refl _ | apply Drawn0.step)⟩
    case round =>
     clear H'
     try clear c1
     try clear p2
     try clear c3
     try clear c3b0
     try clear p2
     obtain ⟨x9_2, rfl, HA, HK2, ⟨m2, rfl⟩⟩ := hrel
     cases gk with
     | zero => exact absurd HA.out (by simp [impl_longest.l1])
     | succ k2 =>
      have H := HA.out
      clear HA
      simp only [impl_longest.l1] at H
      by_cases c4 : (wrap64 (x12_1 + x9_2)) < (l0.length : Int)
      ·rw [if_pos c4] at H
       have c4b0 : decide ((wrap64 (x12_1 + x9_2)) < (l0.length : Int)) = true := decide_eq_true c4
       clear c4
       by_cases c5 : x9_2 < (l1.length : Int)
       ·rw [if_pos c5] at H
        have c5b0 : decide (x9_2 < (l1.length : Int)) = true := decide_eq_true c5
        clear c5
        obtain ⟨ji6, hji6⟩ : ∃ j_ : Int, (wrap64 (x12_1 + x9_2)) = j_ := ⟨_, rfl⟩
        replace H : (if 0 ≤ (ji6) then (if 0 ≤ x9_2 then (if (rd l0 (ji6)) = (rd l1 x9_2) then (impl_longest.l1 k2 l0 l1 x6_1 x7_1 x12_1 (wrap64 (x9_2 + 1)) (l0.length : Int) x12_1) else (if x9_2 > x7_1 then (impl_longest.l0 k2 l0 l1 x12_1 x9_2 (l0.length : Int) (wrap64 (x12_1 + 1))) else (impl_longest.l0 k2 l0 l1 x6_1 x7_1 (l0.length : Int) (wrap64 (x12_1 + 1))))) else (none)) else (none)) = some (r1, r2) := by first | (rw [hji6] at H; exact H) | (simp only [hji6] at H ⊢; exact H)
        (try rw [hji6] at c4b0)
        have hji6w : (IntKind.i64.wrap (x12_1 + x9_2)) = ji6 := (i64_w _).trans hji6
        by_cases c7 : 0 ≤ (ji6)
        ·rw [if_pos c7] at H
         have c7b0 : decide (0 ≤ (ji6)) = true := decide_eq_true c7
         clear c7
         by_cases c8 : 0 ≤ x9_2
         ·rw [if_pos c8] at H
          have c8b0 : decide (0 ≤ x9_2) = true := decide_eq_true c8
          clear c8
          by_cases c9 : (rd l0 (ji6)) = (rd l1 x9_2)
          ·rw [if_pos c9] at H
           have c9b0 : ((rd l0 (ji6)) == (rd l1 x9_2)) = true := beq_iff_eq.mpr c9
           have c9b1 : ((rd l0 (ji6)) != (rd l1 x9_2)) = false := bne_eq_false_iff_eq.mpr c9
           clear c9
           have H' := Aside0.mk H
           clear H
           have p147 : 0 ≤ ((ji6) : Int) := of_decide_eq_true hE
           have q147 : (ji6) < (l0.length : Int) := of_decide_eq_true hE
           obtain ⟨ad147, e147, hx147_0⟩ := Kd.at_int HR0.out (ji6) p147 q147
           cases e147
           replace p147 := eq_true p147
           replace q147 := eq_true q147
           have p148 : 0 ≤ (x9_2 : Int) := of_decide_eq_true hE
           have q148 : x9_2 < (l1.length : Int) := of_decide_eq_true hE
           obtain ⟨ad148, e148, hx148_0⟩ := Kd.at_int HR1.out x9_2 p148 q148
           cases e148
           replace p148 := eq_true p148
           replace q148 := eq_true q148
           go_wp2
           repeat (go_quiet (fail); try go_wp2)
           go_roundg k2
           case measure => have := HK1.out; have := HK2.out; omega
           case rel => exact ⟨(wrap64 (x9_2 + 1)), tE, H', ⟨by have := HK1.out; have := HK2.out; omega⟩, by repeat (first | exact Drawn0.refl _ | apply Drawn0.step)⟩
          ·rw [if_neg c9] at H
           have c9b0 : ((rd l0 (ji6)) == (rd l1 x9_2)) = false := beq_eq_false_iff_ne.mpr c9
           have c9b1 : ((rd l0 (ji6)) != (rd l1 x9_2)) = true := bne_iff_ne.mpr c9
           by_cases c10 : x9_2 > x7_1
           ·rw [if_pos c10] at H
            have c10b0 : decide (x7_1 < x9_2) = true := decide_eq_true c10
            clear c10
            have H' := Aside0.mk H
            clear H
            have p147 : 0 ≤ ((ji6) : Int) := of_decide_eq_true hE
            have q147 : (ji6) < (l0.length : Int) := of_decide_eq_true hE
            obtain ⟨ad147, e147, hx147_0⟩ := Kd.at_int HR0.out (ji6) p147 q147
            cases e147
            replace p147 := eq_true p147
            replace q147 := eq_true q147
            have p148 : 0 ≤ (x9_2 : Int) := of_decide_eq_true hE
            have q148 : x9_2 < (l1.length : Int) := of_decide_eq_true hE
            obtain ⟨ad148, e148, hx148_0⟩ := Kd.at_int HR1.out x9_2 p148 q148
            cases e148
            replace p148 := eq_true p148
            replace q148 := eq_true q148
            go_wp2
            repeat (go_quiet (fail); try go_wp2)
            go_roundg k2
            case measure => have := HK1.out; have := HK2.out; omega
            case rel => exact ⟨(x12_1), (x9_2), (wrap64 (x12_1 + 1)), tE, tE, tE, H', ⟨by have := HK1.out; have := HK2.out; omega⟩, by repeat (first | exact Drawn0.refl _ | apply Drawn0.step)⟩
           ·rw [if_neg c10] at H
            have c10b0 : decide (x7_1 < x9_2) = false := decide_eq_false c10
            clear c10
            have H' := Aside0.mk H
            clear H
            have p147 : 0 ≤ ((ji6) : Int) := of_decide_eq_true hE
            have q147 : (ji6) < (l0.length : Int) := of_decide_eq_true hE
            obtain ⟨ad147, e147, hx147_0⟩ := Kd.at_int HR0.out (ji6) p147 q147
            cases e147
            replace p147 := eq_true p147
            replace q147 := eq_true q147
            have p148 : 0 ≤ (x9_2 : Int) := of_decide_eq_true hE
            have q148 : x9_2 < (l1.length : Int) := of_decide_eq_true hE
            obtain ⟨ad148, e148, hx148_0⟩ := Kd.at_int HR1.out x9_2 p148 q148
            cases e148
            replace p148 := eq_true p148
            replace q148 := eq_true q148
            go_wp2
            repeat (go_quiet (fail); try go_wp2)
            go_roundg k2
            case measure => have := HK1.out; have := HK2.out; omega
            case rel => exact ⟨(x6_1), (x7_1), (wrap64 (x12_1 + 1)), tE, tE, tE, H', ⟨by have := HK1.out; have := HK2.out; omega⟩, by repeat (first | exact Drawn0.refl _ | apply Drawn0.step)⟩
         ·rw [if_neg c8] at H
          exact absurd H (by simp)
        ·rw [if_neg c7] at H
         exact absurd H (by simp)
       ·rw [if_neg c5] at H
        have c5b0 : decide (x9_2 < (l1.length : Int)) = false := decide_eq_false c5
        clear c5
        by_cases c11 : x9_2 > x7_1
        ·rw [if_pos c11] at H
         have c11b0 : decide (x7_1 < x9_2) = true := decide_eq_true c11
         clear c11
         have H' := Aside0.mk H
         clear H
         go_wp2
         repeat (go_quiet (fail); try go_wp2)
         go_roundg k2
         case measure => have := HK1.out; have := HK2.out; omega
         case rel => exact ⟨(x12_1), (x9_2), (wrap64 (x12_1 + 1)), tE, tE, tE, H', ⟨by have := HK1.out; have := HK2.out; omega⟩, by repeat (first | exact Drawn0.refl _ | apply Drawn0.step)⟩
        ·rw [if_neg c11] at H
         have c11b0 : decide (x7_1 < x9_2) = false := decide_eq_false c11
         clear c11
         have H' := Aside0.mk H
         clear H
         go_wp2
         repeat (go_quiet (fail); try go_wp2)
         go_roundg k2
         case measure => have := HK1.out; have := HK2.out; omega
         case rel => exact ⟨(x6_1), (x7_1), (wrap64 (x12_1 + 1)), tE, tE, tE, H', ⟨by have := HK1.out; have := HK2.out; omega⟩, by repeat (first | exact Drawn0.refl _ | apply Drawn0.step)⟩
      ·rw [if_neg c4] at H
       have c4b0 : decide ((wrap64 (x12_1 + x9_2)) < (l0.length : Int)) = false := decide_eq_false c4
       clear c4
       by_cases c12 : x9_2 > x7_1
       ·rw [if_pos c12] at H
        have c12b0 : decide (x7_1 < x9_2) = true := decide_eq_true c12
        clear c12
        have H' := Aside0.mk H
        clear H
        go_wp2
        repeat (go_quiet (fail); try go_wp2)
        go_roundg k2
        case measure => have := HK1.out; have := HK2.out; omega
        case rel => exact ⟨(x12_1), (x9_2), (wrap64 (x12_1 + 1)), tE, tE, tE, H', ⟨by have := HK1.out; have := HK2.out; omega⟩, by repeat (first | exact Drawn0.refl _ | apply Drawn0.step)⟩
       ·rw [if_neg c12] at H
        have c12b0 : decide (x7_1 < x9_2) = false := decide_eq_false c12
        clear c12
        have H' := Aside0.mk H
        clear H
        go_wp2
        repeat (go_quiet (fail); try go_wp2)
        go_roundg k2
        case measure => have := HK1.out; have := HK2.out; omega
        case rel => exact ⟨(x6_1), (x7_1), (wrap64 (x12_1 + 1)), tE, tE, tE, H', ⟨by have := HK1.out; have := HK2.out; omega⟩, by repeat (first | exact Drawn0.refl _ | apply Drawn0.step)⟩
   ·rw [if_neg c3] at H
    have c3b0 : decide (x12_1 < (l0.length : Int)) = false := decide_eq_false c3
    clear c3
    simp only [Option.some.injEq, Prod.mk.injEq] at H
    obtain ⟨rfl, rfl⟩ := H
    go_wp2
    repeat (go_quiet (fail); try go_wp2)
    go_ret2
    exact ⟨by first | rfl | (simp; done) | (simp [*]; done) | exact not_isEmpty _ | exact (not_isEmpty _).symm | exact is_empty _ | exact (is_empty _).symm, by repeat (first | exact Drawn0.refl _ | apply Drawn0.step)⟩
end Go.Proofs.Ytbamdbdcglohmaa.PFnPatched
namespace Go.Proofs.Ytbamdbdcglohmaa.PFnPatched
open Go.RowKit Go.Proofs.YtbamdbdcglohmaaW.PrintWords Go.Proofs.YtbamdbdcglohmaaW.PrintLast Go.Proofs.YtbamdbdcglohmaaW.PrintMore
attribute [local go_sem] max2_int min2_int max_two min_two max_three min_three max_four min_four   -- for this text's walks alone
set_option linter.unusedVariables false
set_option linter.unusedSimpArgs false
mutual
def impl_PatchOf.j0 : Nat → List Int → List Int → Bool → Option ((List (S51)) × Bool)
 | 0, _, _, _ => none
 | k + 1, x0, x1, x17 => if x17 = true then (some (([] : List (S51)), false)) else (impl_PatchOf.l0 k x0 x1 (([] : List (S51))))
def impl_PatchOf.l0 : Nat → List Int → List Int → List (S51) → Option ((List (S51)) × Bool)
 | 0, _, _, _ => none
 | k + 1, x0, x1, x6 => if (x1.length : Int) > 0 then ((impl_longest.f k x0 x1).bind fun bt152 => (if bt152.2 ≥ 4 then (if x6.length < 3518437208883 then (if 0 ≤ bt152.2 then (if bt152.2 ≤ (x1.length : Int) then (impl_PatchOf.l0 k x0 (x1.drop (bt152.2 : Int).toNat) (x6 ++ [(⟨bt152.1, bt152.2, ([] : List Int)⟩ : S51)])) else (none)) else (none)) else (none)) else (if (x6.length : Int) = 0 then (if x6.length < 3518437208883 then ((some (x6 ++ [(⟨0, 0, ([] : List Int)⟩ : S51)] : List (S51))).bind fun y158 => (if 0 ≤ (wrap64 ((y158.length : Int) - 1)) then (if (wrap64 ((y158.length : Int) - 1)) < (y158.length : Int) then (if 0 < (x1.length : Int) then (if ((rd_T51 y158 (wrap64 ((y158.length : Int) - 1))).f2).length < 140737488355328 then (if 1 ≤ (x1.length : Int) then (impl_PatchOf.l0 k x0 (x1.drop 1) (y158.set ((wrap64 ((y158.length : Int) - 1)) : Int).toNat (⟨(rd_T51 y158 (wrap64 ((y158.length : Int) - 1))).f0, (rd_T51 y158 (wrap64 ((y158.length : Int) - 1))).f1, (((rd_T51 y158 (wrap64 ((y158.length : Int) - 1))).f2) ++ [rd x1 0])⟩ : S51))) else (none)) else (none)) else (none)) else (none)) else (none))) else (none)) else (if 0 ≤ (wrap64 ((x6.length : Int) - 1)) then (if (wrap64 ((x6.length : Int) - 1)) < (x6.length : Int) then (if ((rd_T51 x6 (wrap64 ((x6.length : Int) - 1))).f1) > 0 then (if x6.length < 3518437208883 then ((some (x6 ++ [(⟨0, 0, ([] : List Int)⟩ : S51)] : List (S51))).bind fun y170 => (if 0 ≤ (wrap64 ((y170.length : Int) - 1)) then (if (wrap64 ((y170.length : Int) - 1)) < (y170.length : Int) then (if 0 < (x1.length : Int) then (if ((rd_T51 y170 (wrap64 ((y170.length : Int) - 1))).f2).length < 140737488355328 then (if 1 ≤ (x1.length : Int) then (impl_PatchOf.l0 k x0 (x1.drop 1) (y170.set ((wrap64 ((y170.length : Int) - 1)) : Int).toNat (⟨(rd_T51 y170 (wrap64 ((y170.length : Int) - 1))).f0, (rd_T51 y170 (wrap64 ((y170.length : Int) - 1))).f1, (((rd_T51 y170 (wrap64 ((y170.length : Int) - 1))).f2) ++ [rd x1 0])⟩ : S51))) else (none)) else (none)) else (none)) else (none)) else (none))) else (none)) else (if 0 < (x1.length : Int) then (if ((rd_T51 x6 (wrap64 ((x6.length : Int) - 1))).f2).length < 140737488355328 then (if 1 ≤ (x1.length : Int) then (impl_PatchOf.l0 k x0 (x1.drop 1) (x6.set ((wrap64 ((x6.length : Int) - 1)) : Int).toNat (⟨(rd_T51 x6 (wrap64 ((x6.length : Int) - 1))).f0, (rd_T51 x6 (wrap64 ((x6.length : Int) - 1))).f1, (((rd_T51 x6 (wrap64 ((x6.length : Int) - 1))).f2) ++ [rd x1 0])⟩ : S51))) else (none)) else (none)) else (none))) else (none)) else (none))))) else (some (x6, true))
end
def impl_PatchOf.f (k : Nat) (l0 : List Int) (l1 : List Int) : Option ((List (S51)) × Bool) := if (l0.length : Int) > 400 then (impl_PatchOf.j0 k l0 l1 true) else (impl_PatchOf.j0 k l0 l1 (decide ((l1.length : Int) > 400)))
theorem impl_PatchOf.mono_l : ∀ k, (∀ y0 y1 y2, LeO (impl_PatchOf.j0 k y0 y1 y2) (impl_PatchOf.j0 (k + 1) y0 y1 y2)) ∧ (∀ y0 y1 y2, LeO (impl_PatchOf.l0 k y0 y1 y2) (impl_PatchOf.l0 (k + 1) y0 y1 y2))
 | 0 => ⟨fun _ _ _ r h => by simp [impl_PatchOf.j0] at h, fun _ _ _ r h => by simp [impl_PatchOf.l0] at h⟩
 | k + 1 => by
  obtain ⟨ih0, ih1⟩ := impl_PatchOf.mono_l k
  refine ⟨?_, ?_⟩
  ·intro y0 y1 y2
   unfold impl_PatchOf.j0
   repeat' first
   | (with_reducible exact ih0 _ _ _)
   | (with_reducible exact ih1 _ _ _)
   | (with_reducible exact impl_longest.mono _ _ _)
   | (with_reducible exact LeO.refl _)
   | (with_reducible exact LeO.none _)
   | (with_reducible refine LeO.ite ?_ ?_)
   | (with_reducible refine LeO.bind ?_ (fun _ => ?_))
   | exact ih0 _ _ _
   | exact ih1 _ _ _
   | exact impl_longest.mono _ _ _
   | exact LeO.none _
   | refine LeO.ite ?_ ?_
   | refine LeO.bind ?_ (fun _ => ?_)
  ·intro y0 y1 y2
   unfold impl_PatchOf.l0
   repeat' first
   | (with_reducible exact ih0 _ _ _)
   | (with_reducible exact ih1 _ _ _)
   | (with_reducible exact impl_longest.mono _ _ _)
   | (with_reducible exact LeO.refl _)
   | (with_reducible exact LeO.none _)
   | (with_reducible refine LeO.ite ?_ ?_)
   | (with_reducible refine LeO.bind ?_ (fun _ => ?_))
   | exact ih0 _ _ _
   | exact ih1 _ _ _
   | exact impl_longest.mono _ _ _
   | exact LeO.none _
   | refine LeO.ite ?_ ?_
   | refine LeO.bind ?_ (fun _ => ?_)
theorem impl_PatchOf.mono : ∀ a0 a1 k, LeO (impl_PatchOf.f k a0 a1) (impl_PatchOf.f (k + 1) a0 a1) := by
 intro a0 a1 k
 obtain ⟨ih0, ih1⟩ := impl_PatchOf.mono_l k
 unfold impl_PatchOf.f
 repeat' first
   | (with_reducible exact ih0 _ _ _)
   | (with_reducible exact ih1 _ _ _)
   | (with_reducible exact impl_longest.mono _ _ _)
   | (with_reducible exact LeO.refl _)
   | (with_reducible exact LeO.none _)
   | (with_reducible refine LeO.ite ?_ ?_)
   | (with_reducible refine LeO.bind ?_ (fun _ => ?_))
   | exact ih0 _ _ _
   | exact ih1 _ _ _
   | exact impl_longest.mono _ _ _
   | exact LeO.none _
   | refine LeO.ite ?_ ?_
   | refine LeO.bind ?_ (fun _ => ?_)
def impl_PatchOf.T12 : Bool × List (List Nat × List Nat) := (true, [([], []), ([], []), ([1], [1]), ([2], [2]), ([3], [3]), ([], []), ([5], [5]), ([6], [6]), ([7], [7]), ([4, 8], [4, 8]), ([0, 0, 1, 2, 3, 4, 5, 6, 7, 8, 9], [0]), ([10, 0, 1, 2, 3, 4, 5, 6, 7, 8, 9], [10]), ([11, 9, 9, 0, 1, 2, 3, 4, 5, 6, 7, 8, 9], [9, 11])])
def impl_PatchOf.B12 : List Nat := [0, 0, 2, 6, 14, 0, 32, 96, 224, 510, 1023, 2047, 4095]
theorem impl_PatchOf.tab12 : rtab .any (opsOf Try.f6 12) = impl_PatchOf.T12 := by kernel_rfl
theorem impl_PatchOf.bits12 : waitsOk impl_PatchOf.T12.2 impl_PatchOf.B12 = true := by kernel_rfl
set_option maxHeartbeats 8000000 in
set_option maxRecDepth 100000 in
theorem impl_PatchOf.calls (k : Nat) (A0 : Option Addr) (c0 : Nat) (l0 : List Int) (A1 : Option Addr) (c1 : Nat) (l1 : List Int) (r1 : List (S51)) (r2 : Bool) (w : World) (hr0 : Kd.C (Kd.int .u8) w A0 l0.length l0) (hc0 : l0.length ≤ c0) (hr1 : Kd.C (Kd.int .u8) w A1 l1.length l1) (hc1 : l1.length ≤ c1) (h : impl_PatchOf.f k l0 l1 = some (r1, r2)) :
  Calls Try.prog 6 #[.slice A0 l0.length c0, .slice A1 l1.length c1] w fun e w' => ∃ v0_ : Value, e = .returned (.tuple #[v0_, .bool r2]) ∧ Kd.S k51 51 w' w.heap.size (fun _ => True) v0_ r1 ∧ Below w.heap.size w w' := by
 have hu51 := Try.underlying51
 have HR0 := Aside0.mk hr0
 have HC0 := Aside0.mk hc0
 clear hr0 hc0
 have HR1 := Aside0.mk hr1
 have HC1 := Aside0.mk hc1
 clear hr1 hc1
 have HB := Aside0.mk (Below.refl w.heap.size w)
 have H : (if (l0.length : Int) > 400 then (impl_PatchOf.j0 k l0 l1 true) else (impl_PatchOf.j0 k l0 l1 (decide ((l1.length : Int) > 400)))) = some (r1, r2) := h
 clear h
 have HC3 := Aside0.mk H
 clear H
 go_enter Try.func6, Try.ntmps6
 go_upto_region 1 with (fail)
 go_cut [17] (fun v17 wc => ∃ (kq : Nat) (x17_2 : Bool), v17 = .bool x17_2 ∧ Aside0 (impl_PatchOf.j0 kq l0 l1 x17_2 = some (r1, r2)) ∧ Aside0 (kq ≤ k) ∧ Aside0 (Below w.heap.size w wc))
 case first =>
  have H := HC3.out
  clear HC3
  by_cases c4 : (l0.length : Int) > 400
  ·rw [if_pos c4] at H
   have c4b0 : decide (400 < (l0.length : Int)) = true := decide_eq_true c4
   have c4b1 : decide (400 < l0.length) = true := decide_eq_true (by omega)
   clear c4
   (first | rw [c4b0] | (simp only [i64_w, i32_w]; rw [c4b0]) | (rw [c4b2]; simp only [Bool.not_false, Bool.not_true]) | skip)
   have H' := Aside0.mk H
   clear H
   go_wp2
   go_meet
   case rel => exact ⟨_, (true), tE, H', ⟨by first | omega | exact Nat.le_refl _⟩, ⟨by repeat (first | (with_reducible first | exact HB.out | apply below_alloc | apply pw_below_drewN | apply below_drew1) | exact HB.out)⟩⟩
  ·rw [if_neg c4] at H
   have c4b0 : decide (400 < (l0.length : Int)) = false := decide_eq_false c4
   have c4b1 : decide (400 < l0.length) = false := decide_eq_false (by omega)
   clear c4
   (first | rw [c4b0] | (simp only [i64_w, i32_w]; rw [c4b0]) | (rw [c4b2]; simp only [Bool.not_false, Bool.not_true]) | skip)
   have H' := Aside0.mk H
   clear H
   go_wp2
   go_meet
   case rel => exact ⟨_, (decide ((l1.length : Int) > 400)), tE, H', ⟨by first | omega | exact Nat.le_refl _⟩, ⟨by repeat (first | (with_reducible first | exact HB.out | apply below_alloc | apply pw_below_drewN | apply below_drew1) | exact HB.out)⟩⟩
 case rest =>
  clear HC3
  try clear c1
  try clear p2
  try clear c4
  try clear c4b0
  try clear c4b1
  try clear c4b2
  obtain ⟨kq, x17_2, rfl, HA, HJ2, HB⟩ := hcut
  cases kq with
  | zero => exact absurd HA.out (by simp [impl_PatchOf.j0])
  | succ kj2 =>
   have H := HA.out
   clear HA
   simp only [impl_PatchOf.j0] at H
   by_cases c5 : x17_2 = true
   ·subst c5
    have H1 : (some (([] : List (S51)), false)) = some (r1, r2) := by rw [if_pos rfl] at H; exact H
    clear H
    have H := H1
    clear H1
    simp only [Option.some.injEq, Prod.mk.injEq] at H
    obtain ⟨rfl, rfl⟩ := H
    go_wp2
    go_ret2
    exact ⟨_, eE, by first | exact Kd.S_nil _ _ _ _ _ | exact Kd.N_nil _ _ _ _ _ | exact Kd.V_nil _ _ _ _ _ | exact Kd.Q_nil _ _ _ _ _ | exact Kd.R_nil _ _ _ _ _, lU⟩
   ·replace c5 := Bool.eq_false_iff.mpr c5
    subst c5
    have H1 : (impl_PatchOf.l0 kj2 l0 l1 (([] : List (S51)))) = some (r1, r2) := by rw [if_neg (show ¬ (false = true) by decide)] at H; exact H
    clear H
    have H := H1
    clear H1
    obtain ⟨y149, hy149⟩ : ∃ y_ : List (S51), y_ = (([] : List (S51))) := ⟨_, rfl⟩
    replace H : (impl_PatchOf.l0 kj2 l0 l1 y149) = some (r1, r2) := by first | (rw [hy149]; with_reducible exact H) | (have H2_ := (Option.bind_some _ _).symm.trans H; rw [hy149]; with_reducible exact H2_) | (have H2_ := (Option.bind_some _ _).symm.trans H; with_reducible exact H2_) | with_reducible exact H | (rw [hy149]; exact H) | exact H
    have Ny149 := Aside0.mk hy149
    clear hy149
    have H' := Aside0.mk H
    clear H
    go_wp2_with (first | ((with_reducible refine gate_dst (N := 18) rfl ?_); (try (refine gate_guard (by rfl) ?_; dsimp only)); refine Kd.S_lit k51 _ 51 ?hg (N := 18) ?hd (xs := ([] : List (S51))) (inner := []) (ok := fun _ => True) (okp := fun _ => True) ?hr ?hp (fun _ hk => hk) trivial (Below.refl _ _) (Nat.le_refl _) (by simp) ?_; (case hd => rfl); (case hg => rfl); (case hr => exact sE); (case hp => exact (Reps.none _ _)); intro v150 w6 ho7 hb hg_ hnew_; clear hg_ hnew_; (first | rw [← Ny149.out] at ho7 | (simp only [Int.reduceToNat] at ho7; rw [← Ny149.out] at ho7)); have HO151 := Aside0.mk (Kd.S_lower ho7 (below_size (lU))); replace HB := bH (lU) hb; clear hb ho7))
    (try simp only [Act.put, List.setIfInBounds_toArray, List.set_cons_zero, List.set_cons_succ])
    go_loopg [1, 6] kj2 (fun kq v1 v6 w' => ∃ (x1_2 : List Int) (x6_2 : List (S51)) (A_1 : Option Addr) (c_1 : Nat), v1 = .slice A_1 x1_2.length c_1 ∧ Aside0 (impl_PatchOf.l0 kq l0 x1_2 x6_2 = some (r1, r2)) ∧ Aside0 (kq ≤ kj2) ∧ Aside0 (Kd.C (Kd.int .u8) w A_1 x1_2.length x1_2) ∧ Aside0 (x1_2.length ≤ c_1) ∧ Aside0 (Kd.S k51 51 w' w.heap.size (fun _ => True) v6 x6_2) ∧ Aside0 (Below w.heap.size w w'))
    case atStart => exact ⟨(l1), (y149), _, _, (by first | rfl | (rw [List.length_drop]; done) | (rw [List.length_drop]; rfl) | (simp only [List.length_drop]; rfl)), H', ⟨Nat.le_refl _⟩, ⟨HR1.out⟩, ⟨HC1.out⟩, ⟨by (with_reducible repeat (first | apply Kd.S_alloc | apply Kd.S_drewN | apply Kd.S_drew)); exact HO151.out⟩, ⟨by repeat (first | (with_reducible first | exact HB.out | apply below_alloc | apply pw_below_drewN | apply below_drew1) | exact HB.out)⟩⟩
    case round =>
     clear H'
     try clear c1
     try clear p2
     try clear c4
     try clear c4b0
     try clear c4b1
     try clear c4b2
     try clear c5
     try clear c6
     try clear p2
     obtain ⟨x1_2, x6_2, A_1, c_1, rfl, HA, HK2, HR_1, HC_1, HO_6, HB⟩ := hrel
     cases gk with
     | zero => exact absurd HA.out (by simp [impl_PatchOf.l0])
     | succ k2 =>
      have H := HA.out
      clear HA
      simp only [impl_PatchOf.l0] at H
      by_cases c8 : (x1_2.length : Int) > 0
      ·rw [if_pos c8] at H
       have c8b0 : decide (0 < (x1_2.length : Int)) = true := decide_eq_true c8
       have c8b1 : decide (0 < x1_2.length) = true := decide_eq_true (by omega)
       clear c8
       replace H := Option.bind_eq_some_iff.mp H
       obtain ⟨⟨t152, t153⟩, A90, H⟩ := H
       replace H : (if t153 ≥ 4 then (if x6_2.length < 3518437208883 then (if 0 ≤ t153 then (if t153 ≤ (x1_2.length : Int) then (impl_PatchOf.l0 k2 l0 (x1_2.drop (t153 : Int).toNat) (x6_2 ++ [(⟨t152, t153, ([] : List Int)⟩ : S51)])) else (none)) else (none)) else (none)) else (if (x6_2.length : Int) = 0 then (if x6_2.length < 3518437208883 then ((some (x6_2 ++ [(⟨0, 0, ([] : List Int)⟩ : S51)] : List (S51))).bind fun y158 => (if 0 ≤ (wrap64 ((y158.length : Int) - 1)) then (if (wrap64 ((y158.length : Int) - 1)) < (y158.length : Int) then (if 0 < (x1_2.length : Int) then (if ((rd_T51 y158 (wrap64 ((y158.length : Int) - 1))).f2).length < 140737488355328 then (if 1 ≤ (x1_2.length : Int) then (impl_PatchOf.l0 k2 l0 (x1_2.drop 1) (y158.set ((wrap64 ((y158.length : Int) - 1)) : Int).toNat (⟨(rd_T51 y158 (wrap64 ((y158.length : Int) - 1))).f0, (rd_T51 y158 (wrap64 ((y158.length : Int) - 1))).f1, (((rd_T51 y158 (wrap64 ((y158.length : Int) - 1))).f2) ++ [rd x1_2 0])⟩ : S51))) else (none)) else (none)) else (none)) else (none)) else (none))) else (none)) else (if 0 ≤ (wrap64 ((x6_2.length : Int) - 1)) then (if (wrap64 ((x6_2.length : Int) - 1)) < (x6_2.length : Int) then (if ((rd_T51 x6_2 (wrap64 ((x6_2.length : Int) - 1))).f1) > 0 then (if x6_2.length < 3518437208883 then ((some (x6_2 ++ [(⟨0, 0, ([] : List Int)⟩ : S51)] : List (S51))).bind fun y170 => (if 0 ≤ (wrap64 ((y170.length : Int) - 1)) then (if (wrap64 ((y170.length : Int) - 1)) < (y170.length : Int) then (if 0 < (x1_2.length : Int) then (if ((rd_T51 y170 (wrap64 ((y170.length : Int) - 1))).f2).length < 140737488355328 then (if 1 ≤ (x1_2.length : Int) then (impl_PatchOf.l0 k2 l0 (x1_2.drop 1) (y170.set ((wrap64 ((y170.length : Int) - 1)) : Int).toNat (⟨(rd_T51 y170 (wrap64 ((y170.length : Int) - 1))).f0, (rd_T51 y170 (wrap64 ((y170.length : Int) - 1))).f1, (((rd_T51 y170 (wrap64 ((y170.length : Int) - 1))).f2) ++ [rd x1_2 0])⟩ : S51))) else (none)) else (none)) else (none)) else (none)) else (none))) else (none)) else (if 0 < (x1_2.length : Int) then (if ((rd_T51 x6_2 (wrap64 ((x6_2.length : Int) - 1))).f2).length < 140737488355328 then (if 1 ≤ (x1_2.length : Int) then (impl_PatchOf.l0 k2 l0 (x1_2.drop 1) (x6_2.set ((wrap64 ((x6_2.length : Int) - 1)) : Int).toNat (⟨(rd_T51 x6_2 (wrap64 ((x6_2.length : Int) - 1))).f0, (rd_T51 x6_2 (wrap64 ((x6_2.length : Int) - 1))).f1, (((rd_T51 x6_2 (wrap64 ((x6_2.length : Int) - 1))).f2) ++ [rd x1_2 0])⟩ : S51))) else (none)) else (none)) else (none))) else (none)) else (none)))) = some (r1, r2) := H
       have A9 := Aside0.mk A90
       clear A90
       by_cases c10 : t153 ≥ 4
       ·rw [if_pos c10] at H
        have c10b0 : decide (4 ≤ t153) = true := decide_eq_true c10
        clear c10
        by_cases c11 : x6_2.length < 3518437208883
        ·rw [if_pos c11] at H
         have LMc11 := Aside0.mk c11
         clear c11
         obtain ⟨y154, hy154⟩ : ∃ y_ : List (S51), y_ = (x6_2 ++ [(⟨t152, t153, ([] : List Int)⟩ : S51)]) := ⟨_, rfl⟩
         replace H : (if 0 ≤ t153 then (if t153 ≤ (x1_2.length : Int) then (impl_PatchOf.l0 k2 l0 (x1_2.drop (t153 : Int).toNat) y154) else (none)) else (none)) = some (r1, r2) := by first | (rw [hy154]; with_reducible exact H) | (have H2_ := (Option.bind_some _ _).symm.trans H; rw [hy154]; with_reducible exact H2_) | (have H2_ := (Option.bind_some _ _).symm.trans H; with_reducible exact H2_) | with_reducible exact H | (rw [hy154]; exact H) | exact H
         have Ny154 := Aside0.mk hy154
         clear hy154
         by_cases c12 : 0 ≤ t153
         ·rw [if_pos c12] at H
          have c12b0 := eq_true c12
          have c12b1 : decide (0 ≤ t153) = true := decide_eq_true c12
          clear c12
          by_cases c13 : t153 ≤ (x1_2.length : Int)
          ·rw [if_pos c13] at H
           have c13b0 := eq_true c13
           have c13b1 : decide (t153 ≤ (x1_2.length : Int)) = true := decide_eq_true c13
           clear c13
           have H' := Aside0.mk H
           clear H
           go_wp2_with (first | ((with_reducible refine gate_callee (f := 16) rfl ?_); refine goesL_ (some 25) rfl rfl Try.func16 (by kernel_rfl) rfl #[.slice A0 l0.length c0, .slice A_1 x1_2.length c_1] rfl aE ?_; (with_reducible refine (impl_longest.calls k2 _ _ l0 _ _ x1_2 t152 t153 _ ?side1 ?side2 ?side3 ?side4 A9.out).mono ?_); (case side1 => exact cU (Kd.C_below HR0.out HB.out)); (case side2 => exact HC0.out); (case side3 => exact cU (Kd.C_below HR_1.out HB.out)); (case side4 => exact HC_1.out); rintro e w' ⟨rfl, ⟨nd, rfl⟩⟩; refine ⟨_, rfl, ?_⟩) | ((with_reducible refine gate_builtin (b := .append) (xs := #[.tmp 30, .tmp 34]) rfl ?_); (try (refine gate_guard (by rfl) ?_; dsimp only)); at_builtin; refine Kd.S_append k51 (w0 := w) w.heap.size rfl (.tmp 30) (.tmp 34) 25 51 (.agg #[(.int .i64 0), (.int .i64 0), (.slice none 0 0)]) 40 rfl Try.underlying25 info51 rfl (by decide) (by omega) u6 x6_2 (⟨t152, t153, ([] : List Int)⟩ : S51) [.int .i64 t152, .int .i64 t153, .slice none 0 0] (fun _ => True) (fun _ => False) rfl rfl ?aP (fun k_ hk_ => hk_.elim) ?aF ?aO ?aB ?aS ?aL ?_; (case aP => exact k51_mkM _ _ _ (⟨t152, t153, ([] : List Int)⟩ : S51) (Kd.R_nil _ _ _ _ _)); (case aB => exact (lU)); (case aF => exact (fun _ _ => trivial)); (case aO => exact (by (with_reducible repeat (first | apply Kd.S_alloc | apply Kd.S_drewN | apply Kd.S_drew)); exact Kd.S_mono HO_6.out (fun k_ hk => ⟨trivial, fun e_ => e_⟩))); (case aS => exact (below_size (lU))); (case aL => have := LMc11.out; omega); intro v155 w14 ho hb hg hat; rw [← Ny154.out] at ho; replace HB := Aside0.mk hb; have HO156 := Aside0.mk ho; clear HO_6; clear ho hb hg hat; obtain ⟨i015, hi015, _, hsz15, _⟩ := info_parts info5; obtain ⟨A15, hcut15, hA15, hC15⟩ := print_drop_of (P := Try.prog) (Value.int .u8) 0 22 5 .i64 Try.underlying22 hi015 hsz15 A_1 c_1 x1_2 t153 (of_decide_eq_true hE) (of_decide_eq_true hE) HC_1.out; have HR157 := Aside0.mk (Kd.C_of_reads (h1 := fun _ => rfl) (hA15 _ (Kd.reads_of_C HR_1.out))); have HC157 := Aside0.mk hC15; (try clear hA15); (try clear hC15); (try clear hi015); (try clear hsz15)))
           go_roundg k2
           case measure => have := HJ2.out; have := HK2.out; omega
           case rel => exact ⟨(x1_2.drop (t153 : Int).toNat), (y154), _, _, (by first | rfl | (rw [List.length_drop]; done) | (rw [List.length_drop]; rfl) | (simp only [List.length_drop]; rfl)), H', ⟨by have := HJ2.out; have := HK2.out; omega⟩, ⟨HR157.out⟩, ⟨HC157.out⟩, ⟨by (with_reducible repeat (first | apply Kd.S_alloc | apply Kd.S_drewN | apply Kd.S_drew)); exact HO156.out⟩, ⟨by repeat (first | (with_reducible first | exact HB.out | apply below_alloc | apply pw_below_drewN | apply below_drew1) | exact HB.out)⟩⟩
          ·rw [if_neg c13] at H
           exact absurd H (by simp)
         ·rw [if_neg c12] at H
          exact absurd H (by simp)
        ·rw [if_neg c11] at H
         exact absurd H (by simp)
       ·rw [if_neg c10] at H
        have c10b0 : decide (4 ≤ t153) = false := decide_eq_false c10
        clear c10
        by_cases c16 : (x6_2.length : Int) = 0
        ·rw [if_pos c16] at H
         have c16b0 : ((x6_2.length : Int) == 0) = true := beq_iff_eq.mpr c16
         have c16b1 : ((x6_2.length : Int) != 0) = false := bne_eq_false_iff_eq.mpr c16
         clear c16
         by_cases c17 : x6_2.length < 3518437208883
         ·rw [if_pos c17] at H
          have LMc17 := Aside0.mk c17
          clear c17
          obtain ⟨y158, hy158⟩ : ∃ y_ : List (S51), y_ = (x6_2 ++ [(⟨0, 0, ([] : List Int)⟩ : S51)]) := ⟨_, rfl⟩
          replace H : (if 0 ≤ (wrap64 ((y158.length : Int) - 1)) then (if (wrap64 ((y158.length : Int) - 1)) < (y158.length : Int) then (if 0 < (x1_2.length : Int) then (if ((rd_T51 y158 (wrap64 ((y158.length : Int) - 1))).f2).length < 140737488355328 then (if 1 ≤ (x1_2.length : Int) then (impl_PatchOf.l0 k2 l0 (x1_2.drop 1) (y158.set ((wrap64 ((y158.length : Int) - 1)) : Int).toNat (⟨(rd_T51 y158 (wrap64 ((y158.length : Int) - 1))).f0, (rd_T51 y158 (wrap64 ((y158.length : Int) - 1))).f1, (((rd_T51 y158 (wrap64 ((y158.length : Int) - 1))).f2) ++ [rd x1_2 0])⟩ : S51))) else (none)) else (none)) else (none)) else (none)) else (none)) = some (r1, r2) := by first | (rw [hy158]; with_reducible exact H) | (have H2_ := (Option.bind_some _ _).symm.trans H; rw [hy158]; with_reducible exact H2_) | (have H2_ := (Option.bind_some _ _).symm.trans H; with_reducible exact H2_) | with_reducible exact H | (rw [hy158]; exact H) | exact H
          have Ny158 := Aside0.mk hy158
          clear hy158
          obtain ⟨ji18, hji18⟩ : ∃ j_ : Int, (wrap64 ((y158.length : Int) - 1)) = j_ := ⟨_, rfl⟩
          replace H : (if 0 ≤ (ji18) then (if (ji18) < (y158.length : Int) then (if 0 < (x1_2.length : Int) then (if ((rd_T51 y158 (ji18)).f2).length < 140737488355328 then (if 1 ≤ (x1_2.length : Int) then (impl_PatchOf.l0 k2 l0 (x1_2.drop 1) (y158.set ((ji18) : Int).toNat (⟨(rd_T51 y158 (ji18)).f0, (rd_T51 y158 (ji18)).f1, (((rd_T51 y158 (ji18)).f2) ++ [rd x1_2 0])⟩ : S51))) else (none)) else (none)) else (none)) else (none)) else (none)) = some (r1, r2) := by first | (rw [hji18] at H; exact H) | (simp only [hji18] at H ⊢; exact H)
          (try rw [hji18] at A9)
          have hji18w : (IntKind.i64.wrap ((y158.length : Int) - 1)) = ji18 := (i64_w _).trans hji18
          by_cases c19 : 0 ≤ (ji18)
          ·rw [if_pos c19] at H
           have c19b0 : decide (0 ≤ (ji18)) = true := decide_eq_true c19
           clear c19
           by_cases c20 : (ji18) < (y158.length : Int)
           ·rw [if_pos c20] at H
            have c20b0 : decide ((ji18) < (y158.length : Int)) = true := decide_eq_true c20
            clear c20
            by_cases c21 : 0 < (x1_2.length : Int)
            ·rw [if_pos c21] at H
             have c21b0 : decide (0 < (x1_2.length : Int)) = true := decide_eq_true c21
             have c21b1 : decide (0 < x1_2.length) = true := decide_eq_true (by omega)
             clear c21
             by_cases c22 : ((rd_T51 y158 (ji18)).f2).length < 140737488355328
             ·rw [if_pos c22] at H
              have LMc22 := Aside0.mk c22
              clear c22
              obtain ⟨y164, hy164⟩ : ∃ y_ : List Int, y_ = (((rd_T51 y158 (ji18)).f2) ++ [rd x1_2 0]) := ⟨_, rfl⟩
              replace H : (if 1 ≤ (x1_2.length : Int) then (impl_PatchOf.l0 k2 l0 (x1_2.drop 1) (y158.set ((ji18) : Int).toNat (⟨(rd_T51 y158 (ji18)).f0, (rd_T51 y158 (ji18)).f1, y164⟩ : S51))) else (none)) = some (r1, r2) := by first | (rw [hy164]; with_reducible exact H) | (have H2_ := (Option.bind_some _ _).symm.trans H; rw [hy164]; with_reducible exact H2_) | (have H2_ := (Option.bind_some _ _).symm.trans H; with_reducible exact H2_) | with_reducible exact H | (rw [hy164]; exact H) | exact H
              have Ny164 := Aside0.mk hy164
              clear hy164
              obtain ⟨y167, hy167⟩ : ∃ y_ : List (S51), y_ = (y158.set ((ji18) : Int).toNat (⟨(rd_T51 y158 (ji18)).f0, (rd_T51 y158 (ji18)).f1, y164⟩ : S51)) := ⟨_, rfl⟩
              replace H : (if 1 ≤ (x1_2.length : Int) then (impl_PatchOf.l0 k2 l0 (x1_2.drop 1) y167) else (none)) = some (r1, r2) := by first | (rw [hy167]; with_reducible exact H) | (have H2_ := (Option.bind_some _ _).symm.trans H; rw [hy167]; with_reducible exact H2_) | (have H2_ := (Option.bind_some _ _).symm.trans H; with_reducible exact H2_) | with_reducible exact H | (rw [hy167]; exact H) | exact H
              have Ny167 := Aside0.mk hy167
              clear hy167
              by_cases c23 : 1 ≤ (x1_2.length : Int)
              ·rw [if_pos c23] at H
               have c23b0 := eq_true c23
               have c23b1 : decide (1 ≤ (x1_2.length : Int)) = true := decide_eq_true c23
               clear c23
               have H' := Aside0.mk H
               clear H
               try go_wp2_with (first | ((with_reducible refine gate_callee (f := 16) rfl ?_); refine goesL_ (some 25) rfl rfl Try.func16 (by kernel_rfl) rfl #[.slice A0 l0.length c0, .slice A_1 x1_2.length c_1] rfl aE ?_; (with_reducible refine (impl_longest.calls k2 _ _ l0 _ _ x1_2 t152 t153 _ ?side1 ?side2 ?side3 ?side4 A9.out).mono ?_); (case side1 => exact cU (Kd.C_below HR0.out HB.out)); (case side2 => exact HC0.out); (case side3 => exact cU (Kd.C_below HR_1.out HB.out)); (case side4 => exact HC_1.out); rintro e w' ⟨rfl, ⟨nd, rfl⟩⟩; refine ⟨_, rfl, ?_⟩; (try (rw [drewN_self wr]; generalize hq_ : World.drewN wr _ = wr; replace HO_6 : Aside0 (Kd.S k51 51 wr w.heap.size (fun _ => True) u6 x6_2) := ⟨by rw [← hq_]; exact (by (with_reducible repeat (first | apply Kd.S_alloc | apply Kd.S_drewN | apply Kd.S_drew)); exact HO_6.out)⟩; replace HB : Aside0 (Below w.heap.size w wr) := ⟨by rw [← hq_]; exact (lU)⟩; clear hq_)); obtain ⟨Ao24, co24, eo24⟩ := Kd.S_slice HO_6.out; subst eo24) | ((with_reducible refine gate_builtin (b := .append) (xs := #[.tmp 52, .tmp 54]) rfl ?_); (try (refine gate_guard (by rfl) ?_; dsimp only)); at_builtin; refine Kd.S_append k51 (w0 := w) w.heap.size rfl (.tmp 52) (.tmp 54) 25 51 (.agg #[(.int .i64 0), (.int .i64 0), (.slice none 0 0)]) 40 rfl Try.underlying25 info51 rfl (by decide) (by omega) (.slice Ao24 x6_2.length co24) x6_2 (⟨0, 0, ([] : List Int)⟩ : S51) [.int .i64 0, .int .i64 0, .slice none 0 0] (fun _ => True) (fun _ => False) rfl rfl ?aP (fun k_ hk_ => hk_.elim) ?aF ?aO ?aB ?aS ?aL ?_; (case aP => exact k51_mkM _ _ _ (⟨0, 0, ([] : List Int)⟩ : S51) (Kd.R_nil _ _ _ _ _)); (case aB => exact (lU)); (case aF => exact (fun _ _ => trivial)); (case aO => exact (by (with_reducible repeat (first | apply Kd.S_alloc | apply Kd.S_drewN | apply Kd.S_drew)); exact Kd.S_mono HO_6.out (fun k_ hk => ⟨trivial, fun e_ => e_⟩))); (case aS => exact (below_size (lU))); (case aL => have := LMc17.out; omega); intro v159 w25 ho hb hg hat; rw [← Ny158.out] at ho; replace HB := Aside0.mk hb; have HO160 := Aside0.mk ho; clear HO_6; clear ho hb hg hat; obtain ⟨Ao26, co26, eo26⟩ := Kd.S_slice HO160.out; subst eo26; have p161 : 0 ≤ ((ji18) : Int) := of_decide_eq_true hE; have q161 : (ji18) < (y158.length : Int) := of_decide_eq_true hE; obtain ⟨ad161, A161_2, c161_2, e161, hx161_0, hx161_1, hx161_2, hl161_2, hi161_2⟩ := at_T51 (Kd.S_reads' HO160.out).2.2 (ji18) p161 q161; cases e161; obtain ⟨ce161, hce161, hMe161, hcc161⟩ := Kd.S_get HO160.out z51 (ji18) p161 (by first | exact q161 | exact of_decide_eq_true hE | (have e_ := (Kd.S_reads' HO160.out).1; omega)); obtain ⟨ve161_2, rfl, ge161_2⟩ := k51_openM hMe161; have hv161_2 := hcc161 2 _ rfl; rw [add_field _ _ 2 (by omega)] at hv161_2; replace hv161_2 := Option.some.inj (hv161_2.symm.trans hx161_2); rw [hv161_2] at ge161_2; have HL161_2 := Aside0.mk (show Kd.R (Kd.int .u8) 5 _ _ _ _ ((rd_T51 y158 (ji18)).f2) from ge161_2); clear hv161_2 ge161_2; have HX161_2 := Aside0.mk hx161_2; (try clear hcc161); (try clear hce161); have HR161_2 := Aside0.mk hi161_2; have HC161_2 := Aside0.mk hl161_2; clear hi161_2 hl161_2; replace p161 := eq_true p161; replace q161 := eq_true q161))
               replace HO160 := Aside0.mk (Kd.S_drew HO160.out)
               replace HL161_2 := Aside0.mk (Kd.R_drew HL161_2.out)
               replace HR161_2 := Aside0.mk (Kd.C_drew HR161_2.out)
               replace HB := Aside0.mk (below_drew1 HB.out)
               have p162 : 0 ≤ ((ji18) : Int) := of_decide_eq_true hE
               have q162 : (ji18) < (y158.length : Int) := of_decide_eq_true hE
               obtain ⟨ad162, A162_2, c162_2, e162, hx162_0, hx162_1, hx162_2, hl162_2, hi162_2⟩ := at_T51 (Kd.S_reads' HO160.out).2.2 (ji18) p162 q162
               obtain rfl : ad161 = ad162 := (by injection e162)
               obtain ⟨ce162, hce162, hMe162, hcc162⟩ := Kd.S_get HO160.out z51 (ji18) p162 (by first | exact q162 | exact of_decide_eq_true hE | (have e_ := (Kd.S_reads' HO160.out).1; omega))
               obtain ⟨ve162_2, rfl, ge162_2⟩ := k51_openM hMe162
               have hv162_2 := hcc162 2 _ rfl
               rw [add_field _ _ 2 (by omega)] at hv162_2
               replace hv162_2 := Option.some.inj (hv162_2.symm.trans hx162_2)
               rw [hv162_2] at ge162_2
               have HL162_2 := Aside0.mk (show Kd.R (Kd.int .u8) 5 _ _ _ _ ((rd_T51 y158 (ji18)).f2) from ge162_2)
               clear hv162_2 ge162_2
               have HX162_2 := Aside0.mk hx162_2
               (try clear hcc162)
               (try clear hce162)
               have HR162_2 := Aside0.mk hi162_2
               have HC162_2 := Aside0.mk hl162_2
               clear hi162_2 hl162_2
               replace p162 := eq_true p162
               replace q162 := eq_true q162
               have p163 : 0 ≤ (0 : Int) := (by omega)
               have q163 : 0 < (x1_2.length : Int) := of_decide_eq_true hE
               obtain ⟨ad163, e163, hx163_0⟩ := Kd.at_int HR_1.out 0 p163 q163
               have hw163_0 := hx163_0
               (try rw [show ((0 : Int)).toNat = 0 from rfl] at hw163_0)
               (try rw [show 0 * 1 = 0 from rfl] at hw163_0)
               (try rw [Addr.add_zero'] at hw163_0)
               cases e163
               have qi163 : (0 < x1_2.length) = True := eq_true (by omega)
               (try rw [show ((0 : Int)).toNat = 0 from rfl] at hx163_0)
               (try rw [Addr.add_zero'] at hx163_0)
               replace hx163_0 := (HB.out.cell (World.block_lt_of_cell? w _ hx163_0)).trans hx163_0
               replace p163 := eq_true p163
               replace q163 := eq_true q163
               obtain ⟨go28, co28, eo28, gb28, gl28, cl28, HG28⟩ := Kd.S_form HO160.out (by have h_ : ((ji18) : Int) < ((y158.length : Int) : Int) := of_decide_eq_true hE; have h2_ : 0 ≤ ((ji18) : Int) := (of_decide_eq_true hE); omega)
               (first | cases eo28 | (injection eo28 with ea_ en_ ec_; (first | subst ea_ | (injection ea_ with ea_; subst ea_)); subst ec_; clear en_))
               have GB28 := Aside0.mk gb28
               have GG28 := Aside0.mk HG28
               clear gb28 gl28 HG28
               (first | simp only [add_plain] at hx161_0 | skip)
               (first | simp only [add_plain] at hx161_1 | skip)
               (first | simp only [add_plain] at hx161_2 | skip)
               (first | simp only [add_plain] at hx162_0 | skip)
               (first | simp only [add_plain] at hx162_1 | skip)
               (first | simp only [add_plain] at hx162_2 | skip)
               obtain ⟨oki28, ce28, hcl28, hM28, hcc28, _, _, hH28⟩ := Kd.S_elem HO160.out z51 ((ji18) : Int) (of_decide_eq_true hE) (by have h_ : ((ji18) : Int) < ((y158.length : Int) : Int) := of_decide_eq_true hE; first | exact h_ | (have e_ := (Kd.S_reads' HO160.out).1; omega) | simpa using h_)
               obtain ⟨ve28_2, rfl, ge28_2⟩ := k51_openM hM28
               have hv28 := hcc28 2 _ rfl
               have hX28 := HX162_2.out
               (try simp only [add_plain] at hX28)
               (try simp only [Nat.add_zero] at hv28)
               replace hv28 := Option.some.inj (hv28.symm.trans hX28)
               subst hv28
               (try clear hX28)
               (try clear hcc28)
               (try clear hcl28)
               have UU28 := Aside0.mk (show Kd.R (Kd.int .u8) 5 _ w.heap.size oki28 (.slice A162_2 ((rd_T51 y158 (ji18)).f2).length c162_2) ((rd_T51 y158 (ji18)).f2) from ge28_2)
               have HH28 := Aside0.mk hH28
               have HN28 := Aside0.mk (Kd.S_reads' HO160.out).1
               clear hH28 ge28_2
               refine start_ (n := 13) (S := fun w' => w'.cell? ⟨go28, (((ji18)).toNat * 3), none⟩ = some (.int .i64 ((rd_T51 y158 (ji18)).f0)) ∧ w'.cell? ⟨go28, (((ji18)).toNat * 3) + 1, none⟩ = some (.int .i64 ((rd_T51 y158 (ji18)).f1)) ∧ w'.cell? ⟨go28, (((ji18)).toNat * 3) + 2, none⟩ = some (.slice A162_2 ((rd_T51 y158 (ji18)).f2).length c162_2) ∧ w'.cell? ad163 = some (.int .u8 (rd x1_2 0))) (ds := [12]) #[false, false, false, false, false, false, false, false, false, false, false, false, false] (by kernel_rfl) rfl rfl ⟨hx162_0, hx162_1, hx162_2, ((HB.out.cell (World.block_lt_of_cell? w _ hw163_0)).trans hw163_0)⟩ (fun hHeld => ?_); refine with_tabW impl_PatchOf.tab12 impl_PatchOf.bits12 (fun HT_ HW_ => ?_)
               generalize w25.drew = w27 at HO160 HL161_2 HR161_2 HB GG28 HH28 HL162_2 HR162_2 HX162_2 UU28 hx161_0 hx161_1 hx161_2 hx162_0 hx162_1 hx162_2 hx163_0 hHeld ⊢
               refine pureA 0 61 (bz 13 1) rfl rfl (any_of HT_.out (by kernel_rfl)) ?_
               refine pureA 1 62 (bz 13 3) rfl rfl (any_of HT_.out (by kernel_rfl)) ?_
               refine pureA 2 63 (bz 13 7) rfl rfl (any_of HT_.out (by kernel_rfl)) ?_
               refine pureA 3 64 (bz 13 15) rfl rfl (any_of HT_.out (by kernel_rfl)) ?_
               refine pureA 5 66 (bz 13 47) rfl rfl (any_of HT_.out (by kernel_rfl)) ?_
               refine pureA 6 67 (bz 13 111) rfl rfl (any_of HT_.out (by kernel_rfl)) ?_
               refine takeA 4 65 (bz 13 127) rfl rfl (take_ofW HT_.out HW_.out (by kernel_rfl)) hHeld (by rintro w' ⟨s0, s1, s2, s3⟩; go_simp; with_reducible rfl) ?_
               refine takeA 7 68 (bz 13 255) rfl rfl (take_ofW HT_.out HW_.out (by kernel_rfl)) hHeld (by rintro w' ⟨s0, s1, s2, s3⟩; go_simp; with_reducible rfl) ?_
               refine one_ (i := 8) (N := some 69) (bz 13 511) rfl rfl (one_of HT_.out (by kernel_rfl)) (by decide) (fun K hK => ?_)
               refine value_ (w1 := ?_) (v := ?_) (by rfl) rfl ?_ ?_
               rotate_left 2
               ·go_simp
                constructor
                ·rfl
                ·rfl
               refine hK.out _ _ ⟨(World.cell?_alloc_lt _ _ _ (World.block_lt_of_cell? _ _ (hHeld.1))).trans (hHeld.1), (World.cell?_alloc_lt _ _ _ (World.block_lt_of_cell? _ _ (hHeld.2.1))).trans (hHeld.2.1), (World.cell?_alloc_lt _ _ _ (World.block_lt_of_cell? _ _ (hHeld.2.2.1))).trans (hHeld.2.2.1), (World.cell?_alloc_lt _ _ _ (World.block_lt_of_cell? _ _ (((HB.out.cell (World.block_lt_of_cell? w _ hw163_0)).trans hw163_0)))).trans (((HB.out.cell (World.block_lt_of_cell? w _ hw163_0)).trans hw163_0))⟩ (fun hHeld => ?_)
               clear hK K
               refine norm_ (a' := ?_) ?_ ?_
               rotate_left
               ·show Act.put _ (some 69) _ = _
                simp only [Act.put, List.setIfInBounds_toArray, List.set_cons_zero, List.set_cons_succ, i64_w, i32_w]
                rfl
               refine one_ (i := 9) (N := some 70) (bz 13 1023) rfl rfl (one_of HT_.out (by kernel_rfl)) (by decide) (fun K hK => ?_)
               refine Kd.R_append_step (Kd.int .u8) (w0 := w) w.heap.size (by rfl) (.tmp 65) (.tmp 69) 22 5 (.int .u8 0) 1 rfl Try.underlying22 info5 rfl (by decide) (by omega) (.slice A162_2 ((rd_T51 y158 (ji18)).f2).length c162_2) ((rd_T51 y158 (ji18)).f2) (rd x1_2 0) [.int .u8 (rd x1_2 0)] (fun k_ => oki28 k_ ∨ ((fun _ => True)) k_ ∧ w27.heap.size ≤ k_) (fun _ => False) rfl rfl ?aP (fun _ hk => hk.elim) ?aF ?aO ?aB ?aS ?aL ?_
               (case aP => exact rfl)
               (case aB => exact (lU))
               (case aF => exact (fun k_ hk => .inr ⟨trivial, hk⟩))
               (case aO => exact (by (with_reducible repeat (first | apply Kd.R_alloc | apply Kd.R_drewN | apply Kd.R_drew)); exact Kd.R_mono UU28.out (fun _ hk => .inl hk)))
               (case aS => exact (below_size (lU)))
               (case aL => have := LMc22.out; omega)
               intro v165 w29 ho hb hg hat
               (first | have HS0_ := cell_grown hg (hHeld.1) (by first | (rw [add_block]; exact (fun e_ => ((HL162_2.out.1 _ e_.symm).2) rfl)) | (show some (Addr.add _ _).block ≠ _; rw [add_block]; exact (fun e_ => ((HL162_2.out.1 _ e_.symm).2) rfl)) | exact (fun e_ => ((HL162_2.out.1 _ e_.symm).2) rfl)) | have HS0_ := cell_grown hg (cell_unalloc (hHeld.1) (by first | (rw [add_block]; exact Kd.S_lt HO160.out _ rfl) | (show (Addr.add _ _).block < _; rw [add_block]; exact Kd.S_lt HO160.out _ rfl) | exact Kd.S_lt HO160.out _ rfl)) (by first | (rw [add_block]; exact (fun e_ => ((HL162_2.out.1 _ e_.symm).2) rfl)) | (show some (Addr.add _ _).block ≠ _; rw [add_block]; exact (fun e_ => ((HL162_2.out.1 _ e_.symm).2) rfl)) | exact (fun e_ => ((HL162_2.out.1 _ e_.symm).2) rfl)))
               (first | have HS1_ := cell_grown hg (hHeld.2.1) (by first | (rw [add_block]; exact (fun e_ => ((HL162_2.out.1 _ e_.symm).2) rfl)) | (show some (Addr.add _ _).block ≠ _; rw [add_block]; exact (fun e_ => ((HL162_2.out.1 _ e_.symm).2) rfl)) | exact (fun e_ => ((HL162_2.out.1 _ e_.symm).2) rfl)) | have HS1_ := cell_grown hg (cell_unalloc (hHeld.2.1) (by first | (rw [add_block]; exact Kd.S_lt HO160.out _ rfl) | (show (Addr.add _ _).block < _; rw [add_block]; exact Kd.S_lt HO160.out _ rfl) | exact Kd.S_lt HO160.out _ rfl)) (by first | (rw [add_block]; exact (fun e_ => ((HL162_2.out.1 _ e_.symm).2) rfl)) | (show some (Addr.add _ _).block ≠ _; rw [add_block]; exact (fun e_ => ((HL162_2.out.1 _ e_.symm).2) rfl)) | exact (fun e_ => ((HL162_2.out.1 _ e_.symm).2) rfl)))
               (first | have HS2_ := cell_grown hg (hHeld.2.2.1) (by first | (rw [add_block]; exact (fun e_ => ((HL162_2.out.1 _ e_.symm).2) rfl)) | (show some (Addr.add _ _).block ≠ _; rw [add_block]; exact (fun e_ => ((HL162_2.out.1 _ e_.symm).2) rfl)) | exact (fun e_ => ((HL162_2.out.1 _ e_.symm).2) rfl)) | have HS2_ := cell_grown hg (cell_unalloc (hHeld.2.2.1) (by first | (rw [add_block]; exact Kd.S_lt HO160.out _ rfl) | (show (Addr.add _ _).block < _; rw [add_block]; exact Kd.S_lt HO160.out _ rfl) | exact Kd.S_lt HO160.out _ rfl)) (by first | (rw [add_block]; exact (fun e_ => ((HL162_2.out.1 _ e_.symm).2) rfl)) | (show some (Addr.add _ _).block ≠ _; rw [add_block]; exact (fun e_ => ((HL162_2.out.1 _ e_.symm).2) rfl)) | exact (fun e_ => ((HL162_2.out.1 _ e_.symm).2) rfl)))
               rw [← Ny164.out] at ho
               replace HB := Aside0.mk hb
               replace HH28 := Aside0.mk (Kd.H_grown (Kd.H_widen (by repeat (first | exact HH28.out | refine Kd.H_alloc ?_ _ | refine Kd.H_drewN ?_ _ | refine Kd.H_drew ?_))) hg (fun k_ e_ => .inl (UU28.out.1 k_ e_)))
               have HO166 := Aside0.mk ho
               clear HO160 UU28 HL161_2 HL162_2
               clear ho hb hg hat
               obtain ⟨Ao32, co32, eo32⟩ := Kd.R_slice HO166.out
               (first | subst eo32 | (injection eo32 with f1_ f2_ f3_; have f4_ := f1_.symm; have f5_ := f3_.symm; clear f1_ f2_ f3_; subst f4_; subst f5_))
               obtain ⟨_, _, hraw30, _, _, hcc30, _⟩ := Kd.H_raw HH28.out (of_decide_eq_true hE) (by have h_ : ((ji18) : Int) < ((y158.length : Int) : Int) := of_decide_eq_true hE; first | exact h_ | (have e_ := (HN28.out); omega) | simpa using h_)
               obtain ⟨_, hfr30⟩ := Kd.H_at HH28.out (of_decide_eq_true hE) (by have h_ : ((ji18) : Int) < ((y158.length : Int) : Int) := of_decide_eq_true hE; first | exact h_ | (have e_ := (HN28.out); omega) | simpa using h_)
               have hx30_0 := hcc30 2 _ rfl
               have hf30_0 := hfr30 2
               (try rw [show (k51).sz = 3 from rfl] at hx30_0)
               (try rw [show (k51).sz = 3 from rfl] at hf30_0)
               have HP30 := Kd.S_seg0 HH28.out (of_decide_eq_true hE) (by have h_ : ((ji18) : Int) < ((y158.length : Int) : Int) := of_decide_eq_true hE; first | exact h_ | (have e_ := (HN28.out); omega) | simpa using h_) (seg := [.slice Ao32 y164.length co32]) (j := 2) (show 3 ≤ 3 from by decide) (x' := (⟨(rd_T51 y158 (ji18)).f0, (rd_T51 y158 (ji18)).f1, y164⟩ : S51)) (k51_mkM _ _ _ (⟨(rd_T51 y158 (ji18)).f0, (rd_T51 y158 (ji18)).f1, y164⟩ : S51) HO166.out) (fun _ hk => hk)
               (try clear hcc30)
               (try clear hfr30)
               have HS30 := HP30.1
               rw [← Ny167.out] at HS30
               have HQ30 := Aside0.mk HS30
               obtain ⟨_, hgg30⟩ := Kd.R_typed hraw30 go28 rfl
               have GG30_ := Aside0.mk hgg30
               clear HP30 HS30 hgg30
               refine hK.out _ _ ⟨HS0_, HS1_, HS2_, ((HB.out.cell (World.block_lt_of_cell? w _ hw163_0)).trans hw163_0)⟩ (fun hHeld => ?_)
               clear hK K
               refine norm_ (a' := ?_) ?_ ?_
               rotate_left
               ·show Act.put _ (some 70) _ = _
                simp only [Act.put, List.setIfInBounds_toArray, List.set_cons_zero, List.set_cons_succ, i64_w, i32_w]
                rfl
               refine pureA 10 71 (bz 13 2047) rfl rfl (any_of HT_.out (by kernel_rfl)) ?_
               refine pureA 11 72 (bz 13 4095) rfl rfl (any_of HT_.out (by kernel_rfl)) ?_
               refine last_ (i := 12) (N := none) (bz 13 8191) rfl rfl (one_of HT_.out (by kernel_rfl)) (by decide) (fun K hK => ?_)
               refine skip_ (w1 := ?_) (by rfl) rfl ?_ ?_
               rotate_left
               ·go_simp
                rfl
               refine hK.out _ _ ?_
               clear hK K
               refine done_ (done_of HT_.out (by kernel_rfl)) ?_
               obtain ⟨i033, hi033, _, hsz33, _⟩ := info_parts info5
               obtain ⟨A33, hcut33, hA33, hC33⟩ := print_drop_of (P := Try.prog) (Value.int .u8) 0 22 5 .i64 Try.underlying22 hi033 hsz33 (some ad163) c_1 x1_2 1 (by omega) (of_decide_eq_true hE) HC_1.out
               have HR168 := Aside0.mk (Kd.C_of_reads (h1 := fun _ => rfl) (hA33 _ (Kd.reads_of_C HR_1.out)))
               have HC168 := Aside0.mk hC33
               (try clear hA33)
               (try clear hC33)
               (try clear hi033)
               (try clear hsz33)
               try go_wp2
               go_roundg k2
               case measure => have := HJ2.out; have := HK2.out; omega
               case rel => exact ⟨(x1_2.drop 1), (y167), _, _, (by first | rfl | (rw [List.length_drop]; done) | (rw [List.length_drop]; rfl) | (simp only [List.length_drop]; rfl)), H', ⟨by have := HJ2.out; have := HK2.out; omega⟩, ⟨HR168.out⟩, ⟨HC168.out⟩, ⟨by (with_reducible repeat (first | apply Kd.S_alloc | apply Kd.S_drewN | apply Kd.S_drew)); exact HQ30.out⟩, ⟨by repeat (first | (with_reducible first | exact HB.out | apply below_alloc | apply pw_below_drewN | apply below_drew1 | refine below_set ?_ GB28.out) | exact HB.out)⟩⟩
              ·rw [if_neg c23] at H
               exact absurd H (by simp)
             ·rw [if_neg c22] at H
              exact absurd H (by simp)
            ·rw [if_neg c21] at H
             exact absurd H (by simp)
           ·rw [if_neg c20] at H
            exact absurd H (by simp)
          ·rw [if_neg c19] at H
           exact absurd H (by simp)
         ·rw [if_neg c17] at H
          exact absurd H (by simp)
        ·rw [if_neg c16] at H
         have c16b0 : ((x6_2.length : Int) == 0) = false := beq_eq_false_iff_ne.mpr c16
         have c16b1 : ((x6_2.length : Int) != 0) = true := bne_iff_ne.mpr c16
         have c16b2 : ¬ (x6_2 = []) := fun h_ => c16 (by rw [h_]; rfl)
         obtain ⟨ji34, hji34⟩ : ∃ j_ : Int, (wrap64 ((x6_2.length : Int) - 1)) = j_ := ⟨_, rfl⟩
         replace H : (if 0 ≤ (ji34) then (if (ji34) < (x6_2.length : Int) then (if ((rd_T51 x6_2 (ji34)).f1) > 0 then (if x6_2.length < 3518437208883 then ((some (x6_2 ++ [(⟨0, 0, ([] : List Int)⟩ : S51)] : List (S51))).bind fun y170 => (if 0 ≤ (wrap64 ((y170.length : Int) - 1)) then (if (wrap64 ((y170.length : Int) - 1)) < (y170.length : Int) then (if 0 < (x1_2.length : Int) then (if ((rd_T51 y170 (wrap64 ((y170.length : Int) - 1))).f2).length < 140737488355328 then (if 1 ≤ (x1_2.length : Int) then (impl_PatchOf.l0 k2 l0 (x1_2.drop 1) (y170.set ((wrap64 ((y170.length : Int) - 1)) : Int).toNat (⟨(rd_T51 y170 (wrap64 ((y170.length : Int) - 1))).f0, (rd_T51 y170 (wrap64 ((y170.length : Int) - 1))).f1, (((rd_T51 y170 (wrap64 ((y170.length : Int) - 1))).f2) ++ [rd x1_2 0])⟩ : S51))) else (none)) else (none)) else (none)) else (none)) else (none))) else (none)) else (if 0 < (x1_2.length : Int) then (if ((rd_T51 x6_2 (ji34)).f2).length < 140737488355328 then (if 1 ≤ (x1_2.length : Int) then (impl_PatchOf.l0 k2 l0 (x1_2.drop 1) (x6_2.set ((ji34) : Int).toNat (⟨(rd_T51 x6_2 (ji34)).f0, (rd_T51 x6_2 (ji34)).f1, (((rd_T51 x6_2 (ji34)).f2) ++ [rd x1_2 0])⟩ : S51))) else (none)) else (none)) else (none))) else (none)) else (none)) = some (r1, r2) := by first | (rw [hji34] at H; exact H) | (simp only [hji34] at H ⊢; exact H)
         (try rw [hji34] at A9)
         have hji34w : (IntKind.i64.wrap ((x6_2.length : Int) - 1)) = ji34 := (i64_w _).trans hji34
         by_cases c35 : 0 ≤ (ji34)
         ·rw [if_pos c35] at H
          have c35b0 : decide (0 ≤ (ji34)) = true := decide_eq_true c35
          clear c35
          by_cases c36 : (ji34) < (x6_2.length : Int)
          ·rw [if_pos c36] at H
           have c36b0 : decide ((ji34) < (x6_2.length : Int)) = true := decide_eq_true c36
           clear c36
           by_cases c37 : ((rd_T51 x6_2 (ji34)).f1) > 0
           ·rw [if_pos c37] at H
            have c37b0 : decide (0 < ((rd_T51 x6_2 (ji34)).f1)) = true := decide_eq_true c37
            clear c37
            by_cases c38 : x6_2.length < 3518437208883
            ·rw [if_pos c38] at H
             have LMc38 := Aside0.mk c38
             clear c38
             obtain ⟨y170, hy170⟩ : ∃ y_ : List (S51), y_ = (x6_2 ++ [(⟨0, 0, ([] : List Int)⟩ : S51)]) := ⟨_, rfl⟩
             replace H : (if 0 ≤ (wrap64 ((y170.length : Int) - 1)) then (if (wrap64 ((y170.length : Int) - 1)) < (y170.length : Int) then (if 0 < (x1_2.length : Int) then (if ((rd_T51 y170 (wrap64 ((y170.length : Int) - 1))).f2).length < 140737488355328 then (if 1 ≤ (x1_2.length : Int) then (impl_PatchOf.l0 k2 l0 (x1_2.drop 1) (y170.set ((wrap64 ((y170.length : Int) - 1)) : Int).toNat (⟨(rd_T51 y170 (wrap64 ((y170.length : Int) - 1))).f0, (rd_T51 y170 (wrap64 ((y170.length : Int) - 1))).f1, (((rd_T51 y170 (wrap64 ((y170.length : Int) - 1))).f2) ++ [rd x1_2 0])⟩ : S51))) else (none)) else (none)) else (none)) else (none)) else (none)) = some (r1, r2) := by first | (rw [hy170]; with_reducible exact H) | (have H2_ := (Option.bind_some _ _).symm.trans H; rw [hy170]; with_reducible exact H2_) | (have H2_ := (Option.bind_some _ _).symm.trans H; with_reducible exact H2_) | with_reducible exact H | (rw [hy170]; exact H) | exact H
             have Ny170 := Aside0.mk hy170
             clear hy170
             obtain ⟨ji39, hji39⟩ : ∃ j_ : Int, (wrap64 ((y170.length : Int) - 1)) = j_ := ⟨_, rfl⟩
             replace H : (if 0 ≤ (ji39) then (if (ji39) < (y170.length : Int) then (if 0 < (x1_2.length : Int) then (if ((rd_T51 y170 (ji39)).f2).length < 140737488355328 then (if 1 ≤ (x1_2.length : Int) then (impl_PatchOf.l0 k2 l0 (x1_2.drop 1) (y170.set ((ji39) : Int).toNat (⟨(rd_T51 y170 (ji39)).f0, (rd_T51 y170 (ji39)).f1, (((rd_T51 y170 (ji39)).f2) ++ [rd x1_2 0])⟩ : S51))) else (none)) else (none)) else (none)) else (none)) else (none)) = some (r1, r2) := by first | (rw [hji39] at H; exact H) | (simp only [hji39] at H ⊢; exact H)
             (try rw [hji39] at A9)
             have hji39w : (IntKind.i64.wrap ((y170.length : Int) - 1)) = ji39 := (i64_w _).trans hji39
             by_cases c40 : 0 ≤ (ji39)
             ·rw [if_pos c40] at H
              have c40b0 : decide (0 ≤ (ji39)) = true := decide_eq_true c40
              clear c40
              by_cases c41 : (ji39) < (y170.length : Int)
              ·rw [if_pos c41] at H
               have c41b0 : decide ((ji39) < (y170.length : Int)) = true := decide_eq_true c41
               clear c41
               by_cases c42 : 0 < (x1_2.length : Int)
               ·rw [if_pos c42] at H
                have c42b0 : decide (0 < (x1_2.length : Int)) = true := decide_eq_true c42
                have c42b1 : decide (0 < x1_2.length) = true := decide_eq_true (by omega)
                clear c42
                by_cases c43 : ((rd_T51 y170 (ji39)).f2).length < 140737488355328
                ·rw [if_pos c43] at H
                 have LMc43 := Aside0.mk c43
                 clear c43
                 obtain ⟨y176, hy176⟩ : ∃ y_ : List Int, y_ = (((rd_T51 y170 (ji39)).f2) ++ [rd x1_2 0]) := ⟨_, rfl⟩
                 replace H : (if 1 ≤ (x1_2.length : Int) then (impl_PatchOf.l0 k2 l0 (x1_2.drop 1) (y170.set ((ji39) : Int).toNat (⟨(rd_T51 y170 (ji39)).f0, (rd_T51 y170 (ji39)).f1, y176⟩ : S51))) else (none)) = some (r1, r2) := by first | (rw [hy176]; with_reducible exact H) | (have H2_ := (Option.bind_some _ _).symm.trans H; rw [hy176]; with_reducible exact H2_) | (have H2_ := (Option.bind_some _ _).symm.trans H; with_reducible exact H2_) | with_reducible exact H | (rw [hy176]; exact H) | exact H
                 have Ny176 := Aside0.mk hy176
                 clear hy176
                 obtain ⟨y179, hy179⟩ : ∃ y_ : List (S51), y_ = (y170.set ((ji39) : Int).toNat (⟨(rd_T51 y170 (ji39)).f0, (rd_T51 y170 (ji39)).f1, y176⟩ : S51)) := ⟨_, rfl⟩
                 replace H : (if 1 ≤ (x1_2.length : Int) then (impl_PatchOf.l0 k2 l0 (x1_2.drop 1) y179) else (none)) = some (r1, r2) := by first | (rw [hy179]; with_reducible exact H) | (have H2_ := (Option.bind_some _ _).symm.trans H; rw [hy179]; with_reducible exact H2_) | (have H2_ := (Option.bind_some _ _).symm.trans H; with_reducible exact H2_) | with_reducible exact H | (rw [hy179]; exact H) | exact H
                 have Ny179 := Aside0.mk hy179
                 clear hy179
                 by_cases c44 : 1 ≤ (x1_2.length : Int)
                 ·rw [if_pos c44] at H
                  have c44b0 := eq_true c44
                  have c44b1 : decide (1 ≤ (x1_2.length : Int)) = true := decide_eq_true c44
                  clear c44
                  have H' := Aside0.mk H
                  clear H
                  try go_wp2_with (first | ((with_reducible refine gate_callee (f := 16) rfl ?_); refine goesL_ (some 25) rfl rfl Try.func16 (by kernel_rfl) rfl #[.slice A0 l0.length c0, .slice A_1 x1_2.length c_1] rfl aE ?_; (with_reducible refine (impl_longest.calls k2 _ _ l0 _ _ x1_2 t152 t153 _ ?side1 ?side2 ?side3 ?side4 A9.out).mono ?_); (case side1 => exact cU (Kd.C_below HR0.out HB.out)); (case side2 => exact HC0.out); (case side3 => exact cU (Kd.C_below HR_1.out HB.out)); (case side4 => exact HC_1.out); rintro e w' ⟨rfl, ⟨nd, rfl⟩⟩; refine ⟨_, rfl, ?_⟩; (try (rw [drewN_self wr]; generalize hq_ : World.drewN wr _ = wr; replace HO_6 : Aside0 (Kd.S k51 51 wr w.heap.size (fun _ => True) u6 x6_2) := ⟨by rw [← hq_]; exact (by (with_reducible repeat (first | apply Kd.S_alloc | apply Kd.S_drewN | apply Kd.S_drew)); exact HO_6.out)⟩; replace HB : Aside0 (Below w.heap.size w wr) := ⟨by rw [← hq_]; exact (lU)⟩; clear hq_)); obtain ⟨Ao45, co45, eo45⟩ := Kd.S_slice HO_6.out; subst eo45; have p169 : 0 ≤ ((ji34) : Int) := of_decide_eq_true hE; have q169 : (ji34) < (x6_2.length : Int) := of_decide_eq_true hE; obtain ⟨ad169, A169_2, c169_2, e169, hx169_0, hx169_1, hx169_2, hl169_2, hi169_2⟩ := at_T51 (Kd.S_reads' HO_6.out).2.2 (ji34) p169 q169; cases e169; obtain ⟨ce169, hce169, hMe169, hcc169⟩ := Kd.S_get HO_6.out z51 (ji34) p169 (by first | exact q169 | exact of_decide_eq_true hE | (have e_ := (Kd.S_reads' HO_6.out).1; omega)); obtain ⟨ve169_2, rfl, ge169_2⟩ := k51_openM hMe169; have hv169_2 := hcc169 2 _ rfl; rw [add_field _ _ 2 (by omega)] at hv169_2; replace hv169_2 := Option.some.inj (hv169_2.symm.trans hx169_2); rw [hv169_2] at ge169_2; have HL169_2 := Aside0.mk (show Kd.R (Kd.int .u8) 5 _ _ _ _ ((rd_T51 x6_2 (ji34)).f2) from ge169_2); clear hv169_2 ge169_2; have HX169_2 := Aside0.mk hx169_2; (try clear hcc169); (try clear hce169); have HR169_2 := Aside0.mk hi169_2; have HC169_2 := Aside0.mk hl169_2; clear hi169_2 hl169_2; replace p169 := eq_true p169; replace q169 := eq_true q169) | ((with_reducible refine gate_builtin (b := .append) (xs := #[.tmp 52, .tmp 54]) rfl ?_); (try (refine gate_guard (by rfl) ?_; dsimp only)); at_builtin; refine Kd.S_append k51 (w0 := w) w.heap.size rfl (.tmp 52) (.tmp 54) 25 51 (.agg #[(.int .i64 0), (.int .i64 0), (.slice none 0 0)]) 40 rfl Try.underlying25 info51 rfl (by decide) (by omega) (.slice (some ad169) x6_2.length co45) x6_2 (⟨0, 0, ([] : List Int)⟩ : S51) [.int .i64 0, .int .i64 0, .slice none 0 0] (fun _ => True) (fun _ => False) rfl rfl ?aP (fun k_ hk_ => hk_.elim) ?aF ?aO ?aB ?aS ?aL ?_; (case aP => exact k51_mkM _ _ _ (⟨0, 0, ([] : List Int)⟩ : S51) (Kd.R_nil _ _ _ _ _)); (case aB => exact (lU)); (case aF => exact (fun _ _ => trivial)); (case aO => exact (by (with_reducible repeat (first | apply Kd.S_alloc | apply Kd.S_drewN | apply Kd.S_drew)); exact Kd.S_mono HO_6.out (fun k_ hk => ⟨trivial, fun e_ => e_⟩))); (case aS => exact (below_size (lU))); (case aL => have := LMc38.out; omega); intro v171 w46 ho hb hg hat; rw [← Ny170.out] at ho; replace HL169_2 := Aside0.mk (Kd.R_after (ok := (fun _ => True)) (rU HL169_2.out) hg hat); replace HB := Aside0.mk hb; have HO172 := Aside0.mk ho; clear HO_6; clear ho hb hg hat; obtain ⟨Ao47, co47, eo47⟩ := Kd.S_slice HO172.out; subst eo47; have p173 : 0 ≤ ((ji39) : Int) := of_decide_eq_true hE; have q173 : (ji39) < (y170.length : Int) := of_decide_eq_true hE; obtain ⟨ad173, A173_2, c173_2, e173, hx173_0, hx173_1, hx173_2, hl173_2, hi173_2⟩ := at_T51 (Kd.S_reads' HO172.out).2.2 (ji39) p173 q173; cases e173; obtain ⟨ce173, hce173, hMe173, hcc173⟩ := Kd.S_get HO172.out z51 (ji39) p173 (by first | exact q173 | exact of_decide_eq_true hE | (have e_ := (Kd.S_reads' HO172.out).1; omega)); obtain ⟨ve173_2, rfl, ge173_2⟩ := k51_openM hMe173; have hv173_2 := hcc173 2 _ rfl; rw [add_field _ _ 2 (by omega)] at hv173_2; replace hv173_2 := Option.some.inj (hv173_2.symm.trans hx173_2); rw [hv173_2] at ge173_2; have HL173_2 := Aside0.mk (show Kd.R (Kd.int .u8) 5 _ _ _ _ ((rd_T51 y170 (ji39)).f2) from ge173_2); clear hv173_2 ge173_2; have HX173_2 := Aside0.mk hx173_2; (try clear hcc173); (try clear hce173); have HR173_2 := Aside0.mk hi173_2; have HC173_2 := Aside0.mk hl173_2; clear hi173_2 hl173_2; replace p173 := eq_true p173; replace q173 := eq_true q173))
                  replace HL169_2 := Aside0.mk (Kd.R_drew HL169_2.out)
                  replace HO172 := Aside0.mk (Kd.S_drew HO172.out)
                  replace HL173_2 := Aside0.mk (Kd.R_drew HL173_2.out)
                  replace HR173_2 := Aside0.mk (Kd.C_drew HR173_2.out)
                  replace HB := Aside0.mk (below_drew1 HB.out)
                  have p174 : 0 ≤ ((ji39) : Int) := of_decide_eq_true hE
                  have q174 : (ji39) < (y170.length : Int) := of_decide_eq_true hE
                  obtain ⟨ad174, A174_2, c174_2, e174, hx174_0, hx174_1, hx174_2, hl174_2, hi174_2⟩ := at_T51 (Kd.S_reads' HO172.out).2.2 (ji39) p174 q174
                  obtain rfl : ad173 = ad174 := (by injection e174)
                  obtain ⟨ce174, hce174, hMe174, hcc174⟩ := Kd.S_get HO172.out z51 (ji39) p174 (by first | exact q174 | exact of_decide_eq_true hE | (have e_ := (Kd.S_reads' HO172.out).1; omega))
                  obtain ⟨ve174_2, rfl, ge174_2⟩ := k51_openM hMe174
                  have hv174_2 := hcc174 2 _ rfl
                  rw [add_field _ _ 2 (by omega)] at hv174_2
                  replace hv174_2 := Option.some.inj (hv174_2.symm.trans hx174_2)
                  rw [hv174_2] at ge174_2
                  have HL174_2 := Aside0.mk (show Kd.R (Kd.int .u8) 5 _ _ _ _ ((rd_T51 y170 (ji39)).f2) from ge174_2)
                  clear hv174_2 ge174_2
                  have HX174_2 := Aside0.mk hx174_2
                  (try clear hcc174)
                  (try clear hce174)
                  have HR174_2 := Aside0.mk hi174_2
                  have HC174_2 := Aside0.mk hl174_2
                  clear hi174_2 hl174_2
                  replace p174 := eq_true p174
                  replace q174 := eq_true q174
                  have p175 : 0 ≤ (0 : Int) := (by omega)
                  have q175 : 0 < (x1_2.length : Int) := of_decide_eq_true hE
                  obtain ⟨ad175, e175, hx175_0⟩ := Kd.at_int HR_1.out 0 p175 q175
                  have hw175_0 := hx175_0
                  (try rw [show ((0 : Int)).toNat = 0 from rfl] at hw175_0)
                  (try rw [show 0 * 1 = 0 from rfl] at hw175_0)
                  (try rw [Addr.add_zero'] at hw175_0)
                  cases e175
                  have qi175 : (0 < x1_2.length) = True := eq_true (by omega)
                  (try rw [show ((0 : Int)).toNat = 0 from rfl] at hx175_0)
                  (try rw [Addr.add_zero'] at hx175_0)
                  replace hx175_0 := (HB.out.cell (World.block_lt_of_cell? w _ hx175_0)).trans hx175_0
                  replace p175 := eq_true p175
                  replace q175 := eq_true q175
                  obtain ⟨go49, co49, eo49, gb49, gl49, cl49, HG49⟩ := Kd.S_form HO172.out (by have h_ : ((ji39) : Int) < ((y170.length : Int) : Int) := of_decide_eq_true hE; have h2_ : 0 ≤ ((ji39) : Int) := (of_decide_eq_true hE); omega)
                  (first | cases eo49 | (injection eo49 with ea_ en_ ec_; (first | subst ea_ | (injection ea_ with ea_; subst ea_)); subst ec_; clear en_))
                  have GB49 := Aside0.mk gb49
                  have GG49 := Aside0.mk HG49
                  clear gb49 gl49 HG49
                  (first | simp only [add_plain] at hx173_0 | skip)
                  (first | simp only [add_plain] at hx173_1 | skip)
                  (first | simp only [add_plain] at hx173_2 | skip)
                  (first | simp only [add_plain] at hx174_0 | skip)
                  (first | simp only [add_plain] at hx174_1 | skip)
                  (first | simp only [add_plain] at hx174_2 | skip)
                  obtain ⟨oki49, ce49, hcl49, hM49, hcc49, _, _, hH49⟩ := Kd.S_elem HO172.out z51 ((ji39) : Int) (of_decide_eq_true hE) (by have h_ : ((ji39) : Int) < ((y170.length : Int) : Int) := of_decide_eq_true hE; first | exact h_ | (have e_ := (Kd.S_reads' HO172.out).1; omega) | simpa using h_)
                  obtain ⟨ve49_2, rfl, ge49_2⟩ := k51_openM hM49
                  have hv49 := hcc49 2 _ rfl
                  have hX49 := HX174_2.out
                  (try simp only [add_plain] at hX49)
                  (try simp only [Nat.add_zero] at hv49)
                  replace hv49 := Option.some.inj (hv49.symm.trans hX49)
                  subst hv49
                  (try clear hX49)
                  (try clear hcc49)
                  (try clear hcl49)
                  have UU49 := Aside0.mk (show Kd.R (Kd.int .u8) 5 _ w.heap.size oki49 (.slice A174_2 ((rd_T51 y170 (ji39)).f2).length c174_2) ((rd_T51 y170 (ji39)).f2) from ge49_2)
                  have HH49 := Aside0.mk hH49
                  have HN49 := Aside0.mk (Kd.S_reads' HO172.out).1
                  clear hH49 ge49_2
                  refine start_ (n := 13) (S := fun w' => w'.cell? ⟨go49, (((ji39)).toNat * 3), none⟩ = some (.int .i64 ((rd_T51 y170 (ji39)).f0)) ∧ w'.cell? ⟨go49, (((ji39)).toNat * 3) + 1, none⟩ = some (.int .i64 ((rd_T51 y170 (ji39)).f1)) ∧ w'.cell? ⟨go49, (((ji39)).toNat * 3) + 2, none⟩ = some (.slice A174_2 ((rd_T51 y170 (ji39)).f2).length c174_2) ∧ w'.cell? ad175 = some (.int .u8 (rd x1_2 0))) (ds := [12]) #[false, false, false, false, false, false, false, false, false, false, false, false, false] (by kernel_rfl) rfl rfl ⟨hx174_0, hx174_1, hx174_2, ((HB.out.cell (World.block_lt_of_cell? w _ hw175_0)).trans hw175_0)⟩ (fun hHeld => ?_); refine with_tabW impl_PatchOf.tab12 impl_PatchOf.bits12 (fun HT_ HW_ => ?_)
                  generalize w46.drew = w48 at HL169_2 HO172 HL173_2 HR173_2 HB GG49 HH49 HL174_2 HR174_2 HX174_2 UU49 hx173_0 hx173_1 hx173_2 hx174_0 hx174_1 hx174_2 hx175_0 hHeld ⊢
                  refine pureA 0 61 (bz 13 1) rfl rfl (any_of HT_.out (by kernel_rfl)) ?_
                  refine pureA 1 62 (bz 13 3) rfl rfl (any_of HT_.out (by kernel_rfl)) ?_
                  refine pureA 2 63 (bz 13 7) rfl rfl (any_of HT_.out (by kernel_rfl)) ?_
                  refine pureA 3 64 (bz 13 15) rfl rfl (any_of HT_.out (by kernel_rfl)) ?_
                  refine pureA 5 66 (bz 13 47) rfl rfl (any_of HT_.out (by kernel_rfl)) ?_
                  refine pureA 6 67 (bz 13 111) rfl rfl (any_of HT_.out (by kernel_rfl)) ?_
                  refine takeA 4 65 (bz 13 127) rfl rfl (take_ofW HT_.out HW_.out (by kernel_rfl)) hHeld (by rintro w' ⟨s0, s1, s2, s3⟩; go_simp; with_reducible rfl) ?_
                  refine takeA 7 68 (bz 13 255) rfl rfl (take_ofW HT_.out HW_.out (by kernel_rfl)) hHeld (by rintro w' ⟨s0, s1, s2, s3⟩; go_simp; with_reducible rfl) ?_
                  refine one_ (i := 8) (N := some 69) (bz 13 511) rfl rfl (one_of HT_.out (by kernel_rfl)) (by decide) (fun K hK => ?_)
                  refine value_ (w1 := ?_) (v := ?_) (by rfl) rfl ?_ ?_
                  rotate_left 2
                  ·go_simp
                   constructor
                   ·rfl
                   ·rfl
                  refine hK.out _ _ ⟨(World.cell?_alloc_lt _ _ _ (World.block_lt_of_cell? _ _ (hHeld.1))).trans (hHeld.1), (World.cell?_alloc_lt _ _ _ (World.block_lt_of_cell? _ _ (hHeld.2.1))).trans (hHeld.2.1), (World.cell?_alloc_lt _ _ _ (World.block_lt_of_cell? _ _ (hHeld.2.2.1))).trans (hHeld.2.2.1), (World.cell?_alloc_lt _ _ _ (World.block_lt_of_cell? _ _ (((HB.out.cell (World.block_lt_of_cell? w _ hw175_0)).trans hw175_0)))).trans (((HB.out.cell (World.block_lt_of_cell? w _ hw175_0)).trans hw175_0))⟩ (fun hHeld => ?_)
                  clear hK K
                  refine norm_ (a' := ?_) ?_ ?_
                  rotate_left
                  ·show Act.put _ (some 69) _ = _
                   simp only [Act.put, List.setIfInBounds_toArray, List.set_cons_zero, List.set_cons_succ, i64_w, i32_w]
                   rfl
                  refine one_ (i := 9) (N := some 70) (bz 13 1023) rfl rfl (one_of HT_.out (by kernel_rfl)) (by decide) (fun K hK => ?_)
                  refine Kd.R_append_step (Kd.int .u8) (w0 := w) w.heap.size (by rfl) (.tmp 65) (.tmp 69) 22 5 (.int .u8 0) 1 rfl Try.underlying22 info5 rfl (by decide) (by omega) (.slice A174_2 ((rd_T51 y170 (ji39)).f2).length c174_2) ((rd_T51 y170 (ji39)).f2) (rd x1_2 0) [.int .u8 (rd x1_2 0)] (fun k_ => oki49 k_ ∨ ((fun _ => True)) k_ ∧ w48.heap.size ≤ k_) (fun _ => False) rfl rfl ?aP (fun _ hk => hk.elim) ?aF ?aO ?aB ?aS ?aL ?_
                  (case aP => exact rfl)
                  (case aB => exact (lU))
                  (case aF => exact (fun k_ hk => .inr ⟨trivial, hk⟩))
                  (case aO => exact (by (with_reducible repeat (first | apply Kd.R_alloc | apply Kd.R_drewN | apply Kd.R_drew)); exact Kd.R_mono UU49.out (fun _ hk => .inl hk)))
                  (case aS => exact (below_size (lU)))
                  (case aL => have := LMc43.out; omega)
                  intro v177 w50 ho hb hg hat
                  (first | have HS0_ := cell_grown hg (hHeld.1) (by first | (rw [add_block]; exact (fun e_ => ((HL174_2.out.1 _ e_.symm).2) rfl)) | (show some (Addr.add _ _).block ≠ _; rw [add_block]; exact (fun e_ => ((HL174_2.out.1 _ e_.symm).2) rfl)) | exact (fun e_ => ((HL174_2.out.1 _ e_.symm).2) rfl)) | have HS0_ := cell_grown hg (cell_unalloc (hHeld.1) (by first | (rw [add_block]; exact Kd.S_lt HO172.out _ rfl) | (show (Addr.add _ _).block < _; rw [add_block]; exact Kd.S_lt HO172.out _ rfl) | exact Kd.S_lt HO172.out _ rfl)) (by first | (rw [add_block]; exact (fun e_ => ((HL174_2.out.1 _ e_.symm).2) rfl)) | (show some (Addr.add _ _).block ≠ _; rw [add_block]; exact (fun e_ => ((HL174_2.out.1 _ e_.symm).2) rfl)) | exact (fun e_ => ((HL174_2.out.1 _ e_.symm).2) rfl)))
                  (first | have HS1_ := cell_grown hg (hHeld.2.1) (by first | (rw [add_block]; exact (fun e_ => ((HL174_2.out.1 _ e_.symm).2) rfl)) | (show some (Addr.add _ _).block ≠ _; rw [add_block]; exact (fun e_ => ((HL174_2.out.1 _ e_.symm).2) rfl)) | exact (fun e_ => ((HL174_2.out.1 _ e_.symm).2) rfl)) | have HS1_ := cell_grown hg (cell_unalloc (hHeld.2.1) (by first | (rw [add_block]; exact Kd.S_lt HO172.out _ rfl) | (show (Addr.add _ _).block < _; rw [add_block]; exact Kd.S_lt HO172.out _ rfl) | exact Kd.S_lt HO172.out _ rfl)) (by first | (rw [add_block]; exact (fun e_ => ((HL174_2.out.1 _ e_.symm).2) rfl)) | (show some (Addr.add _ _).block ≠ _; rw [add_block]; exact (fun e_ => ((HL174_2.out.1 _ e_.symm).2) rfl)) | exact (fun e_ => ((HL174_2.out.1 _ e_.symm).2) rfl)))
                  (first | have HS2_ := cell_grown hg (hHeld.2.2.1) (by first | (rw [add_block]; exact (fun e_ => ((HL174_2.out.1 _ e_.symm).2) rfl)) | (show some (Addr.add _ _).block ≠ _; rw [add_block]; exact (fun e_ => ((HL174_2.out.1 _ e_.symm).2) rfl)) | exact (fun e_ => ((HL174_2.out.1 _ e_.symm).2) rfl)) | have HS2_ := cell_grown hg (cell_unalloc (hHeld.2.2.1) (by first | (rw [add_block]; exact Kd.S_lt HO172.out _ rfl) | (show (Addr.add _ _).block < _; rw [add_block]; exact Kd.S_lt HO172.out _ rfl) | exact Kd.S_lt HO172.out _ rfl)) (by first | (rw [add_block]; exact (fun e_ => ((HL174_2.out.1 _ e_.symm).2) rfl)) | (show some (Addr.add _ _).block ≠ _; rw [add_block]; exact (fun e_ => ((HL174_2.out.1 _ e_.symm).2) rfl)) | exact (fun e_ => ((HL174_2.out.1 _ e_.symm).2) rfl)))
                  rw [← Ny176.out] at ho
                  replace HB := Aside0.mk hb
                  replace HH49 := Aside0.mk (Kd.H_grown (Kd.H_widen (by repeat (first | exact HH49.out | refine Kd.H_alloc ?_ _ | refine Kd.H_drewN ?_ _ | refine Kd.H_drew ?_))) hg (fun k_ e_ => .inl (UU49.out.1 k_ e_)))
                  have HO178 := Aside0.mk ho
                  clear HO172 UU49 HL169_2 HL173_2 HL174_2
                  clear ho hb hg hat
                  obtain ⟨Ao53, co53, eo53⟩ := Kd.R_slice HO178.out
                  (first | subst eo53 | (injection eo53 with f1_ f2_ f3_; have f4_ := f1_.symm; have f5_ := f3_.symm; clear f1_ f2_ f3_; subst f4_; subst f5_))
                  obtain ⟨_, _, hraw51, _, _, hcc51, _⟩ := Kd.H_raw HH49.out (of_decide_eq_true hE) (by have h_ : ((ji39) : Int) < ((y170.length : Int) : Int) := of_decide_eq_true hE; first | exact h_ | (have e_ := (HN49.out); omega) | simpa using h_)
                  obtain ⟨_, hfr51⟩ := Kd.H_at HH49.out (of_decide_eq_true hE) (by have h_ : ((ji39) : Int) < ((y170.length : Int) : Int) := of_decide_eq_true hE; first | exact h_ | (have e_ := (HN49.out); omega) | simpa using h_)
                  have hx51_0 := hcc51 2 _ rfl
                  have hf51_0 := hfr51 2
                  (try rw [show (k51).sz = 3 from rfl] at hx51_0)
                  (try rw [show (k51).sz = 3 from rfl] at hf51_0)
                  have HP51 := Kd.S_seg0 HH49.out (of_decide_eq_true hE) (by have h_ : ((ji39) : Int) < ((y170.length : Int) : Int) := of_decide_eq_true hE; first | exact h_ | (have e_ := (HN49.out); omega) | simpa using h_) (seg := [.slice Ao53 y176.length co53]) (j := 2) (show 3 ≤ 3 from by decide) (x' := (⟨(rd_T51 y170 (ji39)).f0, (rd_T51 y170 (ji39)).f1, y176⟩ : S51)) (k51_mkM _ _ _ (⟨(rd_T51 y170 (ji39)).f0, (rd_T51 y170 (ji39)).f1, y176⟩ : S51) HO178.out) (fun _ hk => hk)
                  (try clear hcc51)
                  (try clear hfr51)
                  have HS51 := HP51.1
                  rw [← Ny179.out] at HS51
                  have HQ51 := Aside0.mk HS51
                  obtain ⟨_, hgg51⟩ := Kd.R_typed hraw51 go49 rfl
                  have GG51_ := Aside0.mk hgg51
                  clear HP51 HS51 hgg51
                  refine hK.out _ _ ⟨HS0_, HS1_, HS2_, ((HB.out.cell (World.block_lt_of_cell? w _ hw175_0)).trans hw175_0)⟩ (fun hHeld => ?_)
                  clear hK K
                  refine norm_ (a' := ?_) ?_ ?_
                  rotate_left
                  ·show Act.put _ (some 70) _ = _
                   simp only [Act.put, List.setIfInBounds_toArray, List.set_cons_zero, List.set_cons_succ, i64_w, i32_w]
                   rfl
                  refine pureA 10 71 (bz 13 2047) rfl rfl (any_of HT_.out (by kernel_rfl)) ?_
                  refine pureA 11 72 (bz 13 4095) rfl rfl (any_of HT_.out (by kernel_rfl)) ?_
                  refine last_ (i := 12) (N := none) (bz 13 8191) rfl rfl (one_of HT_.out (by kernel_rfl)) (by decide) (fun K hK => ?_)
                  refine skip_ (w1 := ?_) (by rfl) rfl ?_ ?_
                  rotate_left
                  ·go_simp
                   rfl
                  refine hK.out _ _ ?_
                  clear hK K
                  refine done_ (done_of HT_.out (by kernel_rfl)) ?_
                  obtain ⟨i054, hi054, _, hsz54, _⟩ := info_parts info5
                  obtain ⟨A54, hcut54, hA54, hC54⟩ := print_drop_of (P := Try.prog) (Value.int .u8) 0 22 5 .i64 Try.underlying22 hi054 hsz54 (some ad175) c_1 x1_2 1 (by omega) (of_decide_eq_true hE) HC_1.out
                  have HR180 := Aside0.mk (Kd.C_of_reads (h1 := fun _ => rfl) (hA54 _ (Kd.reads_of_C HR_1.out)))
                  have HC180 := Aside0.mk hC54
                  (try clear hA54)
                  (try clear hC54)
                  (try clear hi054)
                  (try clear hsz54)
                  try go_wp2
                  go_roundg k2
                  case measure => have := HJ2.out; have := HK2.out; omega
                  case rel => exact ⟨(x1_2.drop 1), (y179), _, _, (by first | rfl | (rw [List.length_drop]; done) | (rw [List.length_drop]; rfl) | (simp only [List.length_drop]; rfl)), H', ⟨by have := HJ2.out; have := HK2.out; omega⟩, ⟨HR180.out⟩, ⟨HC180.out⟩, ⟨by (with_reducible repeat (first | apply Kd.S_alloc | apply Kd.S_drewN | apply Kd.S_drew)); exact HQ51.out⟩, ⟨by repeat (first | (with_reducible first | exact HB.out | apply below_alloc | apply pw_below_drewN | apply below_drew1 | refine below_set ?_ GB49.out) | exact HB.out)⟩⟩
                 ·rw [if_neg c44] at H
                  exact absurd H (by simp)
                ·rw [if_neg c43] at H
                 exact absurd H (by simp)
               ·rw [if_neg c42] at H
                exact absurd H (by simp)
              ·rw [if_neg c41] at H
               exact absurd H (by simp)
             ·rw [if_neg c40] at H
              exact absurd H (by simp)
            ·rw [if_neg c38] at H
             exact absurd H (by simp)
           ·rw [if_neg c37] at H
            have c37b0 : decide (0 < ((rd_T51 x6_2 (ji34)).f1)) = false := decide_eq_false c37
            clear c37
            by_cases c55 : 0 < (x1_2.length : Int)
            ·rw [if_pos c55] at H
             have c55b0 : decide (0 < (x1_2.length : Int)) = true := decide_eq_true c55
             have c55b1 : decide (0 < x1_2.length) = true := decide_eq_true (by omega)
             clear c55
             by_cases c56 : ((rd_T51 x6_2 (ji34)).f2).length < 140737488355328
             ·rw [if_pos c56] at H
              have LMc56 := Aside0.mk c56
              clear c56
              obtain ⟨y184, hy184⟩ : ∃ y_ : List Int, y_ = (((rd_T51 x6_2 (ji34)).f2) ++ [rd x1_2 0]) := ⟨_, rfl⟩
              replace H : (if 1 ≤ (x1_2.length : Int) then (impl_PatchOf.l0 k2 l0 (x1_2.drop 1) (x6_2.set ((ji34) : Int).toNat (⟨(rd_T51 x6_2 (ji34)).f0, (rd_T51 x6_2 (ji34)).f1, y184⟩ : S51))) else (none)) = some (r1, r2) := by first | (rw [hy184]; with_reducible exact H) | (have H2_ := (Option.bind_some _ _).symm.trans H; rw [hy184]; with_reducible exact H2_) | (have H2_ := (Option.bind_some _ _).symm.trans H; with_reducible exact H2_) | with_reducible exact H | (rw [hy184]; exact H) | exact H
              have Ny184 := Aside0.mk hy184
              clear hy184
              obtain ⟨y187, hy187⟩ : ∃ y_ : List (S51), y_ = (x6_2.set ((ji34) : Int).toNat (⟨(rd_T51 x6_2 (ji34)).f0, (rd_T51 x6_2 (ji34)).f1, y184⟩ : S51)) := ⟨_, rfl⟩
              replace H : (if 1 ≤ (x1_2.length : Int) then (impl_PatchOf.l0 k2 l0 (x1_2.drop 1) y187) else (none)) = some (r1, r2) := by first | (rw [hy187]; with_reducible exact H) | (have H2_ := (Option.bind_some _ _).symm.trans H; rw [hy187]; with_reducible exact H2_) | (have H2_ := (Option.bind_some _ _).symm.trans H; with_reducible exact H2_) | with_reducible exact H | (rw [hy187]; exact H) | exact H
              have Ny187 := Aside0.mk hy187
              clear hy187
              by_cases c57 : 1 ≤ (x1_2.length : Int)
              ·rw [if_pos c57] at H
               have c57b0 := eq_true c57
               have c57b1 : decide (1 ≤ (x1_2.length : Int)) = true := decide_eq_true c57
               clear c57
               have H' := Aside0.mk H
               clear H
               try go_wp2_with (first | ((with_reducible refine gate_callee (f := 16) rfl ?_); refine goesL_ (some 25) rfl rfl Try.func16 (by kernel_rfl) rfl #[.slice A0 l0.length c0, .slice A_1 x1_2.length c_1] rfl aE ?_; (with_reducible refine (impl_longest.calls k2 _ _ l0 _ _ x1_2 t152 t153 _ ?side1 ?side2 ?side3 ?side4 A9.out).mono ?_); (case side1 => exact cU (Kd.C_below HR0.out HB.out)); (case side2 => exact HC0.out); (case side3 => exact cU (Kd.C_below HR_1.out HB.out)); (case side4 => exact HC_1.out); rintro e w' ⟨rfl, ⟨nd, rfl⟩⟩; refine ⟨_, rfl, ?_⟩; (try (rw [drewN_self wr]; generalize hq_ : World.drewN wr _ = wr; replace HO_6 : Aside0 (Kd.S k51 51 wr w.heap.size (fun _ => True) u6 x6_2) := ⟨by rw [← hq_]; exact (by (with_reducible repeat (first | apply Kd.S_alloc | apply Kd.S_drewN | apply Kd.S_drew)); exact HO_6.out)⟩; replace HB : Aside0 (Below w.heap.size w wr) := ⟨by rw [← hq_]; exact (lU)⟩; clear hq_)); obtain ⟨Ao58, co58, eo58⟩ := Kd.S_slice HO_6.out; subst eo58; have p169 : 0 ≤ ((ji34) : Int) := of_decide_eq_true hE; have q169 : (ji34) < (x6_2.length : Int) := of_decide_eq_true hE; obtain ⟨ad169, A169_2, c169_2, e169, hx169_0, hx169_1, hx169_2, hl169_2, hi169_2⟩ := at_T51 (Kd.S_reads' HO_6.out).2.2 (ji34) p169 q169; cases e169; obtain ⟨ce169, hce169, hMe169, hcc169⟩ := Kd.S_get HO_6.out z51 (ji34) p169 (by first | exact q169 | exact of_decide_eq_true hE | (have e_ := (Kd.S_reads' HO_6.out).1; omega)); obtain ⟨ve169_2, rfl, ge169_2⟩ := k51_openM hMe169; have hv169_2 := hcc169 2 _ rfl; rw [add_field _ _ 2 (by omega)] at hv169_2; replace hv169_2 := Option.some.inj (hv169_2.symm.trans hx169_2); rw [hv169_2] at ge169_2; have HL169_2 := Aside0.mk (show Kd.R (Kd.int .u8) 5 _ _ _ _ ((rd_T51 x6_2 (ji34)).f2) from ge169_2); clear hv169_2 ge169_2; have HX169_2 := Aside0.mk hx169_2; (try clear hcc169); (try clear hce169); have HR169_2 := Aside0.mk hi169_2; have HC169_2 := Aside0.mk hl169_2; clear hi169_2 hl169_2; replace p169 := eq_true p169; replace q169 := eq_true q169; have p181 : 0 ≤ ((ji34) : Int) := of_decide_eq_true hE; have q181 : (ji34) < (x6_2.length : Int) := of_decide_eq_true hE; obtain ⟨ad181, A181_2, c181_2, e181, hx181_0, hx181_1, hx181_2, hl181_2, hi181_2⟩ := at_T51 (Kd.S_reads' HO_6.out).2.2 (ji34) p181 q181; obtain rfl : ad169 = ad181 := (by injection e181); obtain ⟨ce181, hce181, hMe181, hcc181⟩ := Kd.S_get HO_6.out z51 (ji34) p181 (by first | exact q181 | exact of_decide_eq_true hE | (have e_ := (Kd.S_reads' HO_6.out).1; omega)); obtain ⟨ve181_2, rfl, ge181_2⟩ := k51_openM hMe181; have hv181_2 := hcc181 2 _ rfl; rw [add_field _ _ 2 (by omega)] at hv181_2; replace hv181_2 := Option.some.inj (hv181_2.symm.trans hx181_2); rw [hv181_2] at ge181_2; have HL181_2 := Aside0.mk (show Kd.R (Kd.int .u8) 5 _ _ _ _ ((rd_T51 x6_2 (ji34)).f2) from ge181_2); clear hv181_2 ge181_2; have HX181_2 := Aside0.mk hx181_2; (try clear hcc181); (try clear hce181); have HR181_2 := Aside0.mk hi181_2; have HC181_2 := Aside0.mk hl181_2; clear hi181_2 hl181_2; replace p181 := eq_true p181; replace q181 := eq_true q181; have ea_ := Option.some.inj (hx169_2.symm.trans hx181_2); injection ea_ with ea_ en_ ec_; subst ea_; subst ec_; clear en_))
               replace HO_6 := Aside0.mk (Kd.S_drew HO_6.out)
               replace HL169_2 := Aside0.mk (Kd.R_drew HL169_2.out)
               replace HL181_2 := Aside0.mk (Kd.R_drew HL181_2.out)
               replace HR169_2 := Aside0.mk (Kd.C_drew HR169_2.out)
               replace HR181_2 := Aside0.mk (Kd.C_drew HR181_2.out)
               replace HB := Aside0.mk (below_drew1 HB.out)
               have p182 : 0 ≤ ((ji34) : Int) := of_decide_eq_true hE
               have q182 : (ji34) < (x6_2.length : Int) := of_decide_eq_true hE
               obtain ⟨ad182, A182_2, c182_2, e182, hx182_0, hx182_1, hx182_2, hl182_2, hi182_2⟩ := at_T51 (Kd.S_reads' HO_6.out).2.2 (ji34) p182 q182
               obtain rfl : ad169 = ad182 := (by injection e182)
               obtain ⟨ce182, hce182, hMe182, hcc182⟩ := Kd.S_get HO_6.out z51 (ji34) p182 (by first | exact q182 | exact of_decide_eq_true hE | (have e_ := (Kd.S_reads' HO_6.out).1; omega))
               obtain ⟨ve182_2, rfl, ge182_2⟩ := k51_openM hMe182
               have hv182_2 := hcc182 2 _ rfl
               rw [add_field _ _ 2 (by omega)] at hv182_2
               replace hv182_2 := Option.some.inj (hv182_2.symm.trans hx182_2)
               rw [hv182_2] at ge182_2
               have HL182_2 := Aside0.mk (show Kd.R (Kd.int .u8) 5 _ _ _ _ ((rd_T51 x6_2 (ji34)).f2) from ge182_2)
               clear hv182_2 ge182_2
               have HX182_2 := Aside0.mk hx182_2
               (try clear hcc182)
               (try clear hce182)
               have HR182_2 := Aside0.mk hi182_2
               have HC182_2 := Aside0.mk hl182_2
               clear hi182_2 hl182_2
               replace p182 := eq_true p182
               replace q182 := eq_true q182
               have p183 : 0 ≤ (0 : Int) := (by omega)
               have q183 : 0 < (x1_2.length : Int) := of_decide_eq_true hE
               obtain ⟨ad183, e183, hx183_0⟩ := Kd.at_int HR_1.out 0 p183 q183
               have hw183_0 := hx183_0
               (try rw [show ((0 : Int)).toNat = 0 from rfl] at hw183_0)
               (try rw [show 0 * 1 = 0 from rfl] at hw183_0)
               (try rw [Addr.add_zero'] at hw183_0)
               cases e183
               have qi183 : (0 < x1_2.length) = True := eq_true (by omega)
               (try rw [show ((0 : Int)).toNat = 0 from rfl] at hx183_0)
               (try rw [Addr.add_zero'] at hx183_0)
               replace hx183_0 := (HB.out.cell (World.block_lt_of_cell? w _ hx183_0)).trans hx183_0
               replace p183 := eq_true p183
               replace q183 := eq_true q183
               obtain ⟨go60, co60, eo60, gb60, gl60, cl60, HG60⟩ := Kd.S_form HO_6.out (by have h_ : ((ji34) : Int) < ((x6_2.length : Int) : Int) := of_decide_eq_true hE; have h2_ : 0 ≤ ((ji34) : Int) := (of_decide_eq_true hE); omega)
               (first | cases eo60 | (injection eo60 with ea_ en_ ec_; (first | subst ea_ | (injection ea_ with ea_; subst ea_)); subst ec_; clear en_))
               have GB60 := Aside0.mk gb60
               have GG60 := Aside0.mk HG60
               clear gb60 gl60 HG60
               (first | simp only [add_plain] at hx169_0 | skip)
               (first | simp only [add_plain] at hx169_1 | skip)
               (first | simp only [add_plain] at hx169_2 | skip)
               (first | simp only [add_plain] at hx181_0 | skip)
               (first | simp only [add_plain] at hx181_1 | skip)
               (first | simp only [add_plain] at hx181_2 | skip)
               (first | simp only [add_plain] at hx182_0 | skip)
               (first | simp only [add_plain] at hx182_1 | skip)
               (first | simp only [add_plain] at hx182_2 | skip)
               obtain ⟨oki60, ce60, hcl60, hM60, hcc60, _, _, hH60⟩ := Kd.S_elem HO_6.out z51 ((ji34) : Int) (of_decide_eq_true hE) (by have h_ : ((ji34) : Int) < ((x6_2.length : Int) : Int) := of_decide_eq_true hE; first | exact h_ | (have e_ := (Kd.S_reads' HO_6.out).1; omega) | simpa using h_)
               obtain ⟨ve60_2, rfl, ge60_2⟩ := k51_openM hM60
               have hv60 := hcc60 2 _ rfl
               have hX60 := HX182_2.out
               (try simp only [add_plain] at hX60)
               (try simp only [Nat.add_zero] at hv60)
               replace hv60 := Option.some.inj (hv60.symm.trans hX60)
               subst hv60
               (try clear hX60)
               (try clear hcc60)
               (try clear hcl60)
               have UU60 := Aside0.mk (show Kd.R (Kd.int .u8) 5 _ w.heap.size oki60 (.slice A182_2 ((rd_T51 x6_2 (ji34)).f2).length c182_2) ((rd_T51 x6_2 (ji34)).f2) from ge60_2)
               have HH60 := Aside0.mk hH60
               have HN60 := Aside0.mk (Kd.S_reads' HO_6.out).1
               clear hH60 ge60_2
               refine start_ (n := 13) (S := fun w' => w'.cell? ⟨go60, (((ji34)).toNat * 3), none⟩ = some (.int .i64 ((rd_T51 x6_2 (ji34)).f0)) ∧ w'.cell? ⟨go60, (((ji34)).toNat * 3) + 1, none⟩ = some (.int .i64 ((rd_T51 x6_2 (ji34)).f1)) ∧ w'.cell? ⟨go60, (((ji34)).toNat * 3) + 2, none⟩ = some (.slice A182_2 ((rd_T51 x6_2 (ji34)).f2).length c182_2) ∧ w'.cell? ad183 = some (.int .u8 (rd x1_2 0))) (ds := [12]) #[false, false, false, false, false, false, false, false, false, false, false, false, false] (by kernel_rfl) rfl rfl ⟨hx182_0, hx182_1, hx182_2, ((HB.out.cell (World.block_lt_of_cell? w _ hw183_0)).trans hw183_0)⟩ (fun hHeld => ?_); refine with_tabW impl_PatchOf.tab12 impl_PatchOf.bits12 (fun HT_ HW_ => ?_)
               generalize wr.drew = w59 at HO_6 HL169_2 HL181_2 HR169_2 HR181_2 HB GG60 HH60 HL182_2 HR182_2 HX182_2 UU60 hx169_0 hx169_1 hx169_2 hx181_0 hx181_1 hx181_2 hx182_0 hx182_1 hx182_2 hx183_0 hHeld ⊢
               refine pureA 0 61 (bz 13 1) rfl rfl (any_of HT_.out (by kernel_rfl)) ?_
               refine pureA 1 62 (bz 13 3) rfl rfl (any_of HT_.out (by kernel_rfl)) ?_
               refine pureA 2 63 (bz 13 7) rfl rfl (any_of HT_.out (by kernel_rfl)) ?_
               refine pureA 3 64 (bz 13 15) rfl rfl (any_of HT_.out (by kernel_rfl)) ?_
               refine pureA 5 66 (bz 13 47) rfl rfl (any_of HT_.out (by kernel_rfl)) ?_
               refine pureA 6 67 (bz 13 111) rfl rfl (any_of HT_.out (by kernel_rfl)) ?_
               refine takeA 4 65 (bz 13 127) rfl rfl (take_ofW HT_.out HW_.out (by kernel_rfl)) hHeld (by rintro w' ⟨s0, s1, s2, s3⟩; go_simp; with_reducible rfl) ?_
               refine takeA 7 68 (bz 13 255) rfl rfl (take_ofW HT_.out HW_.out (by kernel_rfl)) hHeld (by rintro w' ⟨s0, s1, s2, s3⟩; go_simp; with_reducible rfl) ?_
               refine one_ (i := 8) (N := some 69) (bz 13 511) rfl rfl (one_of HT_.out (by kernel_rfl)) (by decide) (fun K hK => ?_)
               refine value_ (w1 := ?_) (v := ?_) (by rfl) rfl ?_ ?_
               rotate_left 2
               ·go_simp
                constructor
                ·rfl
                ·rfl
               refine hK.out _ _ ⟨(World.cell?_alloc_lt _ _ _ (World.block_lt_of_cell? _ _ (hHeld.1))).trans (hHeld.1), (World.cell?_alloc_lt _ _ _ (World.block_lt_of_cell? _ _ (hHeld.2.1))).trans (hHeld.2.1), (World.cell?_alloc_lt _ _ _ (World.block_lt_of_cell? _ _ (hHeld.2.2.1))).trans (hHeld.2.2.1), (World.cell?_alloc_lt _ _ _ (World.block_lt_of_cell? _ _ (((HB.out.cell (World.block_lt_of_cell? w _ hw183_0)).trans hw183_0)))).trans (((HB.out.cell (World.block_lt_of_cell? w _ hw183_0)).trans hw183_0))⟩ (fun hHeld => ?_)
               clear hK K
               refine norm_ (a' := ?_) ?_ ?_
               rotate_left
               ·show Act.put _ (some 69) _ = _
                simp only [Act.put, List.setIfInBounds_toArray, List.set_cons_zero, List.set_cons_succ, i64_w, i32_w]
                rfl
               refine one_ (i := 9) (N := some 70) (bz 13 1023) rfl rfl (one_of HT_.out (by kernel_rfl)) (by decide) (fun K hK => ?_)
               refine Kd.R_append_step (Kd.int .u8) (w0 := w) w.heap.size (by rfl) (.tmp 65) (.tmp 69) 22 5 (.int .u8 0) 1 rfl Try.underlying22 info5 rfl (by decide) (by omega) (.slice A182_2 ((rd_T51 x6_2 (ji34)).f2).length c182_2) ((rd_T51 x6_2 (ji34)).f2) (rd x1_2 0) [.int .u8 (rd x1_2 0)] (fun k_ => oki60 k_ ∨ ((fun _ => True)) k_ ∧ w59.heap.size ≤ k_) (fun _ => False) rfl rfl ?aP (fun _ hk => hk.elim) ?aF ?aO ?aB ?aS ?aL ?_
               (case aP => exact rfl)
               (case aB => exact (lU))
               (case aF => exact (fun k_ hk => .inr ⟨trivial, hk⟩))
               (case aO => exact (by (with_reducible repeat (first | apply Kd.R_alloc | apply Kd.R_drewN | apply Kd.R_drew)); exact Kd.R_mono UU60.out (fun _ hk => .inl hk)))
               (case aS => exact (below_size (lU)))
               (case aL => have := LMc56.out; omega)
               intro v185 w61 ho hb hg hat
               (first | have HS0_ := cell_grown hg (hHeld.1) (by first | (rw [add_block]; exact (fun e_ => ((HL182_2.out.1 _ e_.symm).2) rfl)) | (show some (Addr.add _ _).block ≠ _; rw [add_block]; exact (fun e_ => ((HL182_2.out.1 _ e_.symm).2) rfl)) | exact (fun e_ => ((HL182_2.out.1 _ e_.symm).2) rfl)) | have HS0_ := cell_grown hg (cell_unalloc (hHeld.1) (by first | (rw [add_block]; exact Kd.S_lt HO_6.out _ rfl) | (show (Addr.add _ _).block < _; rw [add_block]; exact Kd.S_lt HO_6.out _ rfl) | exact Kd.S_lt HO_6.out _ rfl)) (by first | (rw [add_block]; exact (fun e_ => ((HL182_2.out.1 _ e_.symm).2) rfl)) | (show some (Addr.add _ _).block ≠ _; rw [add_block]; exact (fun e_ => ((HL182_2.out.1 _ e_.symm).2) rfl)) | exact (fun e_ => ((HL182_2.out.1 _ e_.symm).2) rfl)))
               (first | have HS1_ := cell_grown hg (hHeld.2.1) (by first | (rw [add_block]; exact (fun e_ => ((HL182_2.out.1 _ e_.symm).2) rfl)) | (show some (Addr.add _ _).block ≠ _; rw [add_block]; exact (fun e_ => ((HL182_2.out.1 _ e_.symm).2) rfl)) | exact (fun e_ => ((HL182_2.out.1 _ e_.symm).2) rfl)) | have HS1_ := cell_grown hg (cell_unalloc (hHeld.2.1) (by first | (rw [add_block]; exact Kd.S_lt HO_6.out _ rfl) | (show (Addr.add _ _).block < _; rw [add_block]; exact Kd.S_lt HO_6.out _ rfl) | exact Kd.S_lt HO_6.out _ rfl)) (by first | (rw [add_block]; exact (fun e_ => ((HL182_2.out.1 _ e_.symm).2) rfl)) | (show some (Addr.add _ _).block ≠ _; rw [add_block]; exact (fun e_ => ((HL182_2.out.1 _ e_.symm).2) rfl)) | exact (fun e_ => ((HL182_2.out.1 _ e_.symm).2) rfl)))
               (first | have HS2_ := cell_grown hg (hHeld.2.2.1) (by first | (rw [add_block]; exact (fun e_ => ((HL182_2.out.1 _ e_.symm).2) rfl)) | (show some (Addr.add _ _).block ≠ _; rw [add_block]; exact (fun e_ => ((HL182_2.out.1 _ e_.symm).2) rfl)) | exact (fun e_ => ((HL182_2.out.1 _ e_.symm).2) rfl)) | have HS2_ := cell_grown hg (cell_unalloc (hHeld.2.2.1) (by first | (rw [add_block]; exact Kd.S_lt HO_6.out _ rfl) | (show (Addr.add _ _).block < _; rw [add_block]; exact Kd.S_lt HO_6.out _ rfl) | exact Kd.S_lt HO_6.out _ rfl)) (by first | (rw [add_block]; exact (fun e_ => ((HL182_2.out.1 _ e_.symm).2) rfl)) | (show some (Addr.add _ _).block ≠ _; rw [add_block]; exact (fun e_ => ((HL182_2.out.1 _ e_.symm).2) rfl)) | exact (fun e_ => ((HL182_2.out.1 _ e_.symm).2) rfl)))
               rw [← Ny184.out] at ho
               replace HB := Aside0.mk hb
               replace HH60 := Aside0.mk (Kd.H_grown (Kd.H_widen (by repeat (first | exact HH60.out | refine Kd.H_alloc ?_ _ | refine Kd.H_drewN ?_ _ | refine Kd.H_drew ?_))) hg (fun k_ e_ => .inl (UU60.out.1 k_ e_)))
               have HO186 := Aside0.mk ho
               clear HO_6 UU60 HL169_2 HL181_2 HL182_2
               clear ho hb hg hat
               obtain ⟨Ao64, co64, eo64⟩ := Kd.R_slice HO186.out
               (first | subst eo64 | (injection eo64 with f1_ f2_ f3_; have f4_ := f1_.symm; have f5_ := f3_.symm; clear f1_ f2_ f3_; subst f4_; subst f5_))
               obtain ⟨_, _, hraw62, _, _, hcc62, _⟩ := Kd.H_raw HH60.out (of_decide_eq_true hE) (by have h_ : ((ji34) : Int) < ((x6_2.length : Int) : Int) := of_decide_eq_true hE; first | exact h_ | (have e_ := (HN60.out); omega) | simpa using h_)
               obtain ⟨_, hfr62⟩ := Kd.H_at HH60.out (of_decide_eq_true hE) (by have h_ : ((ji34) : Int) < ((x6_2.length : Int) : Int) := of_decide_eq_true hE; first | exact h_ | (have e_ := (HN60.out); omega) | simpa using h_)
               have hx62_0 := hcc62 2 _ rfl
               have hf62_0 := hfr62 2
               (try rw [show (k51).sz = 3 from rfl] at hx62_0)
               (try rw [show (k51).sz = 3 from rfl] at hf62_0)
               have HP62 := Kd.S_seg0 HH60.out (of_decide_eq_true hE) (by have h_ : ((ji34) : Int) < ((x6_2.length : Int) : Int) := of_decide_eq_true hE; first | exact h_ | (have e_ := (HN60.out); omega) | simpa using h_) (seg := [.slice Ao64 y184.length co64]) (j := 2) (show 3 ≤ 3 from by decide) (x' := (⟨(rd_T51 x6_2 (ji34)).f0, (rd_T51 x6_2 (ji34)).f1, y184⟩ : S51)) (k51_mkM _ _ _ (⟨(rd_T51 x6_2 (ji34)).f0, (rd_T51 x6_2 (ji34)).f1, y184⟩ : S51) HO186.out) (fun _ hk => hk)
               (try clear hcc62)
               (try clear hfr62)
               have HS62 := HP62.1
               rw [← Ny187.out] at HS62
               have HQ62 := Aside0.mk HS62
               obtain ⟨_, hgg62⟩ := Kd.R_typed hraw62 go60 rfl
               have GG62_ := Aside0.mk hgg62
               clear HP62 HS62 hgg62
               refine hK.out _ _ ⟨HS0_, HS1_, HS2_, ((HB.out.cell (World.block_lt_of_cell? w _ hw183_0)).trans hw183_0)⟩ (fun hHeld => ?_)
               clear hK K
               refine norm_ (a' := ?_) ?_ ?_
               rotate_left
               ·show Act.put _ (some 70) _ = _
                simp only [Act.put, List.setIfInBounds_toArray, List.set_cons_zero, List.set_cons_succ, i64_w, i32_w]
                rfl
               refine pureA 10 71 (bz 13 2047) rfl rfl (any_of HT_.out (by kernel_rfl)) ?_
               refine pureA 11 72 (bz 13 4095) rfl rfl (any_of HT_.out (by kernel_rfl)) ?_
               refine last_ (i := 12) (N := none) (bz 13 8191) rfl rfl (one_of HT_.out (by kernel_rfl)) (by decide) (fun K hK => ?_)
               refine skip_ (w1 := ?_) (by rfl) rfl ?_ ?_
               rotate_left
               ·go_simp
                rfl
               refine hK.out _ _ ?_
               clear hK K
               refine done_ (done_of HT_.out (by kernel_rfl)) ?_
               obtain ⟨i065, hi065, _, hsz65, _⟩ := info_parts info5
               obtain ⟨A65, hcut65, hA65, hC65⟩ := print_drop_of (P := Try.prog) (Value.int .u8) 0 22 5 .i64 Try.underlying22 hi065 hsz65 (some ad183) c_1 x1_2 1 (by omega) (of_decide_eq_true hE) HC_1.out
               have HR188 := Aside0.mk (Kd.C_of_reads (h1 := fun _ => rfl) (hA65 _ (Kd.reads_of_C HR_1.out)))
               have HC188 := Aside0.mk hC65
               (try clear hA65)
               (try clear hC65)
               (try clear hi065)
               (try clear hsz65)
               try go_wp2
               go_roundg k2
               case measure => have := HJ2.out; have := HK2.out; omega
               case rel => exact ⟨(x1_2.drop 1), (y187), _, _, (by first | rfl | (rw [List.length_drop]; done) | (rw [List.length_drop]; rfl) | (simp only [List.length_drop]; rfl)), H', ⟨by have := HJ2.out; have := HK2.out; omega⟩, ⟨HR188.out⟩, ⟨HC188.out⟩, ⟨by (with_reducible repeat (first | apply Kd.S_alloc | apply Kd.S_drewN | apply Kd.S_drew)); exact HQ62.out⟩, ⟨by repeat (first | (with_reducible first | exact HB.out | apply below_alloc | apply pw_below_drewN | apply below_drew1 | refine below_set ?_ GB60.out) | exact HB.out)⟩⟩
              ·rw [if_neg c57] at H
               exact absurd H (by simp)
             ·rw [if_neg c56] at H
              exact absurd H (by simp)
            ·rw [if_neg c55] at H
             exact absurd H (by simp)
          ·rw [if_neg c36] at H
           exact absurd H (by simp)
         ·rw [if_neg c35] at H
          exact absurd H (by simp)
      ·rw [if_neg c8] at H
       have c8b0 : decide (0 < (x1_2.length : Int)) = false := decide_eq_false c8
       have c8b1 : decide (0 < x1_2.length) = false := decide_eq_false (by omega)
       clear c8
       simp only [Option.some.injEq, Prod.mk.injEq] at H
       obtain ⟨rfl, rfl⟩ := H
       go_wp2
       go_ret2
       exact ⟨_, eE, by (with_reducible repeat (first | apply Kd.S_alloc | apply Kd.S_drewN | apply Kd.S_drew)); exact HO_6.out, lU⟩
end Go.Proofs.Ytbamdbdcglohmaa.PFnPatched
namespace Go.Proofs.Ytbamdbdcglohmaa.PFnPatched
open Go.RowKit Go.Proofs.YtbamdbdcglohmaaW.PrintWords Go.Proofs.YtbamdbdcglohmaaW.PrintLast Go.Proofs.YtbamdbdcglohmaaW.PrintMore
attribute [local go_sem] max2_int min2_int max_two min_two max_three min_three max_four min_four   -- for this text's walks alone
set_option linter.unusedVariables false
set_option linter.unusedSimpArgs false
mutual
def spec_PatchOf.j0 : Nat → List Int → List Int → Bool → Option ((List (S51)) × Bool)
 | 0, _, _, _ => none
 | k + 1, x0, x1, x20 => if x20 = true then (some (([] : List (S51)), false)) else (spec_PatchOf.l0 k x0 x1 ([] : List (S51)) 0)
def spec_PatchOf.l0 : Nat → List Int → List Int → List (S51) → Int → Option ((List (S51)) × Bool)
 | 0, _, _, _, _ => none
 | k + 1, x0, x1, x6, x7 => if x7 < (x1.length : Int) then (spec_PatchOf.l1 k x0 x1 x6 x7 0 0 (x0.length : Int) 0) else (some (x6, true))
def spec_PatchOf.l1 : Nat → List Int → List Int → List (S51) → Int → Int → Int → Int → Int → Option ((List (S51)) × Bool)
 | 0, _, _, _, _, _, _, _, _ => none
 | k + 1, x0, x1, x6, x7, x8, x9, x26, x27 => if x27 < x26 then (spec_PatchOf.l2 k x0 x1 x6 x7 x8 x9 x27 0 x26 x27) else (if x9 ≥ 4 then (if x6.length < 3518437208883 then (spec_PatchOf.l0 k x0 x1 (x6 ++ [(⟨x8, x9, ([] : List Int)⟩ : S51)]) (wrap64 (x7 + x9))) else (none)) else (if (x6.length : Int) > 0 then (if 0 ≤ (wrap64 ((x6.length : Int) - 1)) then (if (wrap64 ((x6.length : Int) - 1)) < (x6.length : Int) then (if (((rd_T51 x6 (wrap64 ((x6.length : Int) - 1))).f2).length : Int) > 0 then (if 0 ≤ x7 then (if x7 < (x1.length : Int) then (if ((rd_T51 x6 (wrap64 ((x6.length : Int) - 1))).f2).length < 140737488355328 then (spec_PatchOf.l0 k x0 x1 (x6.set ((wrap64 ((x6.length : Int) - 1)) : Int).toNat (⟨(rd_T51 x6 (wrap64 ((x6.length : Int) - 1))).f0, (rd_T51 x6 (wrap64 ((x6.length : Int) - 1))).f1, (((rd_T51 x6 (wrap64 ((x6.length : Int) - 1))).f2) ++ [rd x1 x7])⟩ : S51)) (wrap64 (x7 + 1))) else (none)) else (none)) else (none)) else (if 0 ≤ x7 then (if x7 < (x1.length : Int) then (if x6.length < 3518437208883 then (spec_PatchOf.l0 k x0 x1 (x6 ++ [(⟨0, 0, (([rd x1 x7] : List Int))⟩ : S51)]) (wrap64 (x7 + 1))) else (none)) else (none)) else (none))) else (none)) else (none)) else (if 0 ≤ x7 then (if x7 < (x1.length : Int) then (if x6.length < 3518437208883 then (spec_PatchOf.l0 k x0 x1 (x6 ++ [(⟨0, 0, (([rd x1 x7] : List Int))⟩ : S51)]) (wrap64 (x7 + 1))) else (none)) else (none)) else (none))))
def spec_PatchOf.l2 : Nat → List Int → List Int → List (S51) → Int → Int → Int → Int → Int → Int → Int → Option ((List (S51)) × Bool)
 | 0, _, _, _, _, _, _, _, _, _, _ => none
 | k + 1, x0, x1, x6, x7, x8, x9, x10, x11, x26, x27 => if (wrap64 (x10 + x11)) < (x0.length : Int) then (if (wrap64 (x7 + x11)) < (x1.length : Int) then (if 0 ≤ (wrap64 (x10 + x11)) then (if 0 ≤ (wrap64 (x7 + x11)) then (if (rd x0 (wrap64 (x10 + x11))) = (rd x1 (wrap64 (x7 + x11))) then (spec_PatchOf.l2 k x0 x1 x6 x7 x8 x9 x10 (wrap64 (x11 + 1)) x26 x27) else (if x11 > x9 then (spec_PatchOf.l1 k x0 x1 x6 x7 x10 x11 x26 (wrap64 (x27 + 1))) else (spec_PatchOf.l1 k x0 x1 x6 x7 x8 x9 x26 (wrap64 (x27 + 1))))) else (none)) else (none)) else (if x11 > x9 then (spec_PatchOf.l1 k x0 x1 x6 x7 x10 x11 x26 (wrap64 (x27 + 1))) else (spec_PatchOf.l1 k x0 x1 x6 x7 x8 x9 x26 (wrap64 (x27 + 1))))) else (if x11 > x9 then (spec_PatchOf.l1 k x0 x1 x6 x7 x10 x11 x26 (wrap64 (x27 + 1))) else (spec_PatchOf.l1 k x0 x1 x6 x7 x8 x9 x26 (wrap64 (x27 + 1))))
end
def spec_PatchOf.f (k : Nat) (l0 : List Int) (l1 : List Int) : Option ((List (S51)) × Bool) := if (l0.length : Int) > 400 then (spec_PatchOf.j0 k l0 l1 true) else (spec_PatchOf.j0 k l0 l1 (decide ((l1.length : Int) > 400)))
theorem spec_PatchOf.mono_l : ∀ k, (∀ y0 y1 y2, LeO (spec_PatchOf.j0 k y0 y1 y2) (spec_PatchOf.j0 (k + 1) y0 y1 y2)) ∧ (∀ y0 y1 y2 y3, LeO (spec_PatchOf.l0 k y0 y1 y2 y3) (spec_PatchOf.l0 (k + 1) y0 y1 y2 y3)) ∧ (∀ y0 y1 y2 y3 y4 y5 y6 y7, LeO (spec_PatchOf.l1 k y0 y1 y2 y3 y4 y5 y6 y7) (spec_PatchOf.l1 (k + 1) y0 y1 y2 y3 y4 y5 y6 y7)) ∧ (∀ y0 y1 y2 y3 y4 y5 y6 y7 y8 y9, LeO (spec_PatchOf.l2 k y0 y1 y2 y3 y4 y5 y6 y7 y8 y9) (spec_PatchOf.l2 (k + 1) y0 y1 y2 y3 y4 y5 y6 y7 y8 y9))
 | 0 => ⟨fun _ _ _ r h => by simp [spec_PatchOf.j0] at h, fun _ _ _ _ r h => by simp [spec_PatchOf.l0] at h, fun _ _ _ _ _ _ _ _ r h => by simp [spec_PatchOf.l1] at h, fun _ _ _ _ _ _ _ _ _ _ r h => by simp [spec_PatchOf.l2] at h⟩
 | k + 1 => by
  obtain ⟨ih0, ih1, ih2, ih3⟩ := spec_PatchOf.mono_l k
  refine ⟨?_, ?_, ?_, ?_⟩
  ·intro y0 y1 y2
   unfold spec_PatchOf.j0
   repeat' first
   | (with_reducible exact ih0 _ _ _)
   | (with_reducible exact ih1 _ _ _ _)
   | (with_reducible exact ih2 _ _ _ _ _ _ _ _)
   | (with_reducible exact ih3 _ _ _ _ _ _ _ _ _ _)
   | (with_reducible exact LeO.refl _)
   | (with_reducible exact LeO.none _)
   | (with_reducible refine LeO.ite ?_ ?_)
   | (with_reducible refine LeO.bind ?_ (fun _ => ?_))
   | exact ih0 _ _ _
   | exact ih1 _ _ _ _
   | exact ih2 _ _ _ _ _ _ _ _
   | exact ih3 _ _ _ _ _ _ _ _ _ _
   | exact LeO.none _
   | refine LeO.ite ?_ ?_
   | refine LeO.bind ?_ (fun _ => ?_)
  ·intro y0 y1 y2 y3
   unfold spec_PatchOf.l0
   repeat' first
   | (with_reducible exact ih0 _ _ _)
   | (with_reducible exact ih1 _ _ _ _)
   | (with_reducible exact ih2 _ _ _ _ _ _ _ _)
   | (with_reducible exact ih3 _ _ _ _ _ _ _ _ _ _)
   | (with_reducible exact LeO.refl _)
   | (with_reducible exact LeO.none _)
   | (with_reducible refine LeO.ite ?_ ?_)
   | (with_reducible refine LeO.bind ?_ (fun _ => ?_))
   | exact ih0 _ _ _
   | exact ih1 _ _ _ _
   | exact ih2 _ _ _ _ _ _ _ _
   | exact ih3 _ _ _ _ _ _ _ _ _ _
   | exact LeO.none _
   | refine LeO.ite ?_ ?_
   | refine LeO.bind ?_ (fun _ => ?_)
  ·intro y0 y1 y2 y3 y4 y5 y6 y7
   unfold spec_PatchOf.l1
   repeat' first
   | (with_reducible exact ih0 _ _ _)
   | (with_reducible exact ih1 _ _ _ _)
   | (with_reducible exact ih2 _ _ _ _ _ _ _ _)
   | (with_reducible exact ih3 _ _ _ _ _ _ _ _ _ _)
   | (with_reducible exact LeO.refl _)
   | (with_reducible exact LeO.none _)
   | (with_reducible refine LeO.ite ?_ ?_)
   | (with_reducible refine LeO.bind ?_ (fun _ => ?_))
   | exact ih0 _ _ _
   | exact ih1 _ _ _ _
   | exact ih2 _ _ _ _ _ _ _ _
   | exact ih3 _ _ _ _ _ _ _ _ _ _
   | exact LeO.none _
   | refine LeO.ite ?_ ?_
   | refine LeO.bind ?_ (fun _ => ?_)
  ·intro y0 y1 y2 y3 y4 y5 y6 y7 y8 y9
   unfold spec_PatchOf.l2
   repeat' first
   | (with_reducible exact ih0 _ _ _)
   | (with_reducible exact ih1 _ _ _ _)
   | (with_reducible exact ih2 _ _ _ _ _ _ _ _)
   | (with_reducible exact ih3 _ _ _ _ _ _ _ _ _ _)
   | (with_reducible exact LeO.refl _)
   | (with_reducible exact LeO.none _)
   | (with_reducible refine LeO.ite ?_ ?_)
   | (with_reducible refine LeO.bind ?_ (fun _ => ?_))
   | exact ih0 _ _ _
   | exact ih1 _ _ _ _
   | exact ih2 _ _ _ _ _ _ _ _
   | exact ih3 _ _ _ _ _ _ _ _ _ _
   | exact LeO.none _
   | refine LeO.ite ?_ ?_
   | refine LeO.bind ?_ (fun _ => ?_)
theorem spec_PatchOf.mono : ∀ a0 a1 k, LeO (spec_PatchOf.f k a0 a1) (spec_PatchOf.f (k + 1) a0 a1) := by
 intro a0 a1 k
 obtain ⟨ih0, ih1, ih2, ih3⟩ := spec_PatchOf.mono_l k
 unfold spec_PatchOf.f
 repeat' first
   | (with_reducible exact ih0 _ _ _)
   | (with_reducible exact ih1 _ _ _ _)
   | (with_reducible exact ih2 _ _ _ _ _ _ _ _)
   | (with_reducible exact ih3 _ _ _ _ _ _ _ _ _ _)
   | (with_reducible exact LeO.refl _)
   | (with_reducible exact LeO.none _)
   | (with_reducible refine LeO.ite ?_ ?_)
   | (with_reducible refine LeO.bind ?_ (fun _ => ?_))
   | exact ih0 _ _ _
   | exact ih1 _ _ _ _
   | exact ih2 _ _ _ _ _ _ _ _
   | exact ih3 _ _ _ _ _ _ _ _ _ _
   | exact LeO.none _
   | refine LeO.ite ?_ ?_
   | refine LeO.bind ?_ (fun _ => ?_)
def spec_PatchOf.T12 : Bool × List (List Nat × List Nat) := (true, [([], []), ([], []), ([0, 1], [0, 1]), ([], []), ([3], [3]), ([2, 4], [2, 4]), ([5], [5]), ([6], [6]), ([6], [6]), ([7, 8, 6], [6, 7, 8]), ([6], [6]), ([10, 6], [6, 10]), ([9, 11, 6], [6, 9, 11]), ([6, 12], [6, 12]), ([13, 6], [13]), ([14], [14]), ([14], [14]), ([14], [14]), ([16, 17, 14], [14, 16, 17]), ([15, 18, 14], [14, 15, 18]), ([19, 14], [14, 19]), ([14], [14]), ([14], [14]), ([14], [14]), ([22, 23, 14], [14, 22, 23]), ([21, 24, 14], [14, 21, 24]), ([25, 14], [14, 25]), ([20, 26, 14], [14, 20, 26]), ([14, 27], [14, 27])])
def spec_PatchOf.B12 : List Nat := [0, 0, 3, 0, 8, 31, 63, 127, 127, 511, 127, 1151, 4095, 8191, 16383, 32767, 32767, 32767, 229375, 524287, 1048575, 32767, 32767, 32767, 12615679, 31490047, 65044479, 134217727, 268435455]
theorem spec_PatchOf.tab12 : rtab .any (opsOf Try.f7 12) = spec_PatchOf.T12 := by kernel_rfl
theorem spec_PatchOf.bits12 : waitsOk spec_PatchOf.T12.2 spec_PatchOf.B12 = true := by kernel_rfl
def spec_PatchOf.T23 : Bool × List (List Nat × List Nat) := (true, [([], []), ([], []), ([1], [1]), ([], []), ([], []), ([4], [4]), ([3, 5], [3, 5]), ([6], [6]), ([7], [7]), ([], []), ([], []), ([9, 10], [9, 10]), ([11], [11]), ([12], [12]), ([8, 13], [8, 13]), ([0, 2, 0, 1, 2, 3, 4, 5, 6, 7, 8, 9, 10, 11, 12, 13, 14], [0, 2]), ([15, 0, 1, 2, 3, 4, 5, 6, 7, 8, 9, 10, 11, 12, 13, 14], [15]), ([16, 14, 14, 0, 1, 2, 3, 4, 5, 6, 7, 8, 9, 10, 11, 12, 13, 14], [14, 16])])
def spec_PatchOf.B23 : List Nat := [0, 0, 2, 0, 0, 16, 56, 120, 248, 0, 0, 1536, 3584, 7680, 16376, 32767, 65535, 131071]
theorem spec_PatchOf.tab23 : rtab .any (opsOf Try.f7 23) = spec_PatchOf.T23 := by kernel_rfl
theorem spec_PatchOf.bits23 : waitsOk spec_PatchOf.T23.2 spec_PatchOf.B23 = true := by kernel_rfl
set_option maxHeartbeats 8000000 in
set_option maxRecDepth 100000 in
theorem spec_PatchOf.calls (k : Nat) (A0 : Option Addr) (c0 : Nat) (l0 : List Int) (A1 : Option Addr) (c1 : Nat) (l1 : List Int) (r1 : List (S51)) (r2 : Bool) (w : World) (hr0 : Kd.C (Kd.int .u8) w A0 l0.length l0) (hc0 : l0.length ≤ c0) (hr1 : Kd.C (Kd.int .u8) w A1 l1.length l1) (hc1 : l1.length ≤ c1) (h : spec_PatchOf.f k l0 l1 = some (r1, r2)) :
  Calls Try.prog 7 #[.slice A0 l0.length c0, .slice A1 l1.length c1] w fun e w' => ∃ v0_ : Value, e = .returned (.tuple #[v0_, .bool r2]) ∧ Kd.S k51 51 w' w.heap.size (fun _ => True) v0_ r1 ∧ Below w.heap.size w w' := by
 have hu51 := Try.underlying51
 have HR0 := Aside0.mk hr0
 have HC0 := Aside0.mk hc0
 clear hr0 hc0
 have HR1 := Aside0.mk hr1
 have HC1 := Aside0.mk hc1
 clear hr1 hc1
 have HB := Aside0.mk (Below.refl w.heap.size w)
 have H : (if (l0.length : Int) > 400 then (spec_PatchOf.j0 k l0 l1 true) else (spec_PatchOf.j0 k l0 l1 (decide ((l1.length : Int) > 400)))) = some (r1, r2) := h
 clear h
 have HC3 := Aside0.mk H
 clear H
 go_enter Try.func7, Try.ntmps7
 go_upto_region 1 with (fail)
 go_cut [20] (fun v20 wc => ∃ (kq : Nat) (x20_2 : Bool), v20 = .bool x20_2 ∧ Aside0 (spec_PatchOf.j0 kq l0 l1 x20_2 = some (r1, r2)) ∧ Aside0 (kq ≤ k) ∧ Aside0 (Below w.heap.size w wc))
 case first =>
  have H := HC3.out
  clear HC3
  by_cases c4 : (l0.length : Int) > 400
  ·rw [if_pos c4] at H
   have c4b0 : decide (400 < (l0.length : Int)) = true := decide_eq_true c4
   have c4b1 : decide (400 < l0.length) = true := decide_eq_true (by omega)
   clear c4
   (first | rw [c4b0] | (simp only [i64_w, i32_w]; rw [c4b0]) | (rw [c4b2]; simp only [Bool.not_false, Bool.not_true]) | skip)
   have H' := Aside0.mk H
   clear H
   go_wp2
   go_meet
   case rel => exact ⟨_, (true), tE, H', ⟨by first | omega | exact Nat.le_refl _⟩, ⟨by repeat (first | (with_reducible first | exact HB.out | apply below_alloc | apply pw_below_drewN | apply below_drew1) | exact HB.out)⟩⟩
  ·rw [if_neg c4] at H
   have c4b0 : decide (400 < (l0.length : Int)) = false := decide_eq_false c4
   have c4b1 : decide (400 < l0.length) = false := decide_eq_false (by omega)
   clear c4
   (first | rw [c4b0] | (simp only [i64_w, i32_w]; rw [c4b0]) | (rw [c4b2]; simp only [Bool.not_false, Bool.not_true]) | skip)
   have H' := Aside0.mk H
   clear H
   go_wp2
   go_meet
   case rel => exact ⟨_, (decide ((l1.length : Int) > 400)), tE, H', ⟨by first | omega | exact Nat.le_refl _⟩, ⟨by repeat (first | (with_reducible first | exact HB.out | apply below_alloc | apply pw_below_drewN | apply below_drew1) | exact HB.out)⟩⟩
 case rest =>
  clear HC3
  try clear c1
  try clear p2
  try clear c4
  try clear c4b0
  try clear c4b1
  try clear c4b2
  obtain ⟨kq, x20_2, rfl, HA, HJ2, HB⟩ := hcut
  cases kq with
  | zero => exact absurd HA.out (by simp [spec_PatchOf.j0])
  | succ kj2 =>
   have H := HA.out
   clear HA
   simp only [spec_PatchOf.j0] at H
   by_cases c5 : x20_2 = true
   ·subst c5
    have H1 : (some (([] : List (S51)), false)) = some (r1, r2) := by rw [if_pos rfl] at H; exact H
    clear H
    have H := H1
    clear H1
    simp only [Option.some.injEq, Prod.mk.injEq] at H
    obtain ⟨rfl, rfl⟩ := H
    go_wp2
    go_ret2
    exact ⟨_, eE, by first | exact Kd.S_nil _ _ _ _ _ | exact Kd.N_nil _ _ _ _ _ | exact Kd.V_nil _ _ _ _ _ | exact Kd.Q_nil _ _ _ _ _ | exact Kd.R_nil _ _ _ _ _, lU⟩
   ·replace c5 := Bool.eq_false_iff.mpr c5
    subst c5
    have H1 : (spec_PatchOf.l0 kj2 l0 l1 ([] : List (S51)) 0) = some (r1, r2) := by rw [if_neg (show ¬ (false = true) by decide)] at H; exact H
    clear H
    have H := H1
    clear H1
    have H' := Aside0.mk H
    clear H
    go_wp2
    go_loopg [6, 7] kj2 (fun kq v6 v7 w' => ∃ (x6_2 : List (S51)) (x7_2 : Int), v7 = .int .i64 x7_2 ∧ Aside0 (spec_PatchOf.l0 kq l0 l1 x6_2 x7_2 = some (r1, r2)) ∧ Aside0 (kq ≤ kj2) ∧ Aside0 (Kd.S k51 51 w' w.heap.size (fun _ => True) v6 x6_2) ∧ Aside0 (Below w.heap.size w w'))
    case atStart => exact ⟨(([] : List (S51))), (0), tE, H', ⟨Nat.le_refl _⟩, ⟨by first | exact Kd.S_nil _ _ _ _ _ | exact Kd.N_nil _ _ _ _ _ | exact Kd.V_nil _ _ _ _ _ | exact Kd.Q_nil _ _ _ _ _ | exact Kd.R_nil _ _ _ _ _⟩, ⟨by repeat (first | (with_reducible first | exact HB.out | apply below_alloc | apply pw_below_drewN | apply below_drew1) | exact HB.out)⟩⟩
    case round =>
     clear H'
     try clear c1
     try clear p2
     try clear c4
     try clear c4b0
     try clear c4b1
     try clear c4b2
     try clear c5
     try clear p2
     obtain ⟨x6_2, x7_2, rfl, HA, HK2, HO_6, HB⟩ := hrel
     cases gk with
     | zero => exact absurd HA.out (by simp [spec_PatchOf.l0])
     | succ k2 =>
      have H := HA.out
      clear HA
      simp only [spec_PatchOf.l0] at H
      by_cases c6 : x7_2 < (l1.length : Int)
      ·rw [if_pos c6] at H
       have c6b0 : decide (x7_2 < (l1.length : Int)) = true := decide_eq_true c6
       clear c6
       have H' := Aside0.mk H
       clear H
       go_wp2
       go_loopg [8, 9, 27] k2 (fun kq v8 v9 v27 w' => ∃ (x8_3 : Int) (x9_3 : Int) (x27_3 : Int), v8 = .int .i64 x8_3 ∧ v9 = .int .i64 x9_3 ∧ v27 = .int .i64 x27_3 ∧ Aside0 (spec_PatchOf.l1 kq l0 l1 x6_2 x7_2 x8_3 x9_3 (l0.length : Int) x27_3 = some (r1, r2)) ∧ Aside0 (kq ≤ k2) ∧ Aside0 (Kd.S k51 51 w' w.heap.size (fun _ => True) u6 x6_2) ∧ Aside0 (Below w.heap.size w w'))
       case atStart => exact ⟨(0), (0), (0), tE, tE, tE, H', ⟨Nat.le_refl _⟩, ⟨by (with_reducible repeat (first | apply Kd.S_alloc | apply Kd.S_drewN | apply Kd.S_drew)); exact HO_6.out⟩, ⟨by repeat (first | (with_reducible first | exact HB.out | apply below_alloc | apply pw_below_drewN | apply below_drew1) | exact HB.out)⟩⟩
       case round =>
        clear H'
        try clear c1
        try clear p2
        try clear c4
        try clear c4b0
        try clear c4b1
        try clear c4b2
        try clear c5
        try clear c6
        try clear c6b0
        try clear p2
        obtain ⟨x8_3, x9_3, x27_3, rfl, rfl, rfl, HA, HK3, HO_6, HB⟩ := hrel
        cases gk with
        | zero => exact absurd HA.out (by simp [spec_PatchOf.l1])
        | succ k3 =>
         have H := HA.out
         clear HA
         simp only [spec_PatchOf.l1] at H
         by_cases c7 : x27_3 < (l0.length : Int)
         ·rw [if_pos c7] at H
          have c7b0 : decide (x27_3 < (l0.length : Int)) = true := decide_eq_true c7
          clear c7
          have H' := Aside0.mk H
          clear H
          go_wp2
          go_loopg [11] k3 (fun kq v11 w' => ∃ (x11_4 : Int), v11 = .int .i64 x11_4 ∧ Aside0 (spec_PatchOf.l2 kq l0 l1 x6_2 x7_2 x8_3 x9_3 x27_3 x11_4 (l0.length : Int) x27_3 = some (r1, r2)) ∧ Aside0 (kq ≤ k3) ∧ Aside0 (Kd.S k51 51 w' w.heap.size (fun _ => True) u6 x6_2) ∧ Aside0 (Below w.heap.size w w'))
          case atStart => exact ⟨(0), tE, H', ⟨Nat.le_refl _⟩, ⟨by (with_reducible repeat (first | apply Kd.S_alloc | apply Kd.S_drewN | apply Kd.S_drew)); exact HO_6.out⟩, ⟨by repeat (first | (with_reducible first | exact HB.out | apply below_alloc | apply pw_below_drewN | apply below_drew1) | exact HB.out)⟩⟩
          case round =>
           clear H'
           try clear c1
           try clear p2
           try clear c4
           try clear c4b0
           try clear c4b1
           try clear c4b2
           try clear c5
           try clear c6
           try clear c6b0
           try clear c7
           try clear c7b0
           try clear p2
           obtain ⟨x11_4, rfl, HA, HK4, HO_6, HB⟩ := hrel
           cases gk with
           | zero => exact absurd HA.out (by simp [spec_PatchOf.l2])
           | succ k4 =>
            have H := HA.out
            clear HA
            simp only [spec_PatchOf.l2] at H
            by_cases c8 : (wrap64 (x27_3 + x11_4)) < (l0.length : Int)
            ·rw [if_pos c8] at H
             have c8b0 : decide ((wrap64 (x27_3 + x11_4)) < (l0.length : Int)) = true := decide_eq_true c8
             clear c8
             by_cases c9 : (wrap64 (x7_2 + x11_4)) < (l1.length : Int)
             ·rw [if_pos c9] at H
              have c9b0 : decide ((wrap64 (x7_2 + x11_4)) < (l1.length : Int)) = true := decide_eq_true c9
              clear c9
              obtain ⟨ji10, hji10⟩ : ∃ j_ : Int, (wrap64 (x27_3 + x11_4)) = j_ := ⟨_, rfl⟩
              replace H : (if 0 ≤ (ji10) then (if 0 ≤ (wrap64 (x7_2 + x11_4)) then (if (rd l0 (ji10)) = (rd l1 (wrap64 (x7_2 + x11_4))) then (spec_PatchOf.l2 k4 l0 l1 x6_2 x7_2 x8_3 x9_3 x27_3 (wrap64 (x11_4 + 1)) (l0.length : Int) x27_3) else (if x11_4 > x9_3 then (spec_PatchOf.l1 k4 l0 l1 x6_2 x7_2 x27_3 x11_4 (l0.length : Int) (wrap64 (x27_3 + 1))) else (spec_PatchOf.l1 k4 l0 l1 x6_2 x7_2 x8_3 x9_3 (l0.length : Int) (wrap64 (x27_3 + 1))))) else (none)) else (none)) = some (r1, r2) := by first | (rw [hji10] at H; exact H) | (simp only [hji10] at H ⊢; exact H)
              (try rw [hji10] at c8b0)
              have hji10w : (IntKind.i64.wrap (x27_3 + x11_4)) = ji10 := (i64_w _).trans hji10
              by_cases c11 : 0 ≤ (ji10)
              ·rw [if_pos c11] at H
               have c11b0 : decide (0 ≤ (ji10)) = true := decide_eq_true c11
               clear c11
               obtain ⟨ji12, hji12⟩ : ∃ j_ : Int, (wrap64 (x7_2 + x11_4)) = j_ := ⟨_, rfl⟩
               replace H : (if 0 ≤ (ji12) then (if (rd l0 (ji10)) = (rd l1 (ji12)) then (spec_PatchOf.l2 k4 l0 l1 x6_2 x7_2 x8_3 x9_3 x27_3 (wrap64 (x11_4 + 1)) (l0.length : Int) x27_3) else (if x11_4 > x9_3 then (spec_PatchOf.l1 k4 l0 l1 x6_2 x7_2 x27_3 x11_4 (l0.length : Int) (wrap64 (x27_3 + 1))) else (spec_PatchOf.l1 k4 l0 l1 x6_2 x7_2 x8_3 x9_3 (l0.length : Int) (wrap64 (x27_3 + 1))))) else (none)) = some (r1, r2) := by first | (rw [hji12] at H; exact H) | (simp only [hji12] at H ⊢; exact H)
               (try rw [hji12] at c9b0)
               have hji12w : (IntKind.i64.wrap (x7_2 + x11_4)) = ji12 := (i64_w _).trans hji12
               by_cases c13 : 0 ≤ (ji12)
               ·rw [if_pos c13] at H
                have c13b0 : decide (0 ≤ (ji12)) = true := decide_eq_true c13
                clear c13
                by_cases c14 : (rd l0 (ji10)) = (rd l1 (ji12))
                ·rw [if_pos c14] at H
                 have c14b0 : ((rd l0 (ji10)) == (rd l1 (ji12))) = true := beq_iff_eq.mpr c14
                 have c14b1 : ((rd l0 (ji10)) != (rd l1 (ji12))) = false := bne_eq_false_iff_eq.mpr c14
                 clear c14
                 have H' := Aside0.mk H
                 clear H
                 try go_wp2
                 replace HO_6 := Aside0.mk (Kd.S_drew HO_6.out)
                 replace HB := Aside0.mk (below_drew1 HB.out)
                 have p189 : 0 ≤ ((ji10) : Int) := of_decide_eq_true hE
                 have q189 : (ji10) < (l0.length : Int) := of_decide_eq_true hE
                 obtain ⟨ad189, e189, hx189_0⟩ := Kd.at_int HR0.out (ji10) p189 q189
                 have hw189_0 := hx189_0
                 cases e189
                 replace hx189_0 := (HB.out.cell (World.block_lt_of_cell? w _ hx189_0)).trans hx189_0
                 replace p189 := eq_true p189
                 replace q189 := eq_true q189
                 have p190 : 0 ≤ ((ji12) : Int) := of_decide_eq_true hE
                 have q190 : (ji12) < (l1.length : Int) := of_decide_eq_true hE
                 obtain ⟨ad190, e190, hx190_0⟩ := Kd.at_int HR1.out (ji12) p190 q190
                 have hw190_0 := hx190_0
                 cases e190
                 replace hx190_0 := (HB.out.cell (World.block_lt_of_cell? w _ hx190_0)).trans hx190_0
                 replace p190 := eq_true p190
                 replace q190 := eq_true q190
                 refine start_ (n := 29) (S := fun w' => w'.cell? (ad189.add ((ji10)).toNat) = some (.int .u8 (rd l0 (ji10))) ∧ w'.cell? (ad190.add ((ji12)).toNat) = some (.int .u8 (rd l1 (ji12)))) (ds := []) #[false, false, false, false, false, false, false, false, false, false, false, false, false, false, false, false, false, false, false, false, false, false, false, false, false, false, false, false, false] (by kernel_rfl) rfl rfl ⟨((HB.out.cell (World.block_lt_of_cell? w _ hw189_0)).trans hw189_0), ((HB.out.cell (World.block_lt_of_cell? w _ hw190_0)).trans hw190_0)⟩ (fun hHeld => ?_); refine with_tabW spec_PatchOf.tab12 spec_PatchOf.bits12 (fun HT_ HW_ => ?_)
                 generalize wr.drew = w15 at HO_6 HB hx189_0 hx190_0 hHeld ⊢
                 refine pureA 0 30 (bz 29 1) rfl rfl (any_of HT_.out (by kernel_rfl)) ?_
                 refine pureA 1 31 (bz 29 3) rfl rfl (any_of HT_.out (by kernel_rfl)) ?_
                 refine pureA 2 32 (bz 29 7) rfl rfl (any_of HT_.out (by kernel_rfl)) ?_
                 refine pureA 3 33 (bz 29 15) rfl rfl (any_of HT_.out (by kernel_rfl)) ?_
                 refine pureA 4 34 (bz 29 31) rfl rfl (any_of HT_.out (by kernel_rfl)) ?_
                 refine pureA 5 35 (bz 29 63) rfl rfl (any_of HT_.out (by kernel_rfl)) ?_
                 refine pureA 6 36 (bz 29 127) rfl rfl (any_of HT_.out (by kernel_rfl)) ?_
                 refine pureA 7 37 (bz 29 255) rfl rfl (any_of HT_.out (by kernel_rfl)) ?_
                 refine pureA 8 38 (bz 29 511) rfl rfl (any_of HT_.out (by kernel_rfl)) ?_
                 refine pureA 9 39 (bz 29 1023) rfl rfl (any_of HT_.out (by kernel_rfl)) ?_
                 refine pureA 10 40 (bz 29 2047) rfl rfl (any_of HT_.out (by kernel_rfl)) ?_
                 refine pureA 11 41 (bz 29 4095) rfl rfl (any_of HT_.out (by kernel_rfl)) ?_
                 refine pureA 12 42 (bz 29 8191) rfl rfl (any_of HT_.out (by kernel_rfl)) ?_
                 refine pureA 13 43 (bz 29 16383) rfl rfl (any_of HT_.out (by kernel_rfl)) ?_
                 refine pureA 14 44 (bz 29 32767) rfl rfl (any_of HT_.out (by kernel_rfl)) ?_
                 refine pureA 15 45 (bz 29 65535) rfl rfl (any_of HT_.out (by kernel_rfl)) ?_
                 refine pureA 16 46 (bz 29 131071) rfl rfl (any_of HT_.out (by kernel_rfl)) ?_
                 refine pureA 17 47 (bz 29 262143) rfl rfl (any_of HT_.out (by kernel_rfl)) ?_
                 refine pureA 18 48 (bz 29 524287) rfl rfl (any_of HT_.out (by kernel_rfl)) ?_
                 refine pureA 19 49 (bz 29 1048575) rfl rfl (any_of HT_.out (by kernel_rfl)) ?_
                 refine pureA 21 51 (bz 29 3145727) rfl rfl (any_of HT_.out (by kernel_rfl)) ?_
                 refine pureA 22 52 (bz 29 7340031) rfl rfl (any_of HT_.out (by kernel_rfl)) ?_
                 refine pureA 23 53 (bz 29 15728639) rfl rfl (any_of HT_.out (by kernel_rfl)) ?_
                 refine pureA 24 54 (bz 29 32505855) rfl rfl (any_of HT_.out (by kernel_rfl)) ?_
                 refine pureA 25 55 (bz 29 66060287) rfl rfl (any_of HT_.out (by kernel_rfl)) ?_
                 refine takeA 20 50 (bz 29 67108863) rfl rfl (take_ofW HT_.out HW_.out (by kernel_rfl)) hHeld (by rintro w' ⟨s0, s1⟩; go_simp; with_reducible rfl) ?_
                 refine takeA 26 56 (bz 29 134217727) rfl rfl (take_ofW HT_.out HW_.out (by kernel_rfl)) hHeld (by rintro w' ⟨s0, s1⟩; go_simp; with_reducible rfl) ?_
                 refine pureA 27 57 (bz 29 268435455) rfl rfl (any_of HT_.out (by kernel_rfl)) ?_
                 refine pureA 28 58 (bz 29 536870911) rfl rfl (any_of HT_.out (by kernel_rfl)) ?_
                 refine done_ (done_of HT_.out (by kernel_rfl)) ?_
                 try go_wp2
                 go_roundg k4
                 case measure => have := HJ2.out; have := HK2.out; have := HK3.out; have := HK4.out; omega
                 case rel => exact ⟨(wrap64 (x11_4 + 1)), tE, H', ⟨by have := HJ2.out; have := HK2.out; have := HK3.out; have := HK4.out; omega⟩, ⟨by (with_reducible repeat (first | apply Kd.S_alloc | apply Kd.S_drewN | apply Kd.S_drew)); exact HO_6.out⟩, ⟨by repeat (first | (with_reducible first | exact HB.out | apply below_alloc | apply pw_below_drewN | apply below_drew1) | exact HB.out)⟩⟩
                ·rw [if_neg c14] at H
                 have c14b0 : ((rd l0 (ji10)) == (rd l1 (ji12))) = false := beq_eq_false_iff_ne.mpr c14
                 have c14b1 : ((rd l0 (ji10)) != (rd l1 (ji12))) = true := bne_iff_ne.mpr c14
                 by_cases c16 : x11_4 > x9_3
                 ·rw [if_pos c16] at H
                  have c16b0 : decide (x9_3 < x11_4) = true := decide_eq_true c16
                  clear c16
                  have H' := Aside0.mk H
                  clear H
                  try go_wp2
                  replace HO_6 := Aside0.mk (Kd.S_drew HO_6.out)
                  replace HB := Aside0.mk (below_drew1 HB.out)
                  have p189 : 0 ≤ ((ji10) : Int) := of_decide_eq_true hE
                  have q189 : (ji10) < (l0.length : Int) := of_decide_eq_true hE
                  obtain ⟨ad189, e189, hx189_0⟩ := Kd.at_int HR0.out (ji10) p189 q189
                  have hw189_0 := hx189_0
                  cases e189
                  replace hx189_0 := (HB.out.cell (World.block_lt_of_cell? w _ hx189_0)).trans hx189_0
                  replace p189 := eq_true p189
                  replace q189 := eq_true q189
                  have p190 : 0 ≤ ((ji12) : Int) := of_decide_eq_true hE
                  have q190 : (ji12) < (l1.length : Int) := of_decide_eq_true hE
                  obtain ⟨ad190, e190, hx190_0⟩ := Kd.at_int HR1.out (ji12) p190 q190
                  have hw190_0 := hx190_0
                  cases e190
                  replace hx190_0 := (HB.out.cell (World.block_lt_of_cell? w _ hx190_0)).trans hx190_0
                  replace p190 := eq_true p190
                  replace q190 := eq_true q190
                  refine start_ (n := 29) (S := fun w' => w'.cell? (ad189.add ((ji10)).toNat) = some (.int .u8 (rd l0 (ji10))) ∧ w'.cell? (ad190.add ((ji12)).toNat) = some (.int .u8 (rd l1 (ji12)))) (ds := []) #[false, false, false, false, false, false, false, false, false, false, false, false, false, false, false, false, false, false, false, false, false, false, false, false, false, false, false, false, false] (by kernel_rfl) rfl rfl ⟨((HB.out.cell (World.block_lt_of_cell? w _ hw189_0)).trans hw189_0), ((HB.out.cell (World.block_lt_of_cell? w _ hw190_0)).trans hw190_0)⟩ (fun hHeld => ?_); refine with_tabW spec_PatchOf.tab12 spec_PatchOf.bits12 (fun HT_ HW_ => ?_)
                  generalize wr.drew = w17 at HO_6 HB hx189_0 hx190_0 hHeld ⊢
                  refine pureA 0 30 (bz 29 1) rfl rfl (any_of HT_.out (by kernel_rfl)) ?_
                  refine pureA 1 31 (bz 29 3) rfl rfl (any_of HT_.out (by kernel_rfl)) ?_
                  refine pureA 2 32 (bz 29 7) rfl rfl (any_of HT_.out (by kernel_rfl)) ?_
                  refine pureA 3 33 (bz 29 15) rfl rfl (any_of HT_.out (by kernel_rfl)) ?_
                  refine pureA 4 34 (bz 29 31) rfl rfl (any_of HT_.out (by kernel_rfl)) ?_
                  refine pureA 5 35 (bz 29 63) rfl rfl (any_of HT_.out (by kernel_rfl)) ?_
                  refine pureA 6 36 (bz 29 127) rfl rfl (any_of HT_.out (by kernel_rfl)) ?_
                  refine pureA 7 37 (bz 29 255) rfl rfl (any_of HT_.out (by kernel_rfl)) ?_
                  refine pureA 8 38 (bz 29 511) rfl rfl (any_of HT_.out (by kernel_rfl)) ?_
                  refine pureA 9 39 (bz 29 1023) rfl rfl (any_of HT_.out (by kernel_rfl)) ?_
                  refine pureA 10 40 (bz 29 2047) rfl rfl (any_of HT_.out (by kernel_rfl)) ?_
                  refine pureA 11 41 (bz 29 4095) rfl rfl (any_of HT_.out (by kernel_rfl)) ?_
                  refine pureA 12 42 (bz 29 8191) rfl rfl (any_of HT_.out (by kernel_rfl)) ?_
                  refine pureA 13 43 (bz 29 16383) rfl rfl (any_of HT_.out (by kernel_rfl)) ?_
                  refine pureA 14 44 (bz 29 32767) rfl rfl (any_of HT_.out (by kernel_rfl)) ?_
                  refine pureA 15 45 (bz 29 65535) rfl rfl (any_of HT_.out (by kernel_rfl)) ?_
                  refine pureA 16 46 (bz 29 131071) rfl rfl (any_of HT_.out (by kernel_rfl)) ?_
                  refine pureA 17 47 (bz 29 262143) rfl rfl (any_of HT_.out (by kernel_rfl)) ?_
                  refine pureA 18 48 (bz 29 524287) rfl rfl (any_of HT_.out (by kernel_rfl)) ?_
                  refine pureA 19 49 (bz 29 1048575) rfl rfl (any_of HT_.out (by kernel_rfl)) ?_
                  refine pureA 21 51 (bz 29 3145727) rfl rfl (any_of HT_.out (by kernel_rfl)) ?_
                  refine pureA 22 52 (bz 29 7340031) rfl rfl (any_of HT_.out (by kernel_rfl)) ?_
                  refine pureA 23 53 (bz 29 15728639) rfl rfl (any_of HT_.out (by kernel_rfl)) ?_
                  refine pureA 24 54 (bz 29 32505855) rfl rfl (any_of HT_.out (by kernel_rfl)) ?_
                  refine pureA 25 55 (bz 29 66060287) rfl rfl (any_of HT_.out (by kernel_rfl)) ?_
                  refine takeA 20 50 (bz 29 67108863) rfl rfl (take_ofW HT_.out HW_.out (by kernel_rfl)) hHeld (by rintro w' ⟨s0, s1⟩; go_simp; with_reducible rfl) ?_
                  refine takeA 26 56 (bz 29 134217727) rfl rfl (take_ofW HT_.out HW_.out (by kernel_rfl)) hHeld (by rintro w' ⟨s0, s1⟩; go_simp; with_reducible rfl) ?_
                  refine pureA 27 57 (bz 29 268435455) rfl rfl (any_of HT_.out (by kernel_rfl)) ?_
                  refine pureA 28 58 (bz 29 536870911) rfl rfl (any_of HT_.out (by kernel_rfl)) ?_
                  refine done_ (done_of HT_.out (by kernel_rfl)) ?_
                  try go_wp2
                  go_roundg k4
                  case measure => have := HJ2.out; have := HK2.out; have := HK3.out; have := HK4.out; omega
                  case rel => exact ⟨(x27_3), (x11_4), (wrap64 (x27_3 + 1)), tE, tE, tE, H', ⟨by have := HJ2.out; have := HK2.out; have := HK3.out; have := HK4.out; omega⟩, ⟨by (with_reducible repeat (first | apply Kd.S_alloc | apply Kd.S_drewN | apply Kd.S_drew)); exact HO_6.out⟩, ⟨by repeat (first | (with_reducible first | exact HB.out | apply below_alloc | apply pw_below_drewN | apply below_drew1) | exact HB.out)⟩⟩
                 ·rw [if_neg c16] at H
                  have c16b0 : decide (x9_3 < x11_4) = false := decide_eq_false c16
                  clear c16
                  have H' := Aside0.mk H
                  clear H
                  try go_wp2
                  replace HO_6 := Aside0.mk (Kd.S_drew HO_6.out)
                  replace HB := Aside0.mk (below_drew1 HB.out)
                  have p189 : 0 ≤ ((ji10) : Int) := of_decide_eq_true hE
                  have q189 : (ji10) < (l0.length : Int) := of_decide_eq_true hE
                  obtain ⟨ad189, e189, hx189_0⟩ := Kd.at_int HR0.out (ji10) p189 q189
                  have hw189_0 := hx189_0
                  cases e189
                  replace hx189_0 := (HB.out.cell (World.block_lt_of_cell? w _ hx189_0)).trans hx189_0
                  replace p189 := eq_true p189
                  replace q189 := eq_true q189
                  have p190 : 0 ≤ ((ji12) : Int) := of_decide_eq_true hE
                  have q190 : (ji12) < (l1.length : Int) := of_decide_eq_true hE
                  obtain ⟨ad190, e190, hx190_0⟩ := Kd.at_int HR1.out (ji12) p190 q190
                  have hw190_0 := hx190_0
                  cases e190
                  replace hx190_0 := (HB.out.cell (World.block_lt_of_cell? w _ hx190_0)).trans hx190_0
                  replace p190 := eq_true p190
                  replace q190 := eq_true q190
                  refine start_ (n := 29) (S := fun w' => w'.cell? (ad189.add ((ji10)).toNat) = some (.int .u8 (rd l0 (ji10))) ∧ w'.cell? (ad190.add ((ji12)).toNat) = some (.int .u8 (rd l1 (ji12)))) (ds := []) #[false, false, false, false, false, false, false, false, false, false, false, false, false, false, false, false, false, false, false, false, false, false, false, false, false, false, false, false, false] (by kernel_rfl) rfl rfl ⟨((HB.out.cell (World.block_lt_of_cell? w _ hw189_0)).trans hw189_0), ((HB.out.cell (World.block_lt_of_cell? w _ hw190_0)).trans hw190_0)⟩ (fun hHeld => ?_); refine with_tabW spec_PatchOf.tab12 spec_PatchOf.bits12 (fun HT_ HW_ => ?_)
                  generalize wr.drew = w18 at HO_6 HB hx189_0 hx190_0 hHeld ⊢
                  refine pureA 0 30 (bz 29 1) rfl rfl (any_of HT_.out (by kernel_rfl)) ?_
                  refine pureA 1 31 (bz 29 3) rfl rfl (any_of HT_.out (by kernel_rfl)) ?_
                  refine pureA 2 32 (bz 29 7) rfl rfl (any_of HT_.out (by kernel_rfl)) ?_
                  refine pureA 3 33 (bz 29 15) rfl rfl (any_of HT_.out (by kernel_rfl)) ?_
                  refine pureA 4 34 (bz 29 31) rfl rfl (any_of HT_.out (by kernel_rfl)) ?_
                  refine pureA 5 35 (bz 29 63) rfl rfl (any_of HT_.out (by kernel_rfl)) ?_
                  refine pureA 6 36 (bz 29 127) rfl rfl (any_of HT_.out (by kernel_rfl)) ?_
                  refine pureA 7 37 (bz 29 255) rfl rfl (any_of HT_.out (by kernel_rfl)) ?_
                  refine pureA 8 38 (bz 29 511) rfl rfl (any_of HT_.out (by kernel_rfl)) ?_
                  refine pureA 9 39 (bz 29 1023) rfl rfl (any_of HT_.out (by kernel_rfl)) ?_
                  refine pureA 10 40 (bz 29 2047) rfl rfl (any_of HT_.out (by kernel_rfl)) ?_
                  refine pureA 11 41 (bz 29 4095) rfl rfl (any_of HT_.out (by kernel_rfl)) ?_
                  refine pureA 12 42 (bz 29 8191) rfl rfl (any_of HT_.out (by kernel_rfl)) ?_
                  refine pureA 13 43 (bz 29 16383) rfl rfl (any_of HT_.out (by kernel_rfl)) ?_
                  refine pureA 14 44 (bz 29 32767) rfl rfl (any_of HT_.out (by kernel_rfl)) ?_
                  refine pureA 15 45 (bz 29 65535) rfl rfl (any_of HT_.out (by kernel_rfl)) ?_
                  refine pureA 16 46 (bz 29 131071) rfl rfl (any_of HT_.out (by kernel_rfl)) ?_
                  refine pureA 17 47 (bz 29 262143) rfl rfl (any_of HT_.out (by kernel_rfl)) ?_
                  refine pureA 18 48 (bz 29 524287) rfl rfl (any_of HT_.out (by kernel_rfl)) ?_
                  refine pureA 19 49 (bz 29 1048575) rfl rfl (any_of HT_.out (by kernel_rfl)) ?_
                  refine pureA 21 51 (bz 29 3145727) rfl rfl (any_of HT_.out (by kernel_rfl)) ?_
                  refine pureA 22 52 (bz 29 7340031) rfl rfl (any_of HT_.out (by kernel_rfl)) ?_
                  refine pureA 23 53 (bz 29 15728639) rfl rfl (any_of HT_.out (by kernel_rfl)) ?_
                  refine pureA 24 54 (bz 29 32505855) rfl rfl (any_of HT_.out (by kernel_rfl)) ?_
                  refine pureA 25 55 (bz 29 66060287) rfl rfl (any_of HT_.out (by kernel_rfl)) ?_
                  refine takeA 20 50 (bz 29 67108863) rfl rfl (take_ofW HT_.out HW_.out (by kernel_rfl)) hHeld (by rintro w' ⟨s0, s1⟩; go_simp; with_reducible rfl) ?_
                  refine takeA 26 56 (bz 29 134217727) rfl rfl (take_ofW HT_.out HW_.out (by kernel_rfl)) hHeld (by rintro w' ⟨s0, s1⟩; go_simp; with_reducible rfl) ?_
                  refine pureA 27 57 (bz 29 268435455) rfl rfl (any_of HT_.out (by kernel_rfl)) ?_
                  refine pureA 28 58 (bz 29 536870911) rfl rfl (any_of HT_.out (by kernel_rfl)) ?_
                  refine done_ (done_of HT_.out (by kernel_rfl)) ?_
                  try go_wp2
                  go_roundg k4
                  case measure => have := HJ2.out; have := HK2.out; have := HK3.out; have := HK4.out; omega
                  case rel => exact ⟨(x8_3), (x9_3), (wrap64 (x27_3 + 1)), tE, tE, tE, H', ⟨by have := HJ2.out; have := HK2.out; have := HK3.out; have := HK4.out; omega⟩, ⟨by (with_reducible repeat (first | apply Kd.S_alloc | apply Kd.S_drewN | apply Kd.S_drew)); exact HO_6.out⟩, ⟨by repeat (first | (with_reducible first | exact HB.out | apply below_alloc | apply pw_below_drewN | apply below_drew1) | exact HB.out)⟩⟩
               ·rw [if_neg c13] at H
                exact absurd H (by simp)
              ·rw [if_neg c11] at H
               exact absurd H (by simp)
             ·rw [if_neg c9] at H
              have c9b0 : decide ((wrap64 (x7_2 + x11_4)) < (l1.length : Int)) = false := decide_eq_false c9
              clear c9
              by_cases c19 : x11_4 > x9_3
              ·rw [if_pos c19] at H
               have c19b0 : decide (x9_3 < x11_4) = true := decide_eq_true c19
               clear c19
               have H' := Aside0.mk H
               clear H
               try go_wp2
               replace HO_6 := Aside0.mk (Kd.S_drew HO_6.out)
               replace HB := Aside0.mk (below_drew1 HB.out)
               refine start_ (n := 29) (S := fun w' => True) (ds := []) #[false, false, false, false, false, false, false, false, false, false, false, false, false, false, false, false, false, false, false, false, false, false, false, false, false, false, false, false, false] (by kernel_rfl) rfl rfl trivial (fun hHeld => ?_); refine with_tabW spec_PatchOf.tab12 spec_PatchOf.bits12 (fun HT_ HW_ => ?_)
               generalize wr.drew = w20 at HO_6 HB hHeld ⊢
               refine pureA 0 30 (bz 29 1) rfl rfl (any_of HT_.out (by kernel_rfl)) ?_
               refine pureA 1 31 (bz 29 3) rfl rfl (any_of HT_.out (by kernel_rfl)) ?_
               refine pureA 2 32 (bz 29 7) rfl rfl (any_of HT_.out (by kernel_rfl)) ?_
               refine pureA 3 33 (bz 29 15) rfl rfl (any_of HT_.out (by kernel_rfl)) ?_
               refine pureA 4 34 (bz 29 31) rfl rfl (any_of HT_.out (by kernel_rfl)) ?_
               refine pureA 5 35 (bz 29 63) rfl rfl (any_of HT_.out (by kernel_rfl)) ?_
               refine pureA 6 36 (bz 29 127) rfl rfl (any_of HT_.out (by kernel_rfl)) ?_
               refine pureA 7 37 (bz 29 255) rfl rfl (any_of HT_.out (by kernel_rfl)) ?_
               refine pureA 8 38 (bz 29 511) rfl rfl (any_of HT_.out (by kernel_rfl)) ?_
               refine pureA 9 39 (bz 29 1023) rfl rfl (any_of HT_.out (by kernel_rfl)) ?_
               refine pureA 10 40 (bz 29 2047) rfl rfl (any_of HT_.out (by kernel_rfl)) ?_
               refine pureA 11 41 (bz 29 4095) rfl rfl (any_of HT_.out (by kernel_rfl)) ?_
               refine pureA 12 42 (bz 29 8191) rfl rfl (any_of HT_.out (by kernel_rfl)) ?_
               refine pureA 13 43 (bz 29 16383) rfl rfl (any_of HT_.out (by kernel_rfl)) ?_
               refine pureA 14 44 (bz 29 32767) rfl rfl (any_of HT_.out (by kernel_rfl)) ?_
               refine pureU 15 45 (bz 29 65535) rfl rfl (any_of HT_.out (by kernel_rfl)) ?_
               refine pureU 16 46 (bz 29 131071) rfl rfl (any_of HT_.out (by kernel_rfl)) ?_
               refine pureU 17 47 (bz 29 262143) rfl rfl (any_of HT_.out (by kernel_rfl)) ?_
               refine pureU 18 48 (bz 29 524287) rfl rfl (any_of HT_.out (by kernel_rfl)) ?_
               refine pureU 19 49 (bz 29 1048575) rfl rfl (any_of HT_.out (by kernel_rfl)) ?_
               refine pureU 20 50 (bz 29 2097151) rfl rfl (any_of HT_.out (by kernel_rfl)) ?_
               refine pureU 21 51 (bz 29 4194303) rfl rfl (any_of HT_.out (by kernel_rfl)) ?_
               refine pureU 22 52 (bz 29 8388607) rfl rfl (any_of HT_.out (by kernel_rfl)) ?_
               refine pureU 23 53 (bz 29 16777215) rfl rfl (any_of HT_.out (by kernel_rfl)) ?_
               refine pureU 24 54 (bz 29 33554431) rfl rfl (any_of HT_.out (by kernel_rfl)) ?_
               refine pureU 25 55 (bz 29 67108863) rfl rfl (any_of HT_.out (by kernel_rfl)) ?_
               refine pureU 26 56 (bz 29 134217727) rfl rfl (any_of HT_.out (by kernel_rfl)) ?_
               refine pureU 27 57 (bz 29 268435455) rfl rfl (any_of HT_.out (by kernel_rfl)) ?_
               refine pureA 28 58 (bz 29 536870911) rfl rfl (any_of HT_.out (by kernel_rfl)) ?_
               refine done_ (done_of HT_.out (by kernel_rfl)) ?_
               try go_wp2
               go_roundg k4
               case measure => have := HJ2.out; have := HK2.out; have := HK3.out; have := HK4.out; omega
               case rel => exact ⟨(x27_3), (x11_4), (wrap64 (x27_3 + 1)), tE, tE, tE, H', ⟨by have := HJ2.out; have := HK2.out; have := HK3.out; have := HK4.out; omega⟩, ⟨by (with_reducible repeat (first | apply Kd.S_alloc | apply Kd.S_drewN | apply Kd.S_drew)); exact HO_6.out⟩, ⟨by repeat (first | (with_reducible first | exact HB.out | apply below_alloc | apply pw_below_drewN | apply below_drew1) | exact HB.out)⟩⟩
              ·rw [if_neg c19] at H
               have c19b0 : decide (x9_3 < x11_4) = false := decide_eq_false c19
               clear c19
               have H' := Aside0.mk H
               clear H
               try go_wp2
               replace HO_6 := Aside0.mk (Kd.S_drew HO_6.out)
               replace HB := Aside0.mk (below_drew1 HB.out)
               refine start_ (n := 29) (S := fun w' => True) (ds := []) #[false, false, false, false, false, false, false, false, false, false, false, false, false, false, false, false, false, false, false, false, false, false, false, false, false, false, false, false, false] (by kernel_rfl) rfl rfl trivial (fun hHeld => ?_); refine with_tabW spec_PatchOf.tab12 spec_PatchOf.bits12 (fun HT_ HW_ => ?_)
               generalize wr.drew = w21 at HO_6 HB hHeld ⊢
               refine pureA 0 30 (bz 29 1) rfl rfl (any_of HT_.out (by kernel_rfl)) ?_
               refine pureA 1 31 (bz 29 3) rfl rfl (any_of HT_.out (by kernel_rfl)) ?_
               refine pureA 2 32 (bz 29 7) rfl rfl (any_of HT_.out (by kernel_rfl)) ?_
               refine pureA 3 33 (bz 29 15) rfl rfl (any_of HT_.out (by kernel_rfl)) ?_
               refine pureA 4 34 (bz 29 31) rfl rfl (any_of HT_.out (by kernel_rfl)) ?_
               refine pureA 5 35 (bz 29 63) rfl rfl (any_of HT_.out (by kernel_rfl)) ?_
               refine pureA 6 36 (bz 29 127) rfl rfl (any_of HT_.out (by kernel_rfl)) ?_
               refine pureA 7 37 (bz 29 255) rfl rfl (any_of HT_.out (by kernel_rfl)) ?_
               refine pureA 8 38 (bz 29 511) rfl rfl (any_of HT_.out (by kernel_rfl)) ?_
               refine pureA 9 39 (bz 29 1023) rfl rfl (any_of HT_.out (by kernel_rfl)) ?_
               refine pureA 10 40 (bz 29 2047) rfl rfl (any_of HT_.out (by kernel_rfl)) ?_
               refine pureA 11 41 (bz 29 4095) rfl rfl (any_of HT_.out (by kernel_rfl)) ?_
               refine pureA 12 42 (bz 29 8191) rfl rfl (any_of HT_.out (by kernel_rfl)) ?_
               refine pureA 13 43 (bz 29 16383) rfl rfl (any_of HT_.out (by kernel_rfl)) ?_
               refine pureA 14 44 (bz 29 32767) rfl rfl (any_of HT_.out (by kernel_rfl)) ?_
               refine pureU 15 45 (bz 29 65535) rfl rfl (any_of HT_.out (by kernel_rfl)) ?_
               refine pureU 16 46 (bz 29 131071) rfl rfl (any_of HT_.out (by kernel_rfl)) ?_
               refine pureU 17 47 (bz 29 262143) rfl rfl (any_of HT_.out (by kernel_rfl)) ?_
               refine pureU 18 48 (bz 29 524287) rfl rfl (any_of HT_.out (by kernel_rfl)) ?_
               refine pureU 19 49 (bz 29 1048575) rfl rfl (any_of HT_.out (by kernel_rfl)) ?_
               refine pureU 20 50 (bz 29 2097151) rfl rfl (any_of HT_.out (by kernel_rfl)) ?_
               refine pureU 21 51 (bz 29 4194303) rfl rfl (any_of HT_.out (by kernel_rfl)) ?_
               refine pureU 22 52 (bz 29 8388607) rfl rfl (any_of HT_.out (by kernel_rfl)) ?_
               refine pureU 23 53 (bz 29 16777215) rfl rfl (any_of HT_.out (by kernel_rfl)) ?_
               refine pureU 24 54 (bz 29 33554431) rfl rfl (any_of HT_.out (by kernel_rfl)) ?_
               refine pureU 25 55 (bz 29 67108863) rfl rfl (any_of HT_.out (by kernel_rfl)) ?_
               refine pureU 26 56 (bz 29 134217727) rfl rfl (any_of HT_.out (by kernel_rfl)) ?_
               refine pureU 27 57 (bz 29 268435455) rfl rfl (any_of HT_.out (by kernel_rfl)) ?_
               refine pureA 28 58 (bz 29 536870911) rfl rfl (any_of HT_.out (by kernel_rfl)) ?_
               refine done_ (done_of HT_.out (by kernel_rfl)) ?_
               try go_wp2
               go_roundg k4
               case measure => have := HJ2.out; have := HK2.out; have := HK3.out; have := HK4.out; omega
               case rel => exact ⟨(x8_3), (x9_3), (wrap64 (x27_3 + 1)), tE, tE, tE, H', ⟨by have := HJ2.out; have := HK2.out; have := HK3.out; have := HK4.out; omega⟩, ⟨by (with_reducible repeat (first | apply Kd.S_alloc | apply Kd.S_drewN | apply Kd.S_drew)); exact HO_6.out⟩, ⟨by repeat (first | (with_reducible first | exact HB.out | apply below_alloc | apply pw_below_drewN | apply below_drew1) | exact HB.out)⟩⟩
            ·rw [if_neg c8] at H
             have c8b0 : decide ((wrap64 (x27_3 + x11_4)) < (l0.length : Int)) = false := decide_eq_false c8
             clear c8
             by_cases c22 : x11_4 > x9_3
             ·rw [if_pos c22] at H
              have c22b0 : decide (x9_3 < x11_4) = true := decide_eq_true c22
              clear c22
              have H' := Aside0.mk H
              clear H
              try go_wp2
              replace HO_6 := Aside0.mk (Kd.S_drew HO_6.out)
              replace HB := Aside0.mk (below_drew1 HB.out)
              refine start_ (n := 29) (S := fun w' => True) (ds := []) #[false, false, false, false, false, false, false, false, false, false, false, false, false, false, false, false, false, false, false, false, false, false, false, false, false, false, false, false, false] (by kernel_rfl) rfl rfl trivial (fun hHeld => ?_); refine with_tabW spec_PatchOf.tab12 spec_PatchOf.bits12 (fun HT_ HW_ => ?_)
              generalize wr.drew = w23 at HO_6 HB hHeld ⊢
              refine pureA 0 30 (bz 29 1) rfl rfl (any_of HT_.out (by kernel_rfl)) ?_
              refine pureA 1 31 (bz 29 3) rfl rfl (any_of HT_.out (by kernel_rfl)) ?_
              refine pureA 2 32 (bz 29 7) rfl rfl (any_of HT_.out (by kernel_rfl)) ?_
              refine pureA 3 33 (bz 29 15) rfl rfl (any_of HT_.out (by kernel_rfl)) ?_
              refine pureA 4 34 (bz 29 31) rfl rfl (any_of HT_.out (by kernel_rfl)) ?_
              refine pureA 5 35 (bz 29 63) rfl rfl (any_of HT_.out (by kernel_rfl)) ?_
              refine pureA 6 36 (bz 29 127) rfl rfl (any_of HT_.out (by kernel_rfl)) ?_
              refine pureU 7 37 (bz 29 255) rfl rfl (any_of HT_.out (by kernel_rfl)) ?_
              refine pureU 8 38 (bz 29 511) rfl rfl (any_of HT_.out (by kernel_rfl)) ?_
              refine pureU 9 39 (bz 29 1023) rfl rfl (any_of HT_.out (by kernel_rfl)) ?_
              refine pureU 10 40 (bz 29 2047) rfl rfl (any_of HT_.out (by kernel_rfl)) ?_
              refine pureU 11 41 (bz 29 4095) rfl rfl (any_of HT_.out (by kernel_rfl)) ?_
              refine pureU 12 42 (bz 29 8191) rfl rfl (any_of HT_.out (by kernel_rfl)) ?_
              refine pureA 13 43 (bz 29 16383) rfl rfl (any_of HT_.out (by kernel_rfl)) ?_
              refine pureA 14 44 (bz 29 32767) rfl rfl (any_of HT_.out (by kernel_rfl)) ?_
              refine pureU 15 45 (bz 29 65535) rfl rfl (any_of HT_.out (by kernel_rfl)) ?_
              refine pureU 16 46 (bz 29 131071) rfl rfl (any_of HT_.out (by kernel_rfl)) ?_
              refine pureU 17 47 (bz 29 262143) rfl rfl (any_of HT_.out (by kernel_rfl)) ?_
              refine pureU 18 48 (bz 29 524287) rfl rfl (any_of HT_.out (by kernel_rfl)) ?_
              refine pureU 19 49 (bz 29 1048575) rfl rfl (any_of HT_.out (by kernel_rfl)) ?_
              refine pureU 20 50 (bz 29 2097151) rfl rfl (any_of HT_.out (by kernel_rfl)) ?_
              refine pureU 21 51 (bz 29 4194303) rfl rfl (any_of HT_.out (by kernel_rfl)) ?_
              refine pureU 22 52 (bz 29 8388607) rfl rfl (any_of HT_.out (by kernel_rfl)) ?_
              refine pureU 23 53 (bz 29 16777215) rfl rfl (any_of HT_.out (by kernel_rfl)) ?_
              refine pureU 24 54 (bz 29 33554431) rfl rfl (any_of HT_.out (by kernel_rfl)) ?_
              refine pureU 25 55 (bz 29 67108863) rfl rfl (any_of HT_.out (by kernel_rfl)) ?_
              refine pureU 26 56 (bz 29 134217727) rfl rfl (any_of HT_.out (by kernel_rfl)) ?_
              refine pureU 27 57 (bz 29 268435455) rfl rfl (any_of HT_.out (by kernel_rfl)) ?_
              refine pureA 28 58 (bz 29 536870911) rfl rfl (any_of HT_.out (by kernel_rfl)) ?_
              refine done_ (done_of HT_.out (by kernel_rfl)) ?_
              try go_wp2
              go_roundg k4
              case measure => have := HJ2.out; have := HK2.out; have := HK3.out; have := HK4.out; omega
              case rel => exact ⟨(x27_3), (x11_4), (wrap64 (x27_3 + 1)), tE, tE, tE, H', ⟨by have := HJ2.out; have := HK2.out; have := HK3.out; have := HK4.out; omega⟩, ⟨by (with_reducible repeat (first | apply Kd.S_alloc | apply Kd.S_drewN | apply Kd.S_drew)); exact HO_6.out⟩, ⟨by repeat (first | (with_reducible first | exact HB.out | apply below_alloc | apply pw_below_drewN | apply below_drew1) | exact HB.out)⟩⟩
             ·rw [if_neg c22] at H
              have c22b0 : decide (x9_3 < x11_4) = false := decide_eq_false c22
              clear c22
              have H' := Aside0.mk H
              clear H
              try go_wp2
              replace HO_6 := Aside0.mk (Kd.S_drew HO_6.out)
              replace HB := Aside0.mk (below_drew1 HB.out)
              refine start_ (n := 29) (S := fun w' => True) (ds := []) #[false, false, false, false, false, false, false, false, false, false, false, false, false, false, false, false, false, false, false, false, false, false, false, false, false, false, false, false, false] (by kernel_rfl) rfl rfl trivial (fun hHeld => ?_); refine with_tabW spec_PatchOf.tab12 spec_PatchOf.bits12 (fun HT_ HW_ => ?_)
              generalize wr.drew = w24 at HO_6 HB hHeld ⊢
              refine pureA 0 30 (bz 29 1) rfl rfl (any_of HT_.out (by kernel_rfl)) ?_
              refine pureA 1 31 (bz 29 3) rfl rfl (any_of HT_.out (by kernel_rfl)) ?_
              refine pureA 2 32 (bz 29 7) rfl rfl (any_of HT_.out (by kernel_rfl)) ?_
              refine pureA 3 33 (bz 29 15) rfl rfl (any_of HT_.out (by kernel_rfl)) ?_
              refine pureA 4 34 (bz 29 31) rfl rfl (any_of HT_.out (by kernel_rfl)) ?_
              refine pureA 5 35 (bz 29 63) rfl rfl (any_of HT_.out (by kernel_rfl)) ?_
              refine pureA 6 36 (bz 29 127) rfl rfl (any_of HT_.out (by kernel_rfl)) ?_
              refine pureU 7 37 (bz 29 255) rfl rfl (any_of HT_.out (by kernel_rfl)) ?_
              refine pureU 8 38 (bz 29 511) rfl rfl (any_of HT_.out (by kernel_rfl)) ?_
              refine pureU 9 39 (bz 29 1023) rfl rfl (any_of HT_.out (by kernel_rfl)) ?_
              refine pureU 10 40 (bz 29 2047) rfl rfl (any_of HT_.out (by kernel_rfl)) ?_
              refine pureU 11 41 (bz 29 4095) rfl rfl (any_of HT_.out (by kernel_rfl)) ?_
              refine pureU 12 42 (bz 29 8191) rfl rfl (any_of HT_.out (by kernel_rfl)) ?_
              refine pureA 13 43 (bz 29 16383) rfl rfl (any_of HT_.out (by kernel_rfl)) ?_
              refine pureA 14 44 (bz 29 32767) rfl rfl (any_of HT_.out (by kernel_rfl)) ?_
              refine pureU 15 45 (bz 29 65535) rfl rfl (any_of HT_.out (by kernel_rfl)) ?_
              refine pureU 16 46 (bz 29 131071) rfl rfl (any_of HT_.out (by kernel_rfl)) ?_
              refine pureU 17 47 (bz 29 262143) rfl rfl (any_of HT_.out (by kernel_rfl)) ?_
              refine pureU 18 48 (bz 29 524287) rfl rfl (any_of HT_.out (by kernel_rfl)) ?_
              refine pureU 19 49 (bz 29 1048575) rfl rfl (any_of HT_.out (by kernel_rfl)) ?_
              refine pureU 20 50 (bz 29 2097151) rfl rfl (any_of HT_.out (by kernel_rfl)) ?_
              refine pureU 21 51 (bz 29 4194303) rfl rfl (any_of HT_.out (by kernel_rfl)) ?_
              refine pureU 22 52 (bz 29 8388607) rfl rfl (any_of HT_.out (by kernel_rfl)) ?_
              refine pureU 23 53 (bz 29 16777215) rfl rfl (any_of HT_.out (by kernel_rfl)) ?_
              refine pureU 24 54 (bz 29 33554431) rfl rfl (any_of HT_.out (by kernel_rfl)) ?_
              refine pureU 25 55 (bz 29 67108863) rfl rfl (any_of HT_.out (by kernel_rfl)) ?_
              refine pureU 26 56 (bz 29 134217727) rfl rfl (any_of HT_.out (by kernel_rfl)) ?_
              refine pureU 27 57 (bz 29 268435455) rfl rfl (any_of HT_.out (by kernel_rfl)) ?_
              refine pureA 28 58 (bz 29 536870911) rfl rfl (any_of HT_.out (by kernel_rfl)) ?_
              refine done_ (done_of HT_.out (by kernel_rfl)) ?_
              try go_wp2
              go_roundg k4
              case measure => have := HJ2.out; have := HK2.out; have := HK3.out; have := HK4.out; omega
              case rel => exact ⟨(x8_3), (x9_3), (wrap64 (x27_3 + 1)), tE, tE, tE, H', ⟨by have := HJ2.out; have := HK2.out; have := HK3.out; have := HK4.out; omega⟩, ⟨by (with_reducible repeat (first | apply Kd.S_alloc | apply Kd.S_drewN | apply Kd.S_drew)); exact HO_6.out⟩, ⟨by repeat (first | (with_reducible first | exact HB.out | apply below_alloc | apply pw_below_drewN | apply below_drew1) | exact HB.out)⟩⟩
         ·rw [if_neg c7] at H
          have c7b0 : decide (x27_3 < (l0.length : Int)) = false := decide_eq_false c7
          clear c7
          by_cases c25 : x9_3 ≥ 4
          ·rw [if_pos c25] at H
           have c25b0 : decide (4 ≤ x9_3) = true := decide_eq_true c25
           clear c25
           by_cases c26 : x6_2.length < 3518437208883
           ·rw [if_pos c26] at H
            have LMc26 := Aside0.mk c26
            clear c26
            obtain ⟨y191, hy191⟩ : ∃ y_ : List (S51), y_ = (x6_2 ++ [(⟨x8_3, x9_3, ([] : List Int)⟩ : S51)]) := ⟨_, rfl⟩
            replace H : (spec_PatchOf.l0 k3 l0 l1 y191 (wrap64 (x7_2 + x9_3))) = some (r1, r2) := by first | (rw [hy191]; with_reducible exact H) | (have H2_ := (Option.bind_some _ _).symm.trans H; rw [hy191]; with_reducible exact H2_) | (have H2_ := (Option.bind_some _ _).symm.trans H; with_reducible exact H2_) | with_reducible exact H | (rw [hy191]; exact H) | exact H
            have Ny191 := Aside0.mk hy191
            clear hy191
            have H' := Aside0.mk H
            clear H
            go_wp2_with (first | ((with_reducible refine gate_builtin (b := .append) (xs := #[.tmp 69, .tmp 73]) rfl ?_); (try (refine gate_guard (by rfl) ?_; dsimp only)); at_builtin; refine Kd.S_append k51 (w0 := w) w.heap.size rfl (.tmp 69) (.tmp 73) 25 51 (.agg #[(.int .i64 0), (.int .i64 0), (.slice none 0 0)]) 40 rfl Try.underlying25 info51 rfl (by decide) (by omega) u6 x6_2 (⟨x8_3, x9_3, ([] : List Int)⟩ : S51) [.int .i64 x8_3, .int .i64 x9_3, .slice none 0 0] (fun _ => True) (fun _ => False) rfl rfl ?aP (fun k_ hk_ => hk_.elim) ?aF ?aO ?aB ?aS ?aL ?_; (case aP => exact k51_mkM _ _ _ (⟨x8_3, x9_3, ([] : List Int)⟩ : S51) (Kd.R_nil _ _ _ _ _)); (case aB => exact (lU)); (case aF => exact (fun _ _ => trivial)); (case aO => exact (by (with_reducible repeat (first | apply Kd.S_alloc | apply Kd.S_drewN | apply Kd.S_drew)); exact Kd.S_mono HO_6.out (fun k_ hk => ⟨trivial, fun e_ => e_⟩))); (case aS => exact (below_size (lU))); (case aL => have := LMc26.out; omega); intro v192 w27 ho hb hg hat; rw [← Ny191.out] at ho; replace HB := Aside0.mk hb; have HO193 := Aside0.mk ho; clear HO_6; clear ho hb hg hat))
            go_roundg k3
            case measure => have := HJ2.out; have := HK2.out; have := HK3.out; omega
            case rel => exact ⟨(y191), (wrap64 (x7_2 + x9_3)), tE, H', ⟨by have := HJ2.out; have := HK2.out; have := HK3.out; omega⟩, ⟨by (with_reducible repeat (first | apply Kd.S_alloc | apply Kd.S_drewN | apply Kd.S_drew)); exact HO193.out⟩, ⟨by repeat (first | (with_reducible first | exact HB.out | apply below_alloc | apply pw_below_drewN | apply below_drew1) | exact HB.out)⟩⟩
           ·rw [if_neg c26] at H
            exact absurd H (by simp)
          ·rw [if_neg c25] at H
           have c25b0 : decide (4 ≤ x9_3) = false := decide_eq_false c25
           clear c25
           by_cases c28 : (x6_2.length : Int) > 0
           ·rw [if_pos c28] at H
            have c28b0 : decide (0 < (x6_2.length : Int)) = true := decide_eq_true c28
            have c28b1 : decide (0 < x6_2.length) = true := decide_eq_true (by omega)
            clear c28
            obtain ⟨ji29, hji29⟩ : ∃ j_ : Int, (wrap64 ((x6_2.length : Int) - 1)) = j_ := ⟨_, rfl⟩
            replace H : (if 0 ≤ (ji29) then (if (ji29) < (x6_2.length : Int) then (if (((rd_T51 x6_2 (ji29)).f2).length : Int) > 0 then (if 0 ≤ x7_2 then (if x7_2 < (l1.length : Int) then (if ((rd_T51 x6_2 (ji29)).f2).length < 140737488355328 then (spec_PatchOf.l0 k3 l0 l1 (x6_2.set ((ji29) : Int).toNat (⟨(rd_T51 x6_2 (ji29)).f0, (rd_T51 x6_2 (ji29)).f1, (((rd_T51 x6_2 (ji29)).f2) ++ [rd l1 x7_2])⟩ : S51)) (wrap64 (x7_2 + 1))) else (none)) else (none)) else (none)) else (if 0 ≤ x7_2 then (if x7_2 < (l1.length : Int) then (if x6_2.length < 3518437208883 then (spec_PatchOf.l0 k3 l0 l1 (x6_2 ++ [(⟨0, 0, (([rd l1 x7_2] : List Int))⟩ : S51)]) (wrap64 (x7_2 + 1))) else (none)) else (none)) else (none))) else (none)) else (none)) = some (r1, r2) := by first | (rw [hji29] at H; exact H) | (simp only [hji29] at H ⊢; exact H)
            have hji29w : (IntKind.i64.wrap ((x6_2.length : Int) - 1)) = ji29 := (i64_w _).trans hji29
            by_cases c30 : 0 ≤ (ji29)
            ·rw [if_pos c30] at H
             have c30b0 : decide (0 ≤ (ji29)) = true := decide_eq_true c30
             clear c30
             by_cases c31 : (ji29) < (x6_2.length : Int)
             ·rw [if_pos c31] at H
              have c31b0 : decide ((ji29) < (x6_2.length : Int)) = true := decide_eq_true c31
              clear c31
              by_cases c32 : (((rd_T51 x6_2 (ji29)).f2).length : Int) > 0
              ·rw [if_pos c32] at H
               have c32b0 : decide (0 < (((rd_T51 x6_2 (ji29)).f2).length : Int)) = true := decide_eq_true c32
               have c32b1 : decide (0 < ((rd_T51 x6_2 (ji29)).f2).length) = true := decide_eq_true (by omega)
               clear c32
               by_cases c33 : 0 ≤ x7_2
               ·rw [if_pos c33] at H
                have c33b0 : decide (0 ≤ x7_2) = true := decide_eq_true c33
                clear c33
                by_cases c34 : x7_2 < (l1.length : Int)
                ·rw [if_pos c34] at H
                 have c34b0 : decide (x7_2 < (l1.length : Int)) = true := decide_eq_true c34
                 clear c34
                 by_cases c35 : ((rd_T51 x6_2 (ji29)).f2).length < 140737488355328
                 ·rw [if_pos c35] at H
                  have LMc35 := Aside0.mk c35
                  clear c35
                  obtain ⟨y197, hy197⟩ : ∃ y_ : List Int, y_ = (((rd_T51 x6_2 (ji29)).f2) ++ [rd l1 x7_2]) := ⟨_, rfl⟩
                  replace H : (spec_PatchOf.l0 k3 l0 l1 (x6_2.set ((ji29) : Int).toNat (⟨(rd_T51 x6_2 (ji29)).f0, (rd_T51 x6_2 (ji29)).f1, y197⟩ : S51)) (wrap64 (x7_2 + 1))) = some (r1, r2) := by first | (rw [hy197]; with_reducible exact H) | (have H2_ := (Option.bind_some _ _).symm.trans H; rw [hy197]; with_reducible exact H2_) | (have H2_ := (Option.bind_some _ _).symm.trans H; with_reducible exact H2_) | with_reducible exact H | (rw [hy197]; exact H) | exact H
                  have Ny197 := Aside0.mk hy197
                  clear hy197
                  obtain ⟨y200, hy200⟩ : ∃ y_ : List (S51), y_ = (x6_2.set ((ji29) : Int).toNat (⟨(rd_T51 x6_2 (ji29)).f0, (rd_T51 x6_2 (ji29)).f1, y197⟩ : S51)) := ⟨_, rfl⟩
                  replace H : (spec_PatchOf.l0 k3 l0 l1 y200 (wrap64 (x7_2 + 1))) = some (r1, r2) := by first | (rw [hy200]; with_reducible exact H) | (have H2_ := (Option.bind_some _ _).symm.trans H; rw [hy200]; with_reducible exact H2_) | (have H2_ := (Option.bind_some _ _).symm.trans H; with_reducible exact H2_) | with_reducible exact H | (rw [hy200]; exact H) | exact H
                  have Ny200 := Aside0.mk hy200
                  clear hy200
                  have H' := Aside0.mk H
                  clear H
                  obtain ⟨Ao37, co37, eo37⟩ := Kd.S_slice HO_6.out
                  subst eo37
                  have p194 : 0 ≤ ((ji29) : Int) := of_decide_eq_true hE
                  have q194 : (ji29) < (x6_2.length : Int) := of_decide_eq_true hE
                  obtain ⟨ad194, A194_2, c194_2, e194, hx194_0, hx194_1, hx194_2, hl194_2, hi194_2⟩ := at_T51 (Kd.S_reads' HO_6.out).2.2 (ji29) p194 q194
                  cases e194
                  obtain ⟨ce194, hce194, hMe194, hcc194⟩ := Kd.S_get HO_6.out z51 (ji29) p194 (by first | exact q194 | exact of_decide_eq_true hE | (have e_ := (Kd.S_reads' HO_6.out).1; omega))
                  obtain ⟨ve194_2, rfl, ge194_2⟩ := k51_openM hMe194
                  have hv194_2 := hcc194 2 _ rfl
                  rw [add_field _ _ 2 (by omega)] at hv194_2
                  replace hv194_2 := Option.some.inj (hv194_2.symm.trans hx194_2)
                  rw [hv194_2] at ge194_2
                  have HL194_2 := Aside0.mk (show Kd.R (Kd.int .u8) 5 _ _ _ _ ((rd_T51 x6_2 (ji29)).f2) from ge194_2)
                  clear hv194_2 ge194_2
                  have HX194_2 := Aside0.mk hx194_2
                  (try clear hcc194)
                  (try clear hce194)
                  have HR194_2 := Aside0.mk hi194_2
                  have HC194_2 := Aside0.mk hl194_2
                  clear hi194_2 hl194_2
                  replace p194 := eq_true p194
                  replace q194 := eq_true q194
                  try go_wp2
                  replace HO_6 := Aside0.mk (Kd.S_drew HO_6.out)
                  replace HL194_2 := Aside0.mk (Kd.R_drew HL194_2.out)
                  replace HR194_2 := Aside0.mk (Kd.C_drew HR194_2.out)
                  replace HB := Aside0.mk (below_drew1 HB.out)
                  have p195 : 0 ≤ ((ji29) : Int) := of_decide_eq_true hE
                  have q195 : (ji29) < (x6_2.length : Int) := of_decide_eq_true hE
                  obtain ⟨ad195, A195_2, c195_2, e195, hx195_0, hx195_1, hx195_2, hl195_2, hi195_2⟩ := at_T51 (Kd.S_reads' HO_6.out).2.2 (ji29) p195 q195
                  obtain rfl : ad194 = ad195 := (by injection e195)
                  obtain ⟨ce195, hce195, hMe195, hcc195⟩ := Kd.S_get HO_6.out z51 (ji29) p195 (by first | exact q195 | exact of_decide_eq_true hE | (have e_ := (Kd.S_reads' HO_6.out).1; omega))
                  obtain ⟨ve195_2, rfl, ge195_2⟩ := k51_openM hMe195
                  have hv195_2 := hcc195 2 _ rfl
                  rw [add_field _ _ 2 (by omega)] at hv195_2
                  replace hv195_2 := Option.some.inj (hv195_2.symm.trans hx195_2)
                  rw [hv195_2] at ge195_2
                  have HL195_2 := Aside0.mk (show Kd.R (Kd.int .u8) 5 _ _ _ _ ((rd_T51 x6_2 (ji29)).f2) from ge195_2)
                  clear hv195_2 ge195_2
                  have HX195_2 := Aside0.mk hx195_2
                  (try clear hcc195)
                  (try clear hce195)
                  have HR195_2 := Aside0.mk hi195_2
                  have HC195_2 := Aside0.mk hl195_2
                  clear hi195_2 hl195_2
                  replace p195 := eq_true p195
                  replace q195 := eq_true q195
                  have p196 : 0 ≤ (x7_2 : Int) := of_decide_eq_true hE
                  have q196 : x7_2 < (l1.length : Int) := of_decide_eq_true hE
                  obtain ⟨ad196, e196, hx196_0⟩ := Kd.at_int HR1.out x7_2 p196 q196
                  have hw196_0 := hx196_0
                  cases e196
                  replace hx196_0 := (HB.out.cell (World.block_lt_of_cell? w _ hx196_0)).trans hx196_0
                  replace p196 := eq_true p196
                  replace q196 := eq_true q196
                  obtain ⟨go39, co39, eo39, gb39, gl39, cl39, HG39⟩ := Kd.S_form HO_6.out (by have h_ : ((ji29) : Int) < ((x6_2.length : Int) : Int) := of_decide_eq_true hE; have h2_ : 0 ≤ ((ji29) : Int) := (of_decide_eq_true hE); omega)
                  (first | cases eo39 | (injection eo39 with ea_ en_ ec_; (first | subst ea_ | (injection ea_ with ea_; subst ea_)); subst ec_; clear en_))
                  have GB39 := Aside0.mk gb39
                  have GG39 := Aside0.mk HG39
                  clear gb39 gl39 HG39
                  (first | simp only [add_plain] at hx194_0 | skip)
                  (first | simp only [add_plain] at hx194_1 | skip)
                  (first | simp only [add_plain] at hx194_2 | skip)
                  (first | simp only [add_plain] at hx195_0 | skip)
                  (first | simp only [add_plain] at hx195_1 | skip)
                  (first | simp only [add_plain] at hx195_2 | skip)
                  obtain ⟨oki39, ce39, hcl39, hM39, hcc39, _, _, hH39⟩ := Kd.S_elem HO_6.out z51 ((ji29) : Int) (of_decide_eq_true hE) (by have h_ : ((ji29) : Int) < ((x6_2.length : Int) : Int) := of_decide_eq_true hE; first | exact h_ | (have e_ := (Kd.S_reads' HO_6.out).1; omega) | simpa using h_)
                  obtain ⟨ve39_2, rfl, ge39_2⟩ := k51_openM hM39
                  have hv39 := hcc39 2 _ rfl
                  have hX39 := HX195_2.out
                  (try simp only [add_plain] at hX39)
                  (try simp only [Nat.add_zero] at hv39)
                  replace hv39 := Option.some.inj (hv39.symm.trans hX39)
                  subst hv39
                  (try clear hX39)
                  (try clear hcc39)
                  (try clear hcl39)
                  have UU39 := Aside0.mk (show Kd.R (Kd.int .u8) 5 _ w.heap.size oki39 (.slice A195_2 ((rd_T51 x6_2 (ji29)).f2).length c195_2) ((rd_T51 x6_2 (ji29)).f2) from ge39_2)
                  have HH39 := Aside0.mk hH39
                  have HN39 := Aside0.mk (Kd.S_reads' HO_6.out).1
                  clear hH39 ge39_2
                  refine start_ (n := 18) (S := fun w' => w'.cell? ⟨go39, (((ji29)).toNat * 3), none⟩ = some (.int .i64 ((rd_T51 x6_2 (ji29)).f0)) ∧ w'.cell? ⟨go39, (((ji29)).toNat * 3) + 1, none⟩ = some (.int .i64 ((rd_T51 x6_2 (ji29)).f1)) ∧ w'.cell? ⟨go39, (((ji29)).toNat * 3) + 2, none⟩ = some (.slice A195_2 ((rd_T51 x6_2 (ji29)).f2).length c195_2) ∧ w'.cell? (ad196.add (x7_2).toNat) = some (.int .u8 (rd l1 x7_2))) (ds := [17]) #[false, false, false, false, false, false, false, false, false, false, false, false, false, false, false, false, false, false] (by kernel_rfl) rfl rfl ⟨hx195_0, hx195_1, hx195_2, ((HB.out.cell (World.block_lt_of_cell? w _ hw196_0)).trans hw196_0)⟩ (fun hHeld => ?_); refine with_tabW spec_PatchOf.tab23 spec_PatchOf.bits23 (fun HT_ HW_ => ?_)
                  generalize wr.drew = w38 at HO_6 HL194_2 HR194_2 HB GG39 HH39 HL195_2 HR195_2 HX195_2 UU39 hx194_0 hx194_1 hx194_2 hx195_0 hx195_1 hx195_2 hx196_0 hHeld ⊢
                  refine pureA 0 92 (bz 18 1) rfl rfl (any_of HT_.out (by kernel_rfl)) ?_
                  refine pureA 1 93 (bz 18 3) rfl rfl (any_of HT_.out (by kernel_rfl)) ?_
                  refine pureA 2 94 (bz 18 7) rfl rfl (any_of HT_.out (by kernel_rfl)) ?_
                  refine pureA 3 95 (bz 18 15) rfl rfl (any_of HT_.out (by kernel_rfl)) ?_
                  refine pureA 4 96 (bz 18 31) rfl rfl (any_of HT_.out (by kernel_rfl)) ?_
                  refine pureA 5 97 (bz 18 63) rfl rfl (any_of HT_.out (by kernel_rfl)) ?_
                  refine pureA 6 98 (bz 18 127) rfl rfl (any_of HT_.out (by kernel_rfl)) ?_
                  refine pureA 7 99 (bz 18 255) rfl rfl (any_of HT_.out (by kernel_rfl)) ?_
                  refine pureA 9 101 (bz 18 767) rfl rfl (any_of HT_.out (by kernel_rfl)) ?_
                  refine pureA 10 102 (bz 18 1791) rfl rfl (any_of HT_.out (by kernel_rfl)) ?_
                  refine pureA 11 103 (bz 18 3839) rfl rfl (any_of HT_.out (by kernel_rfl)) ?_
                  refine takeA 8 100 (bz 18 4095) rfl rfl (take_ofW HT_.out HW_.out (by kernel_rfl)) hHeld (by rintro w' ⟨s0, s1, s2, s3⟩; go_simp; with_reducible rfl) ?_
                  refine takeA 12 104 (bz 18 8191) rfl rfl (take_ofW HT_.out HW_.out (by kernel_rfl)) hHeld (by rintro w' ⟨s0, s1, s2, s3⟩; go_simp; with_reducible rfl) ?_
                  refine one_ (i := 13) (N := some 105) (bz 18 16383) rfl rfl (one_of HT_.out (by kernel_rfl)) (by decide) (fun K hK => ?_)
                  refine value_ (w1 := ?_) (v := ?_) (by rfl) rfl ?_ ?_
                  rotate_left 2
                  ·go_simp
                   constructor
                   ·rfl
                   ·rfl
                  refine hK.out _ _ ⟨(World.cell?_alloc_lt _ _ _ (World.block_lt_of_cell? _ _ (hHeld.1))).trans (hHeld.1), (World.cell?_alloc_lt _ _ _ (World.block_lt_of_cell? _ _ (hHeld.2.1))).trans (hHeld.2.1), (World.cell?_alloc_lt _ _ _ (World.block_lt_of_cell? _ _ (hHeld.2.2.1))).trans (hHeld.2.2.1), (World.cell?_alloc_lt _ _ _ (World.block_lt_of_cell? _ _ (((HB.out.cell (World.block_lt_of_cell? w _ hw196_0)).trans hw196_0)))).trans (((HB.out.cell (World.block_lt_of_cell? w _ hw196_0)).trans hw196_0))⟩ (fun hHeld => ?_)
                  clear hK K
                  refine norm_ (a' := ?_) ?_ ?_
                  rotate_left
                  ·show Act.put _ (some 105) _ = _
                   simp only [Act.put, List.setIfInBounds_toArray, List.set_cons_zero, List.set_cons_succ, i64_w, i32_w]
                   rfl
                  refine one_ (i := 14) (N := some 106) (bz 18 32767) rfl rfl (one_of HT_.out (by kernel_rfl)) (by decide) (fun K hK => ?_)
                  refine Kd.R_append_step (Kd.int .u8) (w0 := w) w.heap.size (by rfl) (.tmp 100) (.tmp 105) 22 5 (.int .u8 0) 1 rfl Try.underlying22 info5 rfl (by decide) (by omega) (.slice A195_2 ((rd_T51 x6_2 (ji29)).f2).length c195_2) ((rd_T51 x6_2 (ji29)).f2) (rd l1 x7_2) [.int .u8 (rd l1 x7_2)] (fun k_ => oki39 k_ ∨ ((fun _ => True)) k_ ∧ w38.heap.size ≤ k_) (fun _ => False) rfl rfl ?aP (fun _ hk => hk.elim) ?aF ?aO ?aB ?aS ?aL ?_
                  (case aP => exact rfl)
                  (case aB => exact (lU))
                  (case aF => exact (fun k_ hk => .inr ⟨trivial, hk⟩))
                  (case aO => exact (by (with_reducible repeat (first | apply Kd.R_alloc | apply Kd.R_drewN | apply Kd.R_drew)); exact Kd.R_mono UU39.out (fun _ hk => .inl hk)))
                  (case aS => exact (below_size (lU)))
                  (case aL => have := LMc35.out; omega)
                  intro v198 w40 ho hb hg hat
                  (first | have HS0_ := cell_grown hg (hHeld.1) (by first | (rw [add_block]; exact (fun e_ => ((HL195_2.out.1 _ e_.symm).2) rfl)) | (show some (Addr.add _ _).block ≠ _; rw [add_block]; exact (fun e_ => ((HL195_2.out.1 _ e_.symm).2) rfl)) | exact (fun e_ => ((HL195_2.out.1 _ e_.symm).2) rfl)) | have HS0_ := cell_grown hg (cell_unalloc (hHeld.1) (by first | (rw [add_block]; exact Kd.S_lt HO_6.out _ rfl) | (show (Addr.add _ _).block < _; rw [add_block]; exact Kd.S_lt HO_6.out _ rfl) | exact Kd.S_lt HO_6.out _ rfl)) (by first | (rw [add_block]; exact (fun e_ => ((HL195_2.out.1 _ e_.symm).2) rfl)) | (show some (Addr.add _ _).block ≠ _; rw [add_block]; exact (fun e_ => ((HL195_2.out.1 _ e_.symm).2) rfl)) | exact (fun e_ => ((HL195_2.out.1 _ e_.symm).2) rfl)))
                  (first | have HS1_ := cell_grown hg (hHeld.2.1) (by first | (rw [add_block]; exact (fun e_ => ((HL195_2.out.1 _ e_.symm).2) rfl)) | (show some (Addr.add _ _).block ≠ _; rw [add_block]; exact (fun e_ => ((HL195_2.out.1 _ e_.symm).2) rfl)) | exact (fun e_ => ((HL195_2.out.1 _ e_.symm).2) rfl)) | have HS1_ := cell_grown hg (cell_unalloc (hHeld.2.1) (by first | (rw [add_block]; exact Kd.S_lt HO_6.out _ rfl) | (show (Addr.add _ _).block < _; rw [add_block]; exact Kd.S_lt HO_6.out _ rfl) | exact Kd.S_lt HO_6.out _ rfl)) (by first | (rw [add_block]; exact (fun e_ => ((HL195_2.out.1 _ e_.symm).2) rfl)) | (show some (Addr.add _ _).block ≠ _; rw [add_block]; exact (fun e_ => ((HL195_2.out.1 _ e_.symm).2) rfl)) | exact (fun e_ => ((HL195_2.out.1 _ e_.symm).2) rfl)))
                  (first | have HS2_ := cell_grown hg (hHeld.2.2.1) (by first | (rw [add_block]; exact (fun e_ => ((HL195_2.out.1 _ e_.symm).2) rfl)) | (show some (Addr.add _ _).block ≠ _; rw [add_block]; exact (fun e_ => ((HL195_2.out.1 _ e_.symm).2) rfl)) | exact (fun e_ => ((HL195_2.out.1 _ e_.symm).2) rfl)) | have HS2_ := cell_grown hg (cell_unalloc (hHeld.2.2.1) (by first | (rw [add_block]; exact Kd.S_lt HO_6.out _ rfl) | (show (Addr.add _ _).block < _; rw [add_block]; exact Kd.S_lt HO_6.out _ rfl) | exact Kd.S_lt HO_6.out _ rfl)) (by first | (rw [add_block]; exact (fun e_ => ((HL195_2.out.1 _ e_.symm).2) rfl)) | (show some (Addr.add _ _).block ≠ _; rw [add_block]; exact (fun e_ => ((HL195_2.out.1 _ e_.symm).2) rfl)) | exact (fun e_ => ((HL195_2.out.1 _ e_.symm).2) rfl)))
                  rw [← Ny197.out] at ho
                  replace HB := Aside0.mk hb
                  replace HH39 := Aside0.mk (Kd.H_grown (Kd.H_widen (by repeat (first | exact HH39.out | refine Kd.H_alloc ?_ _ | refine Kd.H_drewN ?_ _ | refine Kd.H_drew ?_))) hg (fun k_ e_ => .inl (UU39.out.1 k_ e_)))
                  have HO199 := Aside0.mk ho
                  clear HO_6 UU39 HL194_2 HL195_2
                  clear ho hb hg hat
                  have p36 : 0 ≤ ((ji29) : Int) := of_decide_eq_true hE
                  have q36 : ((ji29) : Int) < ((x6_2.length : Int) : Int) := of_decide_eq_true hE
                  replace p36 := eq_true p36
                  replace q36 := eq_true q36
                  obtain ⟨Ao43, co43, eo43⟩ := Kd.R_slice HO199.out
                  (first | subst eo43 | (injection eo43 with f1_ f2_ f3_; have f4_ := f1_.symm; have f5_ := f3_.symm; clear f1_ f2_ f3_; subst f4_; subst f5_))
                  obtain ⟨_, _, hraw41, _, _, hcc41, _⟩ := Kd.H_raw HH39.out (of_decide_eq_true hE) (by have h_ : ((ji29) : Int) < ((x6_2.length : Int) : Int) := of_decide_eq_true hE; first | exact h_ | (have e_ := (HN39.out); omega) | simpa using h_)
                  obtain ⟨_, hfr41⟩ := Kd.H_at HH39.out (of_decide_eq_true hE) (by have h_ : ((ji29) : Int) < ((x6_2.length : Int) : Int) := of_decide_eq_true hE; first | exact h_ | (have e_ := (HN39.out); omega) | simpa using h_)
                  have hx41_0 := hcc41 2 _ rfl
                  have hf41_0 := hfr41 2
                  (try rw [show (k51).sz = 3 from rfl] at hx41_0)
                  (try rw [show (k51).sz = 3 from rfl] at hf41_0)
                  have HP41 := Kd.S_seg0 HH39.out (of_decide_eq_true hE) (by have h_ : ((ji29) : Int) < ((x6_2.length : Int) : Int) := of_decide_eq_true hE; first | exact h_ | (have e_ := (HN39.out); omega) | simpa using h_) (seg := [.slice Ao43 y197.length co43]) (j := 2) (show 3 ≤ 3 from by decide) (x' := (⟨(rd_T51 x6_2 (ji29)).f0, (rd_T51 x6_2 (ji29)).f1, y197⟩ : S51)) (k51_mkM _ _ _ (⟨(rd_T51 x6_2 (ji29)).f0, (rd_T51 x6_2 (ji29)).f1, y197⟩ : S51) HO199.out) (fun _ hk => hk)
                  (try clear hcc41)
                  (try clear hfr41)
                  have HS41 := HP41.1
                  rw [← Ny200.out] at HS41
                  have HQ41 := Aside0.mk HS41
                  obtain ⟨_, hgg41⟩ := Kd.R_typed hraw41 go39 rfl
                  have GG41_ := Aside0.mk hgg41
                  clear HP41 HS41 hgg41
                  refine hK.out _ _ ⟨HS0_, HS1_, HS2_, ((HB.out.cell (World.block_lt_of_cell? w _ hw196_0)).trans hw196_0)⟩ (fun hHeld => ?_)
                  clear hK K
                  refine norm_ (a' := ?_) ?_ ?_
                  rotate_left
                  ·show Act.put _ (some 106) _ = _
                   simp only [Act.put, List.setIfInBounds_toArray, List.set_cons_zero, List.set_cons_succ, i64_w, i32_w]
                   rfl
                  refine pureA 15 107 (bz 18 65535) rfl rfl (any_of HT_.out (by kernel_rfl)) ?_
                  refine pureA 16 108 (bz 18 131071) rfl rfl (any_of HT_.out (by kernel_rfl)) ?_
                  refine last_ (i := 17) (N := none) (bz 18 262143) rfl rfl (one_of HT_.out (by kernel_rfl)) (by decide) (fun K hK => ?_)
                  refine skip_ (w1 := ?_) (by rfl) rfl ?_ ?_
                  rotate_left
                  ·go_simp
                   rfl
                  refine hK.out _ _ ?_
                  clear hK K
                  refine done_ (done_of HT_.out (by kernel_rfl)) ?_
                  try go_wp2
                  go_roundg k3
                  case measure => have := HJ2.out; have := HK2.out; have := HK3.out; omega
                  case rel => exact ⟨(y200), (wrap64 (x7_2 + 1)), tE, H', ⟨by have := HJ2.out; have := HK2.out; have := HK3.out; omega⟩, ⟨by (with_reducible repeat (first | apply Kd.S_alloc | apply Kd.S_drewN | apply Kd.S_drew)); exact HQ41.out⟩, ⟨by repeat (first | (with_reducible first | exact HB.out | apply below_alloc | apply pw_below_drewN | apply below_drew1 | refine below_set ?_ GB39.out) | exact HB.out)⟩⟩
                 ·rw [if_neg c35] at H
                  exact absurd H (by simp)
                ·rw [if_neg c34] at H
                 exact absurd H (by simp)
               ·rw [if_neg c33] at H
                exact absurd H (by simp)
              ·rw [if_neg c32] at H
               have c32b0 : decide (0 < (((rd_T51 x6_2 (ji29)).f2).length : Int)) = false := decide_eq_false c32
               have c32b1 : decide (0 < ((rd_T51 x6_2 (ji29)).f2).length) = false := decide_eq_false (by omega)
               clear c32
               by_cases c44 : 0 ≤ x7_2
               ·rw [if_pos c44] at H
                have c44b0 : decide (0 ≤ x7_2) = true := decide_eq_true c44
                clear c44
                by_cases c45 : x7_2 < (l1.length : Int)
                ·rw [if_pos c45] at H
                 have c45b0 : decide (x7_2 < (l1.length : Int)) = true := decide_eq_true c45
                 clear c45
                 obtain ⟨y202, hy202⟩ : ∃ y_ : List Int, y_ = (([rd l1 x7_2] : List Int)) := ⟨_, rfl⟩
                 replace H : (if x6_2.length < 3518437208883 then (spec_PatchOf.l0 k3 l0 l1 (x6_2 ++ [(⟨0, 0, y202⟩ : S51)]) (wrap64 (x7_2 + 1))) else (none)) = some (r1, r2) := by first | (rw [hy202]; with_reducible exact H) | (have H2_ := (Option.bind_some _ _).symm.trans H; rw [hy202]; with_reducible exact H2_) | (have H2_ := (Option.bind_some _ _).symm.trans H; with_reducible exact H2_) | with_reducible exact H | (rw [hy202]; exact H) | exact H
                 have Ny202 := Aside0.mk hy202
                 clear hy202
                 by_cases c46 : x6_2.length < 3518437208883
                 ·rw [if_pos c46] at H
                  have LMc46 := Aside0.mk c46
                  clear c46
                  obtain ⟨y205, hy205⟩ : ∃ y_ : List (S51), y_ = (x6_2 ++ [(⟨0, 0, y202⟩ : S51)]) := ⟨_, rfl⟩
                  replace H : (spec_PatchOf.l0 k3 l0 l1 y205 (wrap64 (x7_2 + 1))) = some (r1, r2) := by first | (rw [hy205]; with_reducible exact H) | (have H2_ := (Option.bind_some _ _).symm.trans H; rw [hy205]; with_reducible exact H2_) | (have H2_ := (Option.bind_some _ _).symm.trans H; with_reducible exact H2_) | with_reducible exact H | (rw [hy205]; exact H) | exact H
                  have Ny205 := Aside0.mk hy205
                  clear hy205
                  have H' := Aside0.mk H
                  clear H
                  obtain ⟨Ao47, co47, eo47⟩ := Kd.S_slice HO_6.out
                  subst eo47
                  have p194 : 0 ≤ ((ji29) : Int) := of_decide_eq_true hE
                  have q194 : (ji29) < (x6_2.length : Int) := of_decide_eq_true hE
                  obtain ⟨ad194, A194_2, c194_2, e194, hx194_0, hx194_1, hx194_2, hl194_2, hi194_2⟩ := at_T51 (Kd.S_reads' HO_6.out).2.2 (ji29) p194 q194
                  cases e194
                  obtain ⟨ce194, hce194, hMe194, hcc194⟩ := Kd.S_get HO_6.out z51 (ji29) p194 (by first | exact q194 | exact of_decide_eq_true hE | (have e_ := (Kd.S_reads' HO_6.out).1; omega))
                  obtain ⟨ve194_2, rfl, ge194_2⟩ := k51_openM hMe194
                  have hv194_2 := hcc194 2 _ rfl
                  rw [add_field _ _ 2 (by omega)] at hv194_2
                  replace hv194_2 := Option.some.inj (hv194_2.symm.trans hx194_2)
                  rw [hv194_2] at ge194_2
                  have HL194_2 := Aside0.mk (show Kd.R (Kd.int .u8) 5 _ _ _ _ ((rd_T51 x6_2 (ji29)).f2) from ge194_2)
                  clear hv194_2 ge194_2
                  have HX194_2 := Aside0.mk hx194_2
                  (try clear hcc194)
                  (try clear hce194)
                  have HR194_2 := Aside0.mk hi194_2
                  have HC194_2 := Aside0.mk hl194_2
                  clear hi194_2 hl194_2
                  replace p194 := eq_true p194
                  replace q194 := eq_true q194
                  have p201 : 0 ≤ (x7_2 : Int) := of_decide_eq_true hE
                  have q201 : x7_2 < (l1.length : Int) := of_decide_eq_true hE
                  obtain ⟨ad201, e201, hx201_0⟩ := Kd.at_int HR1.out x7_2 p201 q201
                  cases e201
                  replace hx201_0 := (HB.out.cell (World.block_lt_of_cell? w _ hx201_0)).trans hx201_0
                  replace p201 := eq_true p201
                  replace q201 := eq_true q201
                  go_wp2_with (first | ((with_reducible refine gate_dst (N := 114) rfl ?_); (try (refine gate_guard (by rfl) ?_; dsimp only)); refine Kd.R_lit (Kd.int .u8) _ 5 ?hg (N := 114) ?hd (xs := ([rd l1 x7_2] : List Int)) (inner := [.int .u8 (rd l1 x7_2)]) (ok := fun _ => True) (okp := fun _ => True) ?hr ?hp (fun _ hk => hk) trivial (Below.refl _ _) (Nat.le_refl _) (by simp) ?_; (case hd => rfl); (case hg => rfl); (case hr => exact sE); (case hp => exact (Reps.one (show Kd.M (Kd.int .u8) _ _ _ (rd l1 x7_2) [.int .u8 (rd l1 x7_2)] from rfl) (Reps.none _ _))); intro v203 w48 ho49 hb hg_ hnew_; clear hg_ hnew_; (first | rw [← Ny202.out] at ho49 | (simp only [Int.reduceToNat] at ho49; rw [← Ny202.out] at ho49)); replace HO_6 := Aside0.mk (Kd.S_elder' (by (with_reducible repeat (first | apply Kd.S_alloc | apply Kd.S_drewN | apply Kd.S_drew)); exact HO_6.out) (Kd.R_base ho49) hb); have HO204 := Aside0.mk (Kd.R_lower (Kd.R_new' ho49 (Kd.R_lt (rU HL194_2.out))) (below_size (lU))); replace HL194_2 := Aside0.mk (Kd.R_elder' (rU HL194_2.out) (Kd.R_base ho49) hb); replace HR194_2 := Aside0.mk (Kd.C_below (by repeat (first | (with_reducible exact HR194_2.out) | (with_reducible refine Kd.C_alloc ?_ _) | (with_reducible refine Kd.C_drewN ?_ _) | (with_reducible refine Kd.C_drew ?_) | exact HR194_2.out)) hb); replace HX194_2 := Aside0.mk (pw_cell_below hb HX194_2.out); replace HB := bH (lU) hb; clear hb ho49; obtain ⟨Ao50, co50, eo50⟩ := Kd.R_slice HO204.out; subst eo50) | ((with_reducible refine gate_builtin (b := .append) (xs := #[.tmp 109, .tmp 116]) rfl ?_); (try (refine gate_guard (by rfl) ?_; dsimp only)); at_builtin; refine Kd.S_append k51 (w0 := w) w.heap.size rfl (.tmp 109) (.tmp 116) 25 51 (.agg #[(.int .i64 0), (.int .i64 0), (.slice none 0 0)]) 40 rfl Try.underlying25 info51 rfl (by decide) (by omega) (.slice (some ad194) x6_2.length co47) x6_2 (⟨0, 0, y202⟩ : S51) [.int .i64 0, .int .i64 0, .slice Ao50 y202.length co50] (fun _ => True) (fun k_ => some k_ = (.slice Ao50 y202.length co50 : Value).ownBlock) rfl rfl ?aP (fun k_ hk_ => ((Kd.R_mono (ok' := fun k_ => ((fun _ => True)) k_ ∧ some k_ ≠ (.slice (some ad194) x6_2.length co47 : Value).ownBlock) (Kd.R_apart' (HO204.out) (Kd.S_typed HO_6.out) (by decide)) (fun k_ hk => ⟨trivial, hk.2⟩))).1 k_ hk_.symm) ?aF ?aO ?aB ?aS ?aL ?_; (case aP => exact k51_mkM _ _ _ (⟨0, 0, y202⟩ : S51) (Kd.R_mono (Kd.R_tight rfl (Kd.R_mono (ok' := fun k_ => ((fun _ => True)) k_ ∧ some k_ ≠ (.slice (some ad194) x6_2.length co47 : Value).ownBlock) (Kd.R_apart' (HO204.out) (Kd.S_typed HO_6.out) (by decide)) (fun k_ hk => ⟨trivial, hk.2⟩))) (fun _ h_ => h_))); (case aB => exact (lU)); (case aF => exact (fun _ _ => trivial)); (case aO => exact (by (with_reducible repeat (first | apply Kd.S_alloc | apply Kd.S_drewN | apply Kd.S_drew)); exact Kd.S_mono HO_6.out (fun k_ hk => ⟨trivial, fun e_ => hk.2 e_⟩))); (case aS => exact (below_size (lU))); (case aL => have := LMc46.out; omega); intro v206 w51 ho hb hg hat; rw [← Ny205.out] at ho; replace HL194_2 := Aside0.mk (Kd.R_after (ok := (fun k_ => some k_ ≠ (.slice Ao50 y202.length co50 : Value).ownBlock)) (by (with_reducible repeat (first | apply Kd.R_alloc | apply Kd.R_drewN | apply Kd.R_drew)); exact Kd.R_mono HL194_2.out (fun _ hk => ⟨hk.2, hk.1.2⟩)) hg hat); replace HB := Aside0.mk hb; have HO207 := Aside0.mk ho; clear HO_6 HO204; clear ho hb hg hat))
                  go_roundg k3
                  case measure => have := HJ2.out; have := HK2.out; have := HK3.out; omega
                  case rel => exact ⟨(y205), (wrap64 (x7_2 + 1)), tE, H', ⟨by have := HJ2.out; have := HK2.out; have := HK3.out; omega⟩, ⟨by (with_reducible repeat (first | apply Kd.S_alloc | apply Kd.S_drewN | apply Kd.S_drew)); exact HO207.out⟩, ⟨by repeat (first | (with_reducible first | exact HB.out | apply below_alloc | apply pw_below_drewN | apply below_drew1) | exact HB.out)⟩⟩
                 ·rw [if_neg c46] at H
                  exact absurd H (by simp)
                ·rw [if_neg c45] at H
                 exact absurd H (by simp)
               ·rw [if_neg c44] at H
                exact absurd H (by simp)
             ·rw [if_neg c31] at H
              exact absurd H (by simp)
            ·rw [if_neg c30] at H
             exact absurd H (by simp)
           ·rw [if_neg c28] at H
            have c28b0 : decide (0 < (x6_2.length : Int)) = false := decide_eq_false c28
            have c28b1 : decide (0 < x6_2.length) = false := decide_eq_false (by omega)
            clear c28
            by_cases c52 : 0 ≤ x7_2
            ·rw [if_pos c52] at H
             have c52b0 : decide (0 ≤ x7_2) = true := decide_eq_true c52
             clear c52
             by_cases c53 : x7_2 < (l1.length : Int)
             ·rw [if_pos c53] at H
              have c53b0 : decide (x7_2 < (l1.length : Int)) = true := decide_eq_true c53
              clear c53
              obtain ⟨y209, hy209⟩ : ∃ y_ : List Int, y_ = (([rd l1 x7_2] : List Int)) := ⟨_, rfl⟩
              replace H : (if x6_2.length < 3518437208883 then (spec_PatchOf.l0 k3 l0 l1 (x6_2 ++ [(⟨0, 0, y209⟩ : S51)]) (wrap64 (x7_2 + 1))) else (none)) = some (r1, r2) := by first | (rw [hy209]; with_reducible exact H) | (have H2_ := (Option.bind_some _ _).symm.trans H; rw [hy209]; with_reducible exact H2_) | (have H2_ := (Option.bind_some _ _).symm.trans H; with_reducible exact H2_) | with_reducible exact H | (rw [hy209]; exact H) | exact H
              have Ny209 := Aside0.mk hy209
              clear hy209
              by_cases c54 : x6_2.length < 3518437208883
              ·rw [if_pos c54] at H
               have LMc54 := Aside0.mk c54
               clear c54
               obtain ⟨y212, hy212⟩ : ∃ y_ : List (S51), y_ = (x6_2 ++ [(⟨0, 0, y209⟩ : S51)]) := ⟨_, rfl⟩
               replace H : (spec_PatchOf.l0 k3 l0 l1 y212 (wrap64 (x7_2 + 1))) = some (r1, r2) := by first | (rw [hy212]; with_reducible exact H) | (have H2_ := (Option.bind_some _ _).symm.trans H; rw [hy212]; with_reducible exact H2_) | (have H2_ := (Option.bind_some _ _).symm.trans H; with_reducible exact H2_) | with_reducible exact H | (rw [hy212]; exact H) | exact H
               have Ny212 := Aside0.mk hy212
               clear hy212
               have H' := Aside0.mk H
               clear H
               obtain ⟨Ao55, co55, eo55⟩ := Kd.S_slice HO_6.out
               subst eo55
               have p208 : 0 ≤ (x7_2 : Int) := of_decide_eq_true hE
               have q208 : x7_2 < (l1.length : Int) := of_decide_eq_true hE
               obtain ⟨ad208, e208, hx208_0⟩ := Kd.at_int HR1.out x7_2 p208 q208
               cases e208
               replace hx208_0 := (HB.out.cell (World.block_lt_of_cell? w _ hx208_0)).trans hx208_0
               replace p208 := eq_true p208
               replace q208 := eq_true q208
               go_wp2_with (first | ((with_reducible refine gate_dst (N := 114) rfl ?_); (try (refine gate_guard (by rfl) ?_; dsimp only)); refine Kd.R_lit (Kd.int .u8) _ 5 ?hg (N := 114) ?hd (xs := ([rd l1 x7_2] : List Int)) (inner := [.int .u8 (rd l1 x7_2)]) (ok := fun _ => True) (okp := fun _ => True) ?hr ?hp (fun _ hk => hk) trivial (Below.refl _ _) (Nat.le_refl _) (by simp) ?_; (case hd => rfl); (case hg => rfl); (case hr => exact sE); (case hp => exact (Reps.one (show Kd.M (Kd.int .u8) _ _ _ (rd l1 x7_2) [.int .u8 (rd l1 x7_2)] from rfl) (Reps.none _ _))); intro v210 w56 ho57 hb hg_ hnew_; clear hg_ hnew_; (first | rw [← Ny209.out] at ho57 | (simp only [Int.reduceToNat] at ho57; rw [← Ny209.out] at ho57)); replace HO_6 := Aside0.mk (Kd.S_elder' (by (with_reducible repeat (first | apply Kd.S_alloc | apply Kd.S_drewN | apply Kd.S_drew)); exact HO_6.out) (Kd.R_base ho57) hb); have HO211 := Aside0.mk (Kd.R_lower ho57 (below_size (lU))); replace HB := bH (lU) hb; clear hb ho57; obtain ⟨Ao58, co58, eo58⟩ := Kd.R_slice HO211.out; subst eo58) | ((with_reducible refine gate_builtin (b := .append) (xs := #[.tmp 109, .tmp 116]) rfl ?_); (try (refine gate_guard (by rfl) ?_; dsimp only)); at_builtin; refine Kd.S_append k51 (w0 := w) w.heap.size rfl (.tmp 109) (.tmp 116) 25 51 (.agg #[(.int .i64 0), (.int .i64 0), (.slice none 0 0)]) 40 rfl Try.underlying25 info51 rfl (by decide) (by omega) (.slice Ao55 x6_2.length co55) x6_2 (⟨0, 0, y209⟩ : S51) [.int .i64 0, .int .i64 0, .slice Ao58 y209.length co58] (fun _ => True) (fun k_ => some k_ = (.slice Ao58 y209.length co58 : Value).ownBlock) rfl rfl ?aP (fun k_ hk_ => ((Kd.R_mono (ok' := fun k_ => ((fun _ => True)) k_ ∧ some k_ ≠ (.slice Ao55 x6_2.length co55 : Value).ownBlock) (Kd.R_apart' (HO211.out) (Kd.S_typed HO_6.out) (by decide)) (fun k_ hk => ⟨trivial, hk.2⟩))).1 k_ hk_.symm) ?aF ?aO ?aB ?aS ?aL ?_; (case aP => exact k51_mkM _ _ _ (⟨0, 0, y209⟩ : S51) (Kd.R_mono (Kd.R_tight rfl (Kd.R_mono (ok' := fun k_ => ((fun _ => True)) k_ ∧ some k_ ≠ (.slice Ao55 x6_2.length co55 : Value).ownBlock) (Kd.R_apart' (HO211.out) (Kd.S_typed HO_6.out) (by decide)) (fun k_ hk => ⟨trivial, hk.2⟩))) (fun _ h_ => h_))); (case aB => exact (lU)); (case aF => exact (fun _ _ => trivial)); (case aO => exact (by (with_reducible repeat (first | apply Kd.S_alloc | apply Kd.S_drewN | apply Kd.S_drew)); exact Kd.S_mono HO_6.out (fun k_ hk => ⟨trivial, fun e_ => hk.2 e_⟩))); (case aS => exact (below_size (lU))); (case aL => have := LMc54.out; omega); intro v213 w59 ho hb hg hat; rw [← Ny212.out] at ho; replace HB := Aside0.mk hb; have HO214 := Aside0.mk ho; clear HO_6 HO211; clear ho hb hg hat))
               go_roundg k3
               case measure => have := HJ2.out; have := HK2.out; have := HK3.out; omega
               case rel => exact ⟨(y212), (wrap64 (x7_2 + 1)), tE, H', ⟨by have := HJ2.out; have := HK2.out; have := HK3.out; omega⟩, ⟨by (with_reducible repeat (first | apply Kd.S_alloc | apply Kd.S_drewN | apply Kd.S_drew)); exact HO214.out⟩, ⟨by repeat (first | (with_reducible first | exact HB.out | apply below_alloc | apply pw_below_drewN | apply below_drew1) | exact HB.out)⟩⟩
              ·rw [if_neg c54] at H
               exact absurd H (by simp)
             ·rw [if_neg c53] at H
              exact absurd H (by simp)
            ·rw [if_neg c52] at H
             exact absurd H (by simp)
      ·rw [if_neg c6] at H
       have c6b0 : decide (x7_2 < (l1.length : Int)) = false := decide_eq_false c6
       clear c6
       simp only [Option.some.injEq, Prod.mk.injEq] at H
       obtain ⟨rfl, rfl⟩ := H
       go_wp2
       go_ret2
       exact ⟨_, eE, by (with_reducible repeat (first | apply Kd.S_alloc | apply Kd.S_drewN | apply Kd.S_drew)); exact HO_6.out, lU⟩
end Go.Proofs.Ytbamdbdcglohmaa.PFnPatched
