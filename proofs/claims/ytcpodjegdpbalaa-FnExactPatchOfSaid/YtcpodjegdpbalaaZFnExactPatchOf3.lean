/- Texts of the row of the law FnExactPatchOf, laid together. -/
import Derived.Test.YtcpodjegdpbalaaZFnExactPatchOf0
import Derived.Deep.RegionLaw
import Derived.Lib.SliceRun
import Derived.Laws.Externs
import Derived.Lib.Bytealg
import Derived.Test.YtcpodjegdpbalaaZFnExactPatchOf1
import Derived.Test.YtcpodjegdpbalaaProg
import Derived.Below
import Derived.Deep.Draws
import Derived.Deep.AppendLies
import Derived.Maps.AppendAt
import Derived.OwnWalk
import Derived.Laws.BytesArg
import Derived.Laws.MakeOwn
import Derived.Laws.OwnMore
import Derived.Deep.OwnRows
import Derived.Tactics
import Derived.Lib.ConvBytes
import Derived.Laws.Slices
import Derived.WalkKit
import Derived.KernelRfl
import Derived.RowKit3
import Derived.Deep.LoopGhost
import Derived.Deep.QuietTactic
import Derived.BigQuiet
import Derived.WideLaws
import Derived.Deep.DeepCutAuto
import Derived.Deep.CutBlock
import Derived.Deep.RegionHeld3
import Derived.Laws.Rows
import Derived.Lib.AppendStr
import Derived.ArgAppend
import Derived.Laws.IdiomCopy
import Derived.OrdersHeld
import Derived.Laws.BitsLemmas
import Derived.RowKit
import Derived.Laws.Cover1
import Derived.Test.YtcpodjegdpbalaaZFnExactPatchOf2
namespace Go.Proofs.YtcpodjegdpbalaaW.PrintWords
open Go.RowKit
namespace Kd
section
variable {P : Program} {α : Type}
end
end Kd
end Go.Proofs.YtcpodjegdpbalaaW.PrintWords
namespace Go.Proofs.YtcpodjegdpbalaaW.PrintLast
open Go.RowKit Go.Proofs.YtcpodjegdpbalaaW.PrintWords
def bz (n m : Nat) : Array Bool := ((List.range n).map fun i => m.testBit i).toArray
section
variable {P : Program} {ops : Array Oper} {Q : Exit → Act → World → Prop} {md : Region.Mode} {S : World → Prop} {ds : List Nat}
theorem pureA (i : Nat) (N : Tmp) {oi : Oper} {v : Value} {fuel : Nat} {l : Array Bool} {a : Act} {w : World} (l' : Array Bool) {a' : Act} (hi : ops[i]? = some oi) (hN : oi.dst = some N) (hc : anyB md ops l l' i = true) (h : wpAnyLast P md ops Q S ds fuel l' a' w)
    (hQ : ∀ c a w, Q (.panic c) (a.put oi.dst v) w → Q (.panic c) a w := by exact fun _ _ _ h => h) (hw : Region.wanted oi (yielded ops a.tmps) = true := by rfl)
    (hy : ∀ w, (execOp a.eval oi).run P w = .ok (.value v) w := by intro w'; go_simp; with_reducible rfl) (ha : a.put (some N) v = a' := by simp only [Act.put, List.setIfInBounds_toArray, List.set_cons_zero, List.set_cons_succ, i64_w, i32_w]; rfl) : wpAnyLast P md ops Q S ds (fuel + 1) l a w :=
  pure_ l' hi hN hc hQ (Or.inl ⟨hw, hy⟩) ha h
theorem pureU (i : Nat) (N : Tmp) {oi : Oper} {fuel : Nat} {l : Array Bool} {a : Act} {w : World} (l' : Array Bool) {a' : Act} (hi : ops[i]? = some oi) (hN : oi.dst = some N) (hc : anyB md ops l l' i = true) (h : wpAnyLast P md ops Q S ds fuel l' a' w)
    (hQ : ∀ c a w, Q (.panic c) (a.put oi.dst undef) w → Q (.panic c) a w := by exact fun _ _ _ h => h) (hw : Region.wanted oi (yielded ops a.tmps) = false := by rfl)
    (ha : a.put (some N) undef = a' := by simp only [Act.put, List.setIfInBounds_toArray, List.set_cons_zero, List.set_cons_succ, i64_w, i32_w]; rfl) : wpAnyLast P md ops Q S ds (fuel + 1) l a w :=
  pure_ l' hi hN hc hQ (Or.inr ⟨hw, rfl⟩) ha h
theorem takeA (i : Nat) (N : Tmp) {oi : Oper} {v : Value} {fuel : Nat} {l : Array Bool} {a : Act} {w : World} (l' : Array Bool) {a' : Act} (hi : ops[i]? = some oi) (hN : oi.dst = some N) (hc : takeB md ops ds l l' i = true) (hS : S w) (hy : ∀ w, S w → (execOp a.eval oi).run P w = .ok (.value v) w) (h : wpAnyLast P md ops Q S ds fuel l' a' w)
    (hQ : ∀ c a w, Q (.panic c) (a.put oi.dst v) w → Q (.panic c) a w := by exact fun _ _ _ h => h) (hw : Region.wanted oi (yielded ops a.tmps) = true := by rfl)
    (ha : a.put (some N) v = a' := by simp only [Act.put, List.setIfInBounds_toArray, List.set_cons_zero, List.set_cons_succ, i64_w, i32_w]; rfl) : wpAnyLast P md ops Q S ds (fuel + 1) l a w :=
  take_ l' hi hN hc hQ (Or.inl ⟨hw, hy⟩) hS ha h
end
end Go.Proofs.YtcpodjegdpbalaaW.PrintLast
namespace Go.Proofs.YtcpodjegdpbalaaW.PrintWords
open Go.RowKit
end Go.Proofs.YtcpodjegdpbalaaW.PrintWords
namespace Go.Proofs.YtcpodjegdpbalaaW.PrintWords
open Go.RowKit
section
variable {P : Program} {ops : Array Oper} {o : Oper} {a : Act} {Q : Exit → Act → World → Prop} {Kc : Act → World → Prop}
end
end Go.Proofs.YtcpodjegdpbalaaW.PrintWords
namespace Go.Proofs.YtcpodjegdpbalaaW.PrintWords
open Go.RowKit
theorem grown_of_kept {B : Nat} {w0 W W2 : World} {row : Option Nat} (hB : Below B w0 W) (hb : Below B w0 W2) (hk : Kept W W2 (fun k => some k = row)) : W.grownBy W2 row :=
  ⟨hb.os.trans hB.os.symm, hb.tape.trans hB.tape.symm, hb.output.trans hB.output.symm, hk.1, fun k h hn => hk.2 k h hn⟩
namespace Kd
section
variable {α : Type} {d : Kd α} {e base : Nat} {ok : Nat → Prop} {W : World} {u : Value} {xs : List α} {PS : Nat → Prop} {L : List Nat}
end
end Kd
end Go.Proofs.YtcpodjegdpbalaaW.PrintWords
namespace Go.Proofs.YtcpodjegdpbalaaW.PrintWords
open Go.RowKit
end Go.Proofs.YtcpodjegdpbalaaW.PrintWords
namespace Go.Proofs.YtcpodjegdpbalaaW.PrintLast
section
variable {P : Program} {ops : Array Oper} {Q : Exit → Act → World → Prop} {md : Region.Mode} {S T : World → Prop} {ds : List Nat}
end
end Go.Proofs.YtcpodjegdpbalaaW.PrintLast
namespace Go.Proofs.Ytcpodjegdpbalaa.PFnExactPatchOf
open Go.RowKit Go.Proofs.YtcpodjegdpbalaaW.PrintWords Go.Proofs.YtcpodjegdpbalaaW.PrintLast Go.Proofs.YtcpodjegdpbalaaW.PrintMore
attribute [local go_sem] max2_int min2_int max_two min_two max_three min_three max_four min_four   -- for this text's walks alone
set_option linter.unusedVariables false
set_option linter.unusedSimpArgs false
def errW : Option Int → Value
 | none => .nilIface
 | some c => .iface 0 (.int .i64 c)
theorem errW_none : errW none = .nilIface := rfl
theorem errW_some (c : Int) : errW (some c) = .iface 0 (.int .i64 c) := rfl
theorem info5 : (Try.prog.info? 5).map (fun i => (i.zero, i.size, i.bytes)) = some (some (.int .u8 0), 1, 1) := by kernel_rfl
theorem info62 : (Try.prog.info? 62).map (fun i => (i.zero, i.size, i.bytes)) = some (some (.agg #[(.int .i64 0), (.int .i64 0), (.slice none 0 0)]), 3, 40) := by kernel_rfl
structure S62 where
 f0 : Int
 f1 : Int
 f2 : (List Int)
def z62 : S62 := ⟨(0 : Int), (0 : Int), ([] : List Int)⟩
def k62 : Kd S62 := Kd.iso (Kd.pair (Kd.int .i64) (Kd.pair (Kd.int .i64) (Kd.slice 5 (Kd.int .u8)))) (fun x : S62 => (x.f0, x.f1, x.f2))
theorem k62_open {w : World} {x : S62} {cs : List Value} (h : k62.K w x cs) : ∃ A2 c2, cs = [.int .i64 x.f0, .int .i64 x.f1, .slice A2 x.f2.length c2] ∧ x.f2.length ≤ c2 ∧ (Kd.int .u8).C w A2 x.f2.length x.f2 := by
 obtain ⟨_, _, rfl, rfl, ⟨_, _, rfl, rfl, ⟨A2, c2, rfl, l2, g2⟩⟩⟩ := h
 exact ⟨A2, c2, rfl, l2, g2⟩
theorem k62_openM {w : World} {base : Nat} {ok : Nat → Prop} {x : S62} {cs : List Value} (h : k62.M w base ok x cs) : ∃ v2, cs = [.int .i64 x.f0, .int .i64 x.f1, v2] ∧ (Kd.int .u8).R 5 w base ok v2 x.f2 := by
 obtain ⟨_, _, rfl, rfl, ⟨_, _, rfl, rfl, ⟨v2, rfl, g2⟩⟩⟩ := h
 exact ⟨v2, rfl, g2⟩
theorem k62_mkM (w : World) (base : Nat) (ok : Nat → Prop) (x : S62) {v2 : Value} (g2 : (Kd.int .u8).R 5 w base ok v2 x.f2) : k62.M w base ok x [.int .i64 x.f0, .int .i64 x.f1, v2] := ⟨[.int .i64 x.f0], [.int .i64 x.f1, v2], rfl, rfl, ⟨[.int .i64 x.f1], [v2], rfl, rfl, ⟨v2, rfl, g2⟩⟩⟩
def rd_T62 (xs : List S62) (i : Int) : S62 := xs.getD i.toNat z62
theorem at_T62 {w : World} {A : Option Addr} {n : Nat} {xs : List S62} (h : Kd.C k62 w A n xs) (i : Int) (h0 : 0 ≤ i) (h1 : i < n) : ∃ ad A2 c2, A = some ad ∧ w.cell? (ad.add (i.toNat * 3)) = some (.int .i64 (rd_T62 xs i).f0) ∧ w.cell? ⟨(ad.add (i.toNat * 3)).block, (ad.add (i.toNat * 3)).off + 1, none⟩ = some (.int .i64 (rd_T62 xs i).f1) ∧ w.cell? ⟨(ad.add (i.toNat * 3)).block, (ad.add (i.toNat * 3)).off + 2, none⟩ = some (.slice A2 (rd_T62 xs i).f2.length c2) ∧ (rd_T62 xs i).f2.length ≤ c2 ∧ (Kd.int .u8).C w A2 (rd_T62 xs i).f2.length (rd_T62 xs i).f2 := by
 obtain ⟨ad, c, e, _, hK, hc0⟩ := Kd.C_get h z62 i h0 h1
 have hc : ∀ j u, c[j]? = some u → w.cell? (ad.add (i.toNat * 3 + j)) = some u := hc0
 obtain ⟨A2, c2, rfl, l2, g2⟩ := k62_open hK
 exact ⟨ad, A2, c2, e, hc 0 _ rfl, by rw [← add_field _ _ 1 (by omega)]; exact hc 1 _ rfl, by rw [← add_field _ _ 2 (by omega)]; exact hc 2 _ rfl, l2, g2⟩
end Go.Proofs.Ytcpodjegdpbalaa.PFnExactPatchOf
namespace Go.Proofs.Ytcpodjegdpbalaa.PFnExactPatchOf
open Go.RowKit Go.Proofs.YtcpodjegdpbalaaW.PrintWords Go.Proofs.YtcpodjegdpbalaaW.PrintLast Go.Proofs.YtcpodjegdpbalaaW.PrintMore
attribute [local go_sem] max2_int min2_int max_two min_two max_three min_three max_four min_four   -- for this text's walks alone
set_option linter.unusedVariables false
set_option linter.unusedSimpArgs false
mutual
def spec_PatchOf.j0 : Nat → List Int → List Int → Bool → Option ((List (S62)) × Bool)
 | 0, _, _, _ => none
 | k + 1, x0, x1, x20 => if x20 = true then (some (([] : List (S62)), false)) else (spec_PatchOf.l0 k x0 x1 ([] : List (S62)) 0)
def spec_PatchOf.l0 : Nat → List Int → List Int → List (S62) → Int → Option ((List (S62)) × Bool)
 | 0, _, _, _, _ => none
 | k + 1, x0, x1, x6, x7 => if x7 < (x1.length : Int) then (spec_PatchOf.l1 k x0 x1 x6 x7 0 0 (x0.length : Int) 0) else (some (x6, true))
def spec_PatchOf.l1 : Nat → List Int → List Int → List (S62) → Int → Int → Int → Int → Int → Option ((List (S62)) × Bool)
 | 0, _, _, _, _, _, _, _, _ => none
 | k + 1, x0, x1, x6, x7, x8, x9, x26, x27 => if x27 < x26 then (spec_PatchOf.l2 k x0 x1 x6 x7 x8 x9 x27 0 x26 x27) else (if x9 ≥ 4 then (if x6.length < 3518437208883 then (spec_PatchOf.l0 k x0 x1 (x6 ++ [(⟨x8, x9, ([] : List Int)⟩ : S62)]) (wrap64 (x7 + x9))) else (none)) else (if (x6.length : Int) > 0 then (if 0 ≤ (wrap64 ((x6.length : Int) - 1)) then (if (wrap64 ((x6.length : Int) - 1)) < (x6.length : Int) then (if (((rd_T62 x6 (wrap64 ((x6.length : Int) - 1))).f2).length : Int) > 0 then (if 0 ≤ x7 then (if x7 < (x1.length : Int) then (if ((rd_T62 x6 (wrap64 ((x6.length : Int) - 1))).f2).length < 140737488355328 then (spec_PatchOf.l0 k x0 x1 (x6.set ((wrap64 ((x6.length : Int) - 1)) : Int).toNat (⟨(rd_T62 x6 (wrap64 ((x6.length : Int) - 1))).f0, (rd_T62 x6 (wrap64 ((x6.length : Int) - 1))).f1, (((rd_T62 x6 (wrap64 ((x6.length : Int) - 1))).f2) ++ [rd x1 x7])⟩ : S62)) (wrap64 (x7 + 1))) else (none)) else (none)) else (none)) else (if 0 ≤ x7 then (if x7 < (x1.length : Int) then (if x6.length < 3518437208883 then (spec_PatchOf.l0 k x0 x1 (x6 ++ [(⟨0, 0, (([rd x1 x7] : List Int))⟩ : S62)]) (wrap64 (x7 + 1))) else (none)) else (none)) else (none))) else (none)) else (none)) else (if 0 ≤ x7 then (if x7 < (x1.length : Int) then (if x6.length < 3518437208883 then (spec_PatchOf.l0 k x0 x1 (x6 ++ [(⟨0, 0, (([rd x1 x7] : List Int))⟩ : S62)]) (wrap64 (x7 + 1))) else (none)) else (none)) else (none))))
def spec_PatchOf.l2 : Nat → List Int → List Int → List (S62) → Int → Int → Int → Int → Int → Int → Int → Option ((List (S62)) × Bool)
 | 0, _, _, _, _, _, _, _, _, _, _ => none
 | k + 1, x0, x1, x6, x7, x8, x9, x10, x11, x26, x27 => if (wrap64 (x10 + x11)) < (x0.length : Int) then (if (wrap64 (x7 + x11)) < (x1.length : Int) then (if 0 ≤ (wrap64 (x10 + x11)) then (if 0 ≤ (wrap64 (x7 + x11)) then (if (rd x0 (wrap64 (x10 + x11))) = (rd x1 (wrap64 (x7 + x11))) then (spec_PatchOf.l2 k x0 x1 x6 x7 x8 x9 x10 (wrap64 (x11 + 1)) x26 x27) else (if x11 > x9 then (spec_PatchOf.l1 k x0 x1 x6 x7 x10 x11 x26 (wrap64 (x27 + 1))) else (spec_PatchOf.l1 k x0 x1 x6 x7 x8 x9 x26 (wrap64 (x27 + 1))))) else (none)) else (none)) else (if x11 > x9 then (spec_PatchOf.l1 k x0 x1 x6 x7 x10 x11 x26 (wrap64 (x27 + 1))) else (spec_PatchOf.l1 k x0 x1 x6 x7 x8 x9 x26 (wrap64 (x27 + 1))))) else (if x11 > x9 then (spec_PatchOf.l1 k x0 x1 x6 x7 x10 x11 x26 (wrap64 (x27 + 1))) else (spec_PatchOf.l1 k x0 x1 x6 x7 x8 x9 x26 (wrap64 (x27 + 1))))
end
def spec_PatchOf.f (k : Nat) (l0 : List Int) (l1 : List Int) : Option ((List (S62)) × Bool) := if (l0.length : Int) > 400 then (spec_PatchOf.j0 k l0 l1 true) else (spec_PatchOf.j0 k l0 l1 (decide ((l1.length : Int) > 400)))
theorem spec_PatchOf.mono_l : ∀ k, (∀ y0 y1 y2, LeO (spec_PatchOf.j0 k y0 y1 y2) (spec_PatchOf.j0 (k + 1) y0 y1 y2)) ∧ (∀ y0 y1 y2 y3, LeO (spec_PatchOf.l0 k y0 y1 y2 y3) (spec_PatchOf.l0 (k + 1) y0 y1 y2 y3)) ∧ (∀ y0 y1 y2 y3 y4 y5 y6 y7, LeO (spec_PatchOf.l1 k y0 y1 y2 y3 y4 y5 y6 y7) (spec_PatchOf.l1 (k + 1) y0 y1 y2 y3 y4 y5 y6 y7)) ∧ (∀ y0 y1 y2 y3 y4 y5 y6 y7 y8 y9, LeO (spec_PatchOf.l2 k y0 y1 y2 y3 y4 y5 y6 y7 y8 y9) (spec_PatchOf.l2 (k + 1) y0 y1 y2 y3 y4 y5 y6 y7 y8 y9))
 | 0 => ⟨fun _ _ _ r h => by simp [spec_PatchOf.j0] at h, fun _ _ _ _ r h => by simp [spec_PatchOf.l0] at h, fun _ _ _ _ _ _ _ _ r h => by simp [spec_PatchOf.l1] at h, fun _ _ _ _ _ _ _ _ _ _ r h => by simp [spec_PatchOf.l2] at h⟩
 | k + 1 => by
  obtain ⟨ih0, ih1, ih2, ih3⟩ := spec_PatchOf.mono_l k
  refine ⟨?_, ?_, ?_, ?_⟩
  ·intro y0 y1 y2
   unfold spec_PatchOf.j0
   repeat' first
   | (with_reducible exact ih0 _ _ _)
   | (with_reducible exact ih1 _ _ _ _)
   | (with_reducible exact ih2 _ _ _ _ _ _ _ _)
   | (with_reducible exact ih3 _ _ _ _ _ _ _ _ _ _)
   | (with_reducible exact LeO.refl _)
   | (with_reducible exact LeO.none _)
   | (with_reducible refine LeO.ite ?_ ?_)
   | (with_reducible refine LeO.bind ?_ (fun _ => ?_))
   | exact ih0 _ _ _
   | exact ih1 _ _ _ _
   | exact ih2 _ _ _ _ _ _ _ _
   | exact ih3 _ _ _ _ _ _ _ _ _ _
   | exact LeO.none _
   | refine LeO.ite ?_ ?_
   | refine LeO.bind ?_ (fun _ => ?_)
  ·intro y0 y1 y2 y3
   unfold spec_PatchOf.l0
   repeat' first
   | (with_reducible exact ih0 _ _ _)
   | (with_reducible exact ih1 _ _ _ _)
   | (with_reducible exact ih2 _ _ _ _ _ _ _ _)
   | (with_reducible exact ih3 _ _ _ _ _ _ _ _ _ _)
   | (with_reducible exact LeO.refl _)
   | (with_reducible exact LeO.none _)
   | (with_reducible refine LeO.ite ?_ ?_)
   | (with_reducible refine LeO.bind ?_ (fun _ => ?_))
   | exact ih0 _ _ _
   | exact ih1 _ _ _ _
   | exact ih2 _ _ _ _ _ _ _ _
   | exact ih3 _ _ _ _ _ _ _ _ _ _
   | exact LeO.none _
   | refine LeO.ite ?_ ?_
   | refine LeO.bind ?_ (fun _ => ?_)
  ·intro y0 y1 y2 y3 y4 y5 y6 y7
   unfold spec_PatchOf.l1
   repeat' first
   | (with_reducible exact ih0 _ _ _)
   | (with_reducible exact ih1 _ _ _ _)
   | (with_reducible exact ih2 _ _ _ _ _ _ _ _)
   | (with_reducible exact ih3 _ _ _ _ _ _ _ _ _ _)
   | (with_reducible exact LeO.refl _)
   | (with_reducible exact LeO.none _)
   | (with_reducible refine LeO.ite ?_ ?_)
   | (with_reducible refine LeO.bind ?_ (fun _ => ?_))
   | exact ih0 _ _ _
   | exact ih1 _ _ _ _
   | exact ih2 _ _ _ _ _ _ _ _
   | exact ih3 _ _ _ _ _ _ _ _ _ _
   | exact LeO.none _
   | refine LeO.ite ?_ ?_
   | refine LeO.bind ?_ (fun _ => ?_)
  ·intro y0 y1 y2 y3 y4 y5 y6 y7 y8 y9
   unfold spec_PatchOf.l2
   repeat' first
   | (with_reducible exact ih0 _ _ _)
   | (with_reducible exact ih1 _ _ _ _)
   | (with_reducible exact ih2 _ _ _ _ _ _ _ _)
   | (with_reducible exact ih3 _ _ _ _ _ _ _ _ _ _)
   | (with_reducible exact LeO.refl _)
   | (with_reducible exact LeO.none _)
   | (with_reducible refine LeO.ite ?_ ?_)
   | (with_reducible refine LeO.bind ?_ (fun _ => ?_))
   | exact ih0 _ _ _
   | exact ih1 _ _ _ _
   | exact ih2 _ _ _ _ _ _ _ _
   | exact ih3 _ _ _ _ _ _ _ _ _ _
   | exact LeO.none _
   | refine LeO.ite ?_ ?_
   | refine LeO.bind ?_ (fun _ => ?_)
theorem spec_PatchOf.mono : ∀ a0 a1 k, LeO (spec_PatchOf.f k a0 a1) (spec_PatchOf.f (k + 1) a0 a1) := by
 intro a0 a1 k
 obtain ⟨ih0, ih1, ih2, ih3⟩ := spec_PatchOf.mono_l k
 unfold spec_PatchOf.f
 repeat' first
   | (with_reducible exact ih0 _ _ _)
   | (with_reducible exact ih1 _ _ _ _)
   | (with_reducible exact ih2 _ _ _ _ _ _ _ _)
   | (with_reducible exact ih3 _ _ _ _ _ _ _ _ _ _)
   | (with_reducible exact LeO.refl _)
   | (with_reducible exact LeO.none _)
   | (with_reducible refine LeO.ite ?_ ?_)
   | (with_reducible refine LeO.bind ?_ (fun _ => ?_))
   | exact ih0 _ _ _
   | exact ih1 _ _ _ _
   | exact ih2 _ _ _ _ _ _ _ _
   | exact ih3 _ _ _ _ _ _ _ _ _ _
   | exact LeO.none _
   | refine LeO.ite ?_ ?_
   | refine LeO.bind ?_ (fun _ => ?_)
def spec_PatchOf.T12 : Bool × List (List Nat × List Nat) := (true, [([], []), ([], []), ([0, 1], [0, 1]), ([], []), ([3], [3]), ([2, 4], [2, 4]), ([5], [5]), ([6], [6]), ([6], [6]), ([7, 8, 6], [6, 7, 8]), ([6], [6]), ([10, 6], [6, 10]), ([9, 11, 6], [6, 9, 11]), ([6, 12], [6, 12]), ([13, 6], [13]), ([14], [14]), ([14], [14]), ([14], [14]), ([16, 17, 14], [14, 16, 17]), ([15, 18, 14], [14, 15, 18]), ([19, 14], [14, 19]), ([14], [14]), ([14], [14]), ([14], [14]), ([22, 23, 14], [14, 22, 23]), ([21, 24, 14], [14, 21, 24]), ([25, 14], [14, 25]), ([20, 26, 14], [14, 20, 26]), ([14, 27], [14, 27])])
def spec_PatchOf.B12 : List Nat := [0, 0, 3, 0, 8, 31, 63, 127, 127, 511, 127, 1151, 4095, 8191, 16383, 32767, 32767, 32767, 229375, 524287, 1048575, 32767, 32767, 32767, 12615679, 31490047, 65044479, 134217727, 268435455]
theorem spec_PatchOf.tab12 : rtab .any (opsOf Try.f6 12) = spec_PatchOf.T12 := by kernel_rfl
theorem spec_PatchOf.bits12 : waitsOk spec_PatchOf.T12.2 spec_PatchOf.B12 = true := by kernel_rfl
def spec_PatchOf.T23 : Bool × List (List Nat × List Nat) := (true, [([], []), ([], []), ([1], [1]), ([], []), ([], []), ([4], [4]), ([3, 5], [3, 5]), ([6], [6]), ([7], [7]), ([], []), ([], []), ([9, 10], [9, 10]), ([11], [11]), ([12], [12]), ([8, 13], [8, 13]), ([0, 2, 0, 1, 2, 3, 4, 5, 6, 7, 8, 9, 10, 11, 12, 13, 14], [0, 2]), ([15, 0, 1, 2, 3, 4, 5, 6, 7, 8, 9, 10, 11, 12, 13, 14], [15]), ([16, 14, 14, 0, 1, 2, 3, 4, 5, 6, 7, 8, 9, 10, 11, 12, 13, 14], [14, 16])])
def spec_PatchOf.B23 : List Nat := [0, 0, 2, 0, 0, 16, 56, 120, 248, 0, 0, 1536, 3584, 7680, 16376, 32767, 65535, 131071]
theorem spec_PatchOf.tab23 : rtab .any (opsOf Try.f6 23) = spec_PatchOf.T23 := by kernel_rfl
theorem spec_PatchOf.bits23 : waitsOk spec_PatchOf.T23.2 spec_PatchOf.B23 = true := by kernel_rfl
set_option maxHeartbeats 8000000 in
set_option maxRecDepth 100000 in
theorem spec_PatchOf.calls (k : Nat) (A0 : Option Addr) (c0 : Nat) (l0 : List Int) (A1 : Option Addr) (c1 : Nat) (l1 : List Int) (r1 : List (S62)) (r2 : Bool) (w : World) (hr0 : Kd.C (Kd.int .u8) w A0 l0.length l0) (hc0 : l0.length ≤ c0) (hr1 : Kd.C (Kd.int .u8) w A1 l1.length l1) (hc1 : l1.length ≤ c1) (h : spec_PatchOf.f k l0 l1 = some (r1, r2)) :
  Calls Try.prog 6 #[.slice A0 l0.length c0, .slice A1 l1.length c1] w fun e w' => ∃ v0_ : Value, e = .returned (.tuple #[v0_, .bool r2]) ∧ Kd.S k62 62 w' w.heap.size (fun _ => True) v0_ r1 ∧ Below w.heap.size w w' := by
 have hu62 := Try.underlying62
 have HR0 := Aside0.mk hr0
 have HC0 := Aside0.mk hc0
 clear hr0 hc0
 have HR1 := Aside0.mk hr1
 have HC1 := Aside0.mk hc1
 clear hr1 hc1
 have HB := Aside0.mk (Below.refl w.heap.size w)
 have H : (if (l0.length : Int) > 400 then (spec_PatchOf.j0 k l0 l1 true) else (spec_PatchOf.j0 k l0 l1 (decide ((l1.length : Int) > 400)))) = some (r1, r2) := h
 clear h
 have HC3 := Aside0.mk H
 clear H
 go_enter Try.func6, Try.ntmps6
 go_upto_region 1 with (fail)
 go_cut [20] (fun v20 wc => ∃ (kq : Nat) (x20_2 : Bool), v20 = .bool x20_2 ∧ Aside0 (spec_PatchOf.j0 kq l0 l1 x20_2 = some (r1, r2)) ∧ Aside0 (kq ≤ k) ∧ Aside0 (Below w.heap.size w wc))
 case first =>
  have H := HC3.out
  clear HC3
  by_cases c4 : (l0.length : Int) > 400
  ·rw [if_pos c4] at H
   have c4b0 : decide (400 < (l0.length : Int)) = true := decide_eq_true c4
   have c4b1 : decide (400 < l0.length) = true := decide_eq_true (by omega)
   clear c4
   (first | rw [c4b0] | (simp only [i64_w, i32_w]; rw [c4b0]) | (rw [c4b2]; simp only [Bool.not_false, Bool.not_true]) | skip)
   have H' := Aside0.mk H
   clear H
   go_wp2
   go_meet
   case rel => exact ⟨_, (true), tE, H', ⟨by first | omega | exact Nat.le_refl _⟩, ⟨by repeat (first | (with_reducible first | exact HB.out | apply below_alloc | apply pw_below_drewN | apply below_drew1) | exact HB.out)⟩⟩
  ·rw [if_neg c4] at H
   have c4b0 : decide (400 < (l0.length : Int)) = false := decide_eq_false c4
   have c4b1 : decide (400 < l0.length) = false := decide_eq_false (by omega)
   clear c4
   (first | rw [c4b0] | (simp only [i64_w, i32_w]; rw [c4b0]) | (rw [c4b2]; simp only [Bool.not_false, Bool.not_true]) | skip)
   have H' := Aside0.mk H
   clear H
   go_wp2
   go_meet
   case rel => exact ⟨_, (decide ((l1.length : Int) > 400)), tE, H', ⟨by first | omega | exact Nat.le_refl _⟩, ⟨by repeat (first | (with_reducible first | exact HB.out | apply below_alloc | apply pw_below_drewN | apply below_drew1) | exact HB.out)⟩⟩
 case rest =>
  clear HC3
  try clear c1
  try clear p2
  try clear c4
  try clear c4b0
  try clear c4b1
  try clear c4b2
  obtain ⟨kq, x20_2, rfl, HA, HJ2, HB⟩ := hcut
  cases kq with
  | zero => exact absurd HA.out (by simp [spec_PatchOf.j0])
  | succ kj2 =>
   have H := HA.out
   clear HA
   simp only [spec_PatchOf.j0] at H
   by_cases c5 : x20_2 = true
   ·subst c5
    have H1 : (some (([] : List (S62)), false)) = some (r1, r2) := by rw [if_pos rfl] at H; exact H
    clear H
    have H := H1
    clear H1
    simp only [Option.some.injEq, Prod.mk.injEq] at H
    obtain ⟨rfl, rfl⟩ := H
    go_wp2
    go_ret2
    exact ⟨_, eE, by first | exact Kd.S_nil _ _ _ _ _ | exact Kd.N_nil _ _ _ _ _ | exact Kd.V_nil _ _ _ _ _ | exact Kd.Q_nil _ _ _ _ _ | exact Kd.R_nil _ _ _ _ _, lU⟩
   ·replace c5 := Bool.eq_false_iff.mpr c5
    subst c5
    have H1 : (spec_PatchOf.l0 kj2 l0 l1 ([] : List (S62)) 0) = some (r1, r2) := by rw [if_neg (show ¬ (false = true) by decide)] at H; exact H
    clear H
    have H := H1
    clear H1
    have H' := Aside0.mk H
    clear H
    go_wp2
    go_loopg [6, 7] kj2 (fun kq v6 v7 w' => ∃ (x6_2 : List (S62)) (x7_2 : Int), v7 = .int .i64 x7_2 ∧ Aside0 (spec_PatchOf.l0 kq l0 l1 x6_2 x7_2 = some (r1, r2)) ∧ Aside0 (kq ≤ kj2) ∧ Aside0 (Kd.S k62 62 w' w.heap.size (fun _ => True) v6 x6_2) ∧ Aside0 (Below w.heap.size w w'))
    case atStart => exact ⟨(([] : List (S62))), (0), tE, H', ⟨Nat.le_refl _⟩, ⟨by first | exact Kd.S_nil _ _ _ _ _ | exact Kd.N_nil _ _ _ _ _ | exact Kd.V_nil _ _ _ _ _ | exact Kd.Q_nil _ _ _ _ _ | exact Kd.R_nil _ _ _ _ _⟩, ⟨by repeat (first | (with_reducible first | exact HB.out | apply below_alloc | apply pw_below_drewN | apply below_drew1) | exact HB.out)⟩⟩
    case round =>
     clear H'
     try clear c1
     try clear p2
     try clear c4
     try clear c4b0
     try clear c4b1
     try clear c4b2
     try clear c5
     try clear p2
     obtain ⟨x6_2, x7_2, rfl, HA, HK2, HO_6, HB⟩ := hrel
     cases gk with
     | zero => exact absurd HA.out (by simp [spec_PatchOf.l0])
     | succ k2 =>
      have H := HA.out
      clear HA
      simp only [spec_PatchOf.l0] at H
      by_cases c6 : x7_2 < (l1.length : Int)
      ·rw [if_pos c6] at H
       have c6b0 : decide (x7_2 < (l1.length : Int)) = true := decide_eq_true c6
       clear c6
       have H' := Aside0.mk H
       clear H
       go_wp2
       go_loopg [8, 9, 27] k2 (fun kq v8 v9 v27 w' => ∃ (x8_3 : Int) (x9_3 : Int) (x27_3 : Int), v8 = .int .i64 x8_3 ∧ v9 = .int .i64 x9_3 ∧ v27 = .int .i64 x27_3 ∧ Aside0 (spec_PatchOf.l1 kq l0 l1 x6_2 x7_2 x8_3 x9_3 (l0.length : Int) x27_3 = some (r1, r2)) ∧ Aside0 (kq ≤ k2) ∧ Aside0 (Kd.S k62 62 w' w.heap.size (fun _ => True) u6 x6_2) ∧ Aside0 (Below w.heap.size w w'))
       case atStart => exact ⟨(0), (0), (0), tE, tE, tE, H', ⟨Nat.le_refl _⟩, ⟨by (with_reducible repeat (first | apply Kd.S_alloc | apply Kd.S_drewN | apply Kd.S_drew)); exact HO_6.out⟩, ⟨by repeat (first | (with_reducible first | exact HB.out | apply below_alloc | apply pw_below_drewN | apply below_drew1) | exact HB.out)⟩⟩
       case round =>
        clear H'
        try clear c1
        try clear p2
        try clear c4
        try clear c4b0
        try clear c4b1
        try clear c4b2
        try clear c5
        try clear c6
        try clear c6b0
        try clear p2
        obtain ⟨x8_3, x9_3, x27_3, rfl, rfl, rfl, HA, HK3, HO_6, HB⟩ := hrel
        cases gk with
        | zero => exact absurd HA.out (by simp [spec_PatchOf.l1])
        | succ k3 =>
         have H := HA.out
         clear HA
         simp only [spec_PatchOf.l1] at H
         by_cases c7 : x27_3 < (l0.length : Int)
         ·rw [if_pos c7] at H
          have c7b0 : decide (x27_3 < (l0.length : Int)) = true := decide_eq_true c7
          clear c7
          have H' := Aside0.mk H
          clear H
          go_wp2
          go_loopg [11] k3 (fun kq v11 w' => ∃ (x11_4 : Int), v11 = .int .i64 x11_4 ∧ Aside0 (spec_PatchOf.l2 kq l0 l1 x6_2 x7_2 x8_3 x9_3 x27_3 x11_4 (l0.length : Int) x27_3 = some (r1, r2)) ∧ Aside0 (kq ≤ k3) ∧ Aside0 (Kd.S k62 62 w' w.heap.size (fun _ => True) u6 x6_2) ∧ Aside0 (Below w.heap.size w w'))
          case atStart => exact ⟨(0), tE, H', ⟨Nat.le_refl _⟩, ⟨by (with_reducible repeat (first | apply Kd.S_alloc | apply Kd.S_drewN | apply Kd.S_drew)); exact HO_6.out⟩, ⟨by repeat (first | (with_reducible first | exact HB.out | apply below_alloc | apply pw_below_drewN | apply below_drew1) | exact HB.out)⟩⟩
          case round =>
           clear H'
           try clear c1
           try clear p2
           try clear c4
           try clear c4b0
           try clear c4b1
           try clear c4b2
           try clear c5
           try clear c6
           try clear c6b0
           try clear c7
           try clear c7b0
           try clear p2
           obtain ⟨x11_4, rfl, HA, HK4, HO_6, HB⟩ := hrel
           cases gk with
           | zero => exact absurd HA.out (by simp [spec_PatchOf.l2])
           | succ k4 =>
            have H := HA.out
            clear HA
            simp only [spec_PatchOf.l2] at H
            by_cases c8 : (wrap64 (x27_3 + x11_4)) < (l0.length : Int)
            ·rw [if_pos c8] at H
             have c8b0 : decide ((wrap64 (x27_3 + x11_4)) < (l0.length : Int)) = true := decide_eq_true c8
             clear c8
             by_cases c9 : (wrap64 (x7_2 + x11_4)) < (l1.length : Int)
             ·rw [if_pos c9] at H
              have c9b0 : decide ((wrap64 (x7_2 + x11_4)) < (l1.length : Int)) = true := decide_eq_true c9
              clear c9
              obtain ⟨ji10, hji10⟩ : ∃ j_ : Int, (wrap64 (x27_3 + x11_4)) = j_ := ⟨_, rfl⟩
              replace H : (if 0 ≤ (ji10) then (if 0 ≤ (wrap64 (x7_2 + x11_4)) then (if (rd l0 (ji10)) = (rd l1 (wrap64 (x7_2 + x11_4))) then (spec_PatchOf.l2 k4 l0 l1 x6_2 x7_2 x8_3 x9_3 x27_3 (wrap64 (x11_4 + 1)) (l0.length : Int) x27_3) else (if x11_4 > x9_3 then (spec_PatchOf.l1 k4 l0 l1 x6_2 x7_2 x27_3 x11_4 (l0.length : Int) (wrap64 (x27_3 + 1))) else (spec_PatchOf.l1 k4 l0 l1 x6_2 x7_2 x8_3 x9_3 (l0.length : Int) (wrap64 (x27_3 + 1))))) else (none)) else (none)) = some (r1, r2) := by first | (rw [hji10] at H; exact H) | (simp only [hji10] at H ⊢; exact H)
              (try rw [hji10] at c8b0)
              have hji10w : (IntKind.i64.wrap (x27_3 + x11_4)) = ji10 := (i64_w _).trans hji10
              by_cases c11 : 0 ≤ (ji10)
              ·rw [if_pos c11] at H
               have c11b0 : decide (0 ≤ (ji10)) = true := decide_eq_true c11
               clear c11
               obtain ⟨ji12, hji12⟩ : ∃ j_ : Int, (wrap64 (x7_2 + x11_4)) = j_ := ⟨_, rfl⟩
               replace H : (if 0 ≤ (ji12) then (if (rd l0 (ji10)) = (rd l1 (ji12)) then (spec_PatchOf.l2 k4 l0 l1 x6_2 x7_2 x8_3 x9_3 x27_3 (wrap64 (x11_4 + 1)) (l0.length : Int) x27_3) else (if x11_4 > x9_3 then (spec_PatchOf.l1 k4 l0 l1 x6_2 x7_2 x27_3 x11_4 (l0.length : Int) (wrap64 (x27_3 + 1))) else (spec_PatchOf.l1 k4 l0 l1 x6_2 x7_2 x8_3 x9_3 (l0.length : Int) (wrap64 (x27_3 + 1))))) else (none)) = some (r1, r2) := by first | (rw [hji12] at H; exact H) | (simp only [hji12] at H ⊢; exact H)
               (try rw [hji12] at c9b0)
               have hji12w : (IntKind.i64.wrap (x7_2 + x11_4)) = ji12 := (i64_w _).trans hji12
               by_cases c13 : 0 ≤ (ji12)
               ·rw [if_pos c13] at H
                have c13b0 : decide (0 ≤ (ji12)) = true := decide_eq_true c13
                clear c13
                by_cases c14 : (rd l0 (ji10)) = (rd l1 (ji12))
                ·rw [if_pos c14] at H
                 have c14b0 : ((rd l0 (ji10)) == (rd l1 (ji12))) = true := beq_iff_eq.mpr c14
                 have c14b1 : ((rd l0 (ji10)) != (rd l1 (ji12))) = false := bne_eq_false_iff_eq.mpr c14
                 clear c14
                 have H' := Aside0.mk H
                 clear H
                 try go_wp2
                 replace HO_6 := Aside0.mk (Kd.S_drew HO_6.out)
                 replace HB := Aside0.mk (below_drew1 HB.out)
                 have p101 : 0 ≤ ((ji10) : Int) := of_decide_eq_true hE
                 have q101 : (ji10) < (l0.length : Int) := of_decide_eq_true hE
                 obtain ⟨ad101, e101, hx101_0⟩ := Kd.at_int HR0.out (ji10) p101 q101
                 have hw101_0 := hx101_0
                 cases e101
                 replace hx101_0 := (HB.out.cell (World.block_lt_of_cell? w _ hx101_0)).trans hx101_0
                 replace p101 := eq_true p101
                 replace q101 := eq_true q101
                 have p102 : 0 ≤ ((ji12) : Int) := of_decide_eq_true hE
                 have q102 : (ji12) < (l1.length : Int) := of_decide_eq_true hE
                 obtain ⟨ad102, e102, hx102_0⟩ := Kd.at_int HR1.out (ji12) p102 q102
                 have hw102_0 := hx102_0
                 cases e102
                 replace hx102_0 := (HB.out.cell (World.block_lt_of_cell? w _ hx102_0)).trans hx102_0
                 replace p102 := eq_true p102
                 replace q102 := eq_true q102
                 refine start_ (n := 29) (S := fun w' => w'.cell? (ad101.add ((ji10)).toNat) = some (.int .u8 (rd l0 (ji10))) ∧ w'.cell? (ad102.add ((ji12)).toNat) = some (.int .u8 (rd l1 (ji12)))) (ds := []) #[false, false, false, false, false, false, false, false, false, false, false, false, false, false, false, false, false, false, false, false, false, false, false, false, false, false, false, false, false] (by kernel_rfl) rfl rfl ⟨((HB.out.cell (World.block_lt_of_cell? w _ hw101_0)).trans hw101_0), ((HB.out.cell (World.block_lt_of_cell? w _ hw102_0)).trans hw102_0)⟩ (fun hHeld => ?_); refine with_tabW spec_PatchOf.tab12 spec_PatchOf.bits12 (fun HT_ HW_ => ?_)
                 generalize wr.drew = w15 at HO_6 HB hx101_0 hx102_0 hHeld ⊢
                 refine pureA 0 30 (bz 29 1) rfl rfl (any_of HT_.out (by kernel_rfl)) ?_
                 refine pureA 1 31 (bz 29 3) rfl rfl (any_of HT_.out (by kernel_rfl)) ?_
                 refine pureA 2 32 (bz 29 7) rfl rfl (any_of HT_.out (by kernel_rfl)) ?_
                 refine pureA 3 33 (bz 29 15) rfl rfl (any_of HT_.out (by kernel_rfl)) ?_
                 refine pureA 4 34 (bz 29 31) rfl rfl (any_of HT_.out (by kernel_rfl)) ?_
                 refine pureA 5 35 (bz 29 63) rfl rfl (any_of HT_.out (by kernel_rfl)) ?_
                 refine pureA 6 36 (bz 29 127) rfl rfl (any_of HT_.out (by kernel_rfl)) ?_
                 refine pureA 7 37 (bz 29 255) rfl rfl (any_of HT_.out (by kernel_rfl)) ?_
                 refine pureA 8 38 (bz 29 511) rfl rfl (any_of HT_.out (by kernel_rfl)) ?_
                 refine pureA 9 39 (bz 29 1023) rfl rfl (any_of HT_.out (by kernel_rfl)) ?_
                 refine pureA 10 40 (bz 29 2047) rfl rfl (any_of HT_.out (by kernel_rfl)) ?_
                 refine pureA 11 41 (bz 29 4095) rfl rfl (any_of HT_.out (by kernel_rfl)) ?_
                 refine pureA 12 42 (bz 29 8191) rfl rfl (any_of HT_.out (by kernel_rfl)) ?_
                 refine pureA 13 43 (bz 29 16383) rfl rfl (any_of HT_.out (by kernel_rfl)) ?_
                 refine pureA 14 44 (bz 29 32767) rfl rfl (any_of HT_.out (by kernel_rfl)) ?_
                 refine pureA 15 45 (bz 29 65535) rfl rfl (any_of HT_.out (by kernel_rfl)) ?_
                 refine pureA 16 46 (bz 29 131071) rfl rfl (any_of HT_.out (by kernel_rfl)) ?_
                 refine pureA 17 47 (bz 29 262143) rfl rfl (any_of HT_.out (by kernel_rfl)) ?_
                 refine pureA 18 48 (bz 29 524287) rfl rfl (any_of HT_.out (by kernel_rfl)) ?_
                 refine pureA 19 49 (bz 29 1048575) rfl rfl (any_of HT_.out (by kernel_rfl)) ?_
                 refine pureA 21 51 (bz 29 3145727) rfl rfl (any_of HT_.out (by kernel_rfl)) ?_
                 refine pureA 22 52 (bz 29 7340031) rfl rfl (any_of HT_.out (by kernel_rfl)) ?_
                 refine pureA 23 53 (bz 29 15728639) rfl rfl (any_of HT_.out (by kernel_rfl)) ?_
                 refine pureA 24 54 (bz 29 32505855) rfl rfl (any_of HT_.out (by kernel_rfl)) ?_
                 refine pureA 25 55 (bz 29 66060287) rfl rfl (any_of HT_.out (by kernel_rfl)) ?_
                 refine takeA 20 50 (bz 29 67108863) rfl rfl (take_ofW HT_.out HW_.out (by kernel_rfl)) hHeld (by rintro w' ⟨s0, s1⟩; go_simp; with_reducible rfl) ?_
                 refine takeA 26 56 (bz 29 134217727) rfl rfl (take_ofW HT_.out HW_.out (by kernel_rfl)) hHeld (by rintro w' ⟨s0, s1⟩; go_simp; with_reducible rfl) ?_
                 refine pureA 27 57 (bz 29 268435455) rfl rfl (any_of HT_.out (by kernel_rfl)) ?_
                 refine pureA 28 58 (bz 29 536870911) rfl rfl (any_of HT_.out (by kernel_rfl)) ?_
                 refine done_ (done_of HT_.out (by kernel_rfl)) ?_
                 try go_wp2
                 go_roundg k4
                 case measure => have := HJ2.out; have := HK2.out; have := HK3.out; have := HK4.out; omega
                 case rel => exact ⟨(wrap64 (x11_4 + 1)), tE, H', ⟨by have := HJ2.out; have := HK2.out; have := HK3.out; have := HK4.out; omega⟩, ⟨by (with_reducible repeat (first | apply Kd.S_alloc | apply Kd.S_drewN | apply Kd.S_drew)); exact HO_6.out⟩, ⟨by repeat (first | (with_reducible first | exact HB.out | apply below_alloc | apply pw_below_drewN | apply below_drew1) | exact HB.out)⟩⟩
                ·rw [if_neg c14] at H
                 have c14b0 : ((rd l0 (ji10)) == (rd l1 (ji12))) = false := beq_eq_false_iff_ne.mpr c14
                 have c14b1 : ((rd l0 (ji10)) != (rd l1 (ji12))) = true := bne_iff_ne.mpr c14
                 by_cases c16 : x11_4 > x9_3
                 ·rw [if_pos c16] at H
                  have c16b0 : decide (x9_3 < x11_4) = true := decide_eq_true c16
                  clear c16
                  have H' := Aside0.mk H
                  clear H
                  try go_wp2
                  replace HO_6 := Aside0.mk (Kd.S_drew HO_6.out)
                  replace HB := Aside0.mk (below_drew1 HB.out)
                  have p101 : 0 ≤ ((ji10) : Int) := of_decide_eq_true hE
                  have q101 : (ji10) < (l0.length : Int) := of_decide_eq_true hE
                  obtain ⟨ad101, e101, hx101_0⟩ := Kd.at_int HR0.out (ji10) p101 q101
                  have hw101_0 := hx101_0
                  cases e101
                  replace hx101_0 := (HB.out.cell (World.block_lt_of_cell? w _ hx101_0)).trans hx101_0
                  replace p101 := eq_true p101
                  replace q101 := eq_true q101
                  have p102 : 0 ≤ ((ji12) : Int) := of_decide_eq_true hE
                  have q102 : (ji12) < (l1.length : Int) := of_decide_eq_true hE
                  obtain ⟨ad102, e102, hx102_0⟩ := Kd.at_int HR1.out (ji12) p102 q102
                  have hw102_0 := hx102_0
                  cases e102
                  replace hx102_0 := (HB.out.cell (World.block_lt_of_cell? w _ hx102_0)).trans hx102_0
                  replace p102 := eq_true p102
                  replace q102 := eq_true q102
                  refine start_ (n := 29) (S := fun w' => w'.cell? (ad101.add ((ji10)).toNat) = some (.int .u8 (rd l0 (ji10))) ∧ w'.cell? (ad102.add ((ji12)).toNat) = some (.int .u8 (rd l1 (ji12)))) (ds := []) #[false, false, false, false, false, false, false, false, false, false, false, false, false, false, false, false, false, false, false, false, false, false, false, false, false, false, false, false, false] (by kernel_rfl) rfl rfl ⟨((HB.out.cell (World.block_lt_of_cell? w _ hw101_0)).trans hw101_0), ((HB.out.cell (World.block_lt_of_cell? w _ hw102_0)).trans hw102_0)⟩ (fun hHeld => ?_); refine with_tabW spec_PatchOf.tab12 spec_PatchOf.bits12 (fun HT_ HW_ => ?_)
                  generalize wr.drew = w17 at HO_6 HB hx101_0 hx102_0 hHeld ⊢
                  refine pureA 0 30 (bz 29 1) rfl rfl (any_of HT_.out (by kernel_rfl)) ?_
                  refine pureA 1 31 (bz 29 3) rfl rfl (any_of HT_.out (by kernel_rfl)) ?_
                  refine pureA 2 32 (bz 29 7) rfl rfl (any_of HT_.out (by kernel_rfl)) ?_
                  refine pureA 3 33 (bz 29 15) rfl rfl (any_of HT_.out (by kernel_rfl)) ?_
                  refine pureA 4 34 (bz 29 31) rfl rfl (any_of HT_.out (by kernel_rfl)) ?_
                  refine pureA 5 35 (bz 29 63) rfl rfl (any_of HT_.out (by kernel_rfl)) ?_
                  refine pureA 6 36 (bz 29 127) rfl rfl (any_of HT_.out (by kernel_rfl)) ?_
                  refine pureA 7 37 (bz 29 255) rfl rfl (any_of HT_.out (by kernel_rfl)) ?_
                  refine pureA 8 38 (bz 29 511) rfl rfl (any_of HT_.out (by kernel_rfl)) ?_
                  refine pureA 9 39 (bz 29 1023) rfl rfl (any_of HT_.out (by kernel_rfl)) ?_
                  refine pureA 10 40 (bz 29 2047) rfl rfl (any_of HT_.out (by kernel_rfl)) ?_
                  refine pureA 11 41 (bz 29 4095) rfl rfl (any_of HT_.out (by kernel_rfl)) ?_
                  refine pureA 12 42 (bz 29 8191) rfl rfl (any_of HT_.out (by kernel_rfl)) ?_
                  refine pureA 13 43 (bz 29 16383) rfl rfl (any_of HT_.out (by kernel_rfl)) ?_
                  refine pureA 14 44 (bz 29 32767) rfl rfl (any_of HT_.out (by kernel_rfl)) ?_
                  refine pureA 15 45 (bz 29 65535) rfl rfl (any_of HT_.out (by kernel_rfl)) ?_
                  refine pureA 16 46 (bz 29 131071) rfl rfl (any_of HT_.out (by kernel_rfl)) ?_
                  refine pureA 17 47 (bz 29 262143) rfl rfl (any_of HT_.out (by kernel_rfl)) ?_
                  refine pureA 18 48 (bz 29 524287) rfl rfl (any_of HT_.out (by kernel_rfl)) ?_
                  refine pureA 19 49 (bz 29 1048575) rfl rfl (any_of HT_.out (by kernel_rfl)) ?_
                  refine pureA 21 51 (bz 29 3145727) rfl rfl (any_of HT_.out (by kernel_rfl)) ?_
                  refine pureA 22 52 (bz 29 7340031) rfl rfl (any_of HT_.out (by kernel_rfl)) ?_
                  refine pureA 23 53 (bz 29 15728639) rfl rfl (any_of HT_.out (by kernel_rfl)) ?_
                  refine pureA 24 54 (bz 29 32505855) rfl rfl (any_of HT_.out (by kernel_rfl)) ?_
                  refine pureA 25 55 (bz 29 66060287) rfl rfl (any_of HT_.out (by kernel_rfl)) ?_
                  refine takeA 20 50 (bz 29 67108863) rfl rfl (take_ofW HT_.out HW_.out (by kernel_rfl)) hHeld (by rintro w' ⟨s0, s1⟩; go_simp; with_reducible rfl) ?_
                  refine takeA 26 56 (bz 29 134217727) rfl rfl (take_ofW HT_.out HW_.out (by kernel_rfl)) hHeld (by rintro w' ⟨s0, s1⟩; go_simp; with_reducible rfl) ?_
                  refine pureA 27 57 (bz 29 268435455) rfl rfl (any_of HT_.out (by kernel_rfl)) ?_
                  refine pureA 28 58 (bz 29 536870911) rfl rfl (any_of HT_.out (by kernel_rfl)) ?_
                  refine done_ (done_of HT_.out (by kernel_rfl)) ?_
                  try go_wp2
                  go_roundg k4
                  case measure => have := HJ2.out; have := HK2.out; have := HK3.out; have := HK4.out; omega
                  case rel => exact ⟨(x27_3), (x11_4), (wrap64 (x27_3 + 1)), tE, tE, tE, H', ⟨by have := HJ2.out; have := HK2.out; have := HK3.out; have := HK4.out; omega⟩, ⟨by (with_reducible repeat (first | apply Kd.S_alloc | apply Kd.S_drewN | apply Kd.S_drew)); exact HO_6.out⟩, ⟨by repeat (first | (with_reducible first | exact HB.out | apply below_alloc | apply pw_below_drewN | apply below_drew1) | exact HB.out)⟩⟩
                 ·rw [if_neg c16] at H
                  have c16b0 : decide (x9_3 < x11_4) = false := decide_eq_false c16
                  clear c16
                  have H' := Aside0.mk H
                  clear H
                  try go_wp2
                  replace HO_6 := Aside0.mk (Kd.S_drew HO_6.out)
                  replace HB := Aside0.mk (below_drew1 HB.out)
                  have p101 : 0 ≤ ((ji10) : Int) := of_decide_eq_true hE
                  have q101 : (ji10) < (l0.length : Int) := of_decide_eq_true hE
                  obtain ⟨ad101, e101, hx101_0⟩ := Kd.at_int HR0.out (ji10) p101 q101
                  have hw101_0 := hx101_0
                  cases e101
                  replace hx101_0 := (HB.out.cell (World.block_lt_of_cell? w _ hx101_0)).trans hx101_0
                  replace p101 := eq_true p101
                  replace q101 := eq_true q101
                  have p102 : 0 ≤ ((ji12) : Int) := of_decide_eq_true hE
                  have q102 : (ji12) < (l1.length : Int) := of_decide_eq_true hE
                  obtain ⟨ad102, e102, hx102_0⟩ := Kd.at_int HR1.out (ji12) p102 q102
                  have hw102_0 := hx102_0
                  cases e102
                  replace hx102_0 := (HB.out.cell (World.block_lt_of_cell? w _ hx102_0)).trans hx102_0
                  replace p102 := eq_true p102
                  replace q102 := eq_true q102
                  refine start_ (n := 29) (S := fun w' => w'.cell? (ad101.add ((ji10)).toNat) = some (.int .u8 (rd l0 (ji10))) ∧ w'.cell? (ad102.add ((ji12)).toNat) = some (.int .u8 (rd l1 (ji12)))) (ds := []) #[false, false, false, false, false, false, false, false, false, false, false, false, false, false, false, false, false, false, false, false, false, false, false, false, false, false, false, false, false] (by kernel_rfl) rfl rfl ⟨((HB.out.cell (World.block_lt_of_cell? w _ hw101_0)).trans hw101_0), ((HB.out.cell (World.block_lt_of_cell? w _ hw102_0)).trans hw102_0)⟩ (fun hHeld => ?_); refine with_tabW spec_PatchOf.tab12 spec_PatchOf.bits12 (fun HT_ HW_ => ?_)
                  generalize wr.drew = w18 at HO_6 HB hx101_0 hx102_0 hHeld ⊢
                  refine pureA 0 30 (bz 29 1) rfl rfl (any_of HT_.out (by kernel_rfl)) ?_
                  refine pureA 1 31 (bz 29 3) rfl rfl (any_of HT_.out (by kernel_rfl)) ?_
                  refine pureA 2 32 (bz 29 7) rfl rfl (any_of HT_.out (by kernel_rfl)) ?_
                  refine pureA 3 33 (bz 29 15) rfl rfl (any_of HT_.out (by kernel_rfl)) ?_
                  refine pureA 4 34 (bz 29 31) rfl rfl (any_of HT_.out (by kernel_rfl)) ?_
                  refine pureA 5 35 (bz 29 63) rfl rfl (any_of HT_.out (by kernel_rfl)) ?_
                  refine pureA 6 36 (bz 29 127) rfl rfl (any_of HT_.out (by kernel_rfl)) ?_
                  refine pureA 7 37 (bz 29 255) rfl rfl (any_of HT_.out (by kernel_rfl)) ?_
                  refine pureA 8 38 (bz 29 511) rfl rfl (any_of HT_.out (by kernel_rfl)) ?_
                  refine pureA 9 39 (bz 29 1023) rfl rfl (any_of HT_.out (by kernel_rfl)) ?_
                  refine pureA 10 40 (bz 29 2047) rfl rfl (any_of HT_.out (by kernel_rfl)) ?_
                  refine pureA 11 41 (bz 29 4095) rfl rfl (any_of HT_.out (by kernel_rfl)) ?_
                  refine pureA 12 42 (bz 29 8191) rfl rfl (any_of HT_.out (by kernel_rfl)) ?_
                  refine pureA 13 43 (bz 29 16383) rfl rfl (any_of HT_.out (by kernel_rfl)) ?_
                  refine pureA 14 44 (bz 29 32767) rfl rfl (any_of HT_.out (by kernel_rfl)) ?_
                  refine pureA 15 45 (bz 29 65535) rfl rfl (any_of HT_.out (by kernel_rfl)) ?_
                  refine pureA 16 46 (bz 29 131071) rfl rfl (any_of HT_.out (by kernel_rfl)) ?_
                  refine pureA 17 47 (bz 29 262143) rfl rfl (any_of HT_.out (by kernel_rfl)) ?_
                  refine pureA 18 48 (bz 29 524287) rfl rfl (any_of HT_.out (by kernel_rfl)) ?_
                  refine pureA 19 49 (bz 29 1048575) rfl rfl (any_of HT_.out (by kernel_rfl)) ?_
                  refine pureA 21 51 (bz 29 3145727) rfl rfl (any_of HT_.out (by kernel_rfl)) ?_
                  refine pureA 22 52 (bz 29 7340031) rfl rfl (any_of HT_.out (by kernel_rfl)) ?_
                  refine pureA 23 53 (bz 29 15728639) rfl rfl (any_of HT_.out (by kernel_rfl)) ?_
                  refine pureA 24 54 (bz 29 32505855) rfl rfl (any_of HT_.out (by kernel_rfl)) ?_
                  refine pureA 25 55 (bz 29 66060287) rfl rfl (any_of HT_.out (by kernel_rfl)) ?_
                  refine takeA 20 50 (bz 29 67108863) rfl rfl (take_ofW HT_.out HW_.out (by kernel_rfl)) hHeld (by rintro w' ⟨s0, s1⟩; go_simp; with_reducible rfl) ?_
                  refine takeA 26 56 (bz 29 134217727) rfl rfl (take_ofW HT_.out HW_.out (by kernel_rfl)) hHeld (by rintro w' ⟨s0, s1⟩; go_simp; with_reducible rfl) ?_
                  refine pureA 27 57 (bz 29 268435455) rfl rfl (any_of HT_.out (by kernel_rfl)) ?_
                  refine pureA 28 58 (bz 29 536870911) rfl rfl (any_of HT_.out (by kernel_rfl)) ?_
                  refine done_ (done_of HT_.out (by kernel_rfl)) ?_
                  try go_wp2
                  go_roundg k4
                  case measure => have := HJ2.out; have := HK2.out; have := HK3.out; have := HK4.out; omega
                  case rel => exact ⟨(x8_3), (x9_3), (wrap64 (x27_3 + 1)), tE, tE, tE, H', ⟨by have := HJ2.out; have := HK2.out; have := HK3.out; have := HK4.out; omega⟩, ⟨by (with_reducible repeat (first | apply Kd.S_alloc | apply Kd.S_drewN | apply Kd.S_drew)); exact HO_6.out⟩, ⟨by repeat (first | (with_reducible first | exact HB.out | apply below_alloc | apply pw_below_drewN | apply below_drew1) | exact HB.out)⟩⟩
               ·rw [if_neg c13] at H
                exact absurd H (by simp)
              ·rw [if_neg c11] at H
               exact absurd H (by simp)
             ·rw [if_neg c9] at H
              have c9b0 : decide ((wrap64 (x7_2 + x11_4)) < (l1.length : Int)) = false := decide_eq_false c9
              clear c9
              by_cases c19 : x11_4 > x9_3
              ·rw [if_pos c19] at H
               have c19b0 : decide (x9_3 < x11_4) = true := decide_eq_true c19
               clear c19
               have H' := Aside0.mk H
               clear H
               try go_wp2
               replace HO_6 := Aside0.mk (Kd.S_drew HO_6.out)
               replace HB := Aside0.mk (below_drew1 HB.out)
               refine start_ (n := 29) (S := fun w' => True) (ds := []) #[false, false, false, false, false, false, false, false, false, false, false, false, false, false, false, false, false, false, false, false, false, false, false, false, false, false, false, false, false] (by kernel_rfl) rfl rfl trivial (fun hHeld => ?_); refine with_tabW spec_PatchOf.tab12 spec_PatchOf.bits12 (fun HT_ HW_ => ?_)
               generalize wr.drew = w20 at HO_6 HB hHeld ⊢
               refine pureA 0 30 (bz 29 1) rfl rfl (any_of HT_.out (by kernel_rfl)) ?_
               refine pureA 1 31 (bz 29 3) rfl rfl (any_of HT_.out (by kernel_rfl)) ?_
               refine pureA 2 32 (bz 29 7) rfl rfl (any_of HT_.out (by kernel_rfl)) ?_
               refine pureA 3 33 (bz 29 15) rfl rfl (any_of HT_.out (by kernel_rfl)) ?_
               refine pureA 4 34 (bz 29 31) rfl rfl (any_of HT_.out (by kernel_rfl)) ?_
               refine pureA 5 35 (bz 29 63) rfl rfl (any_of HT_.out (by kernel_rfl)) ?_
               refine pureA 6 36 (bz 29 127) rfl rfl (any_of HT_.out (by kernel_rfl)) ?_
               refine pureA 7 37 (bz 29 255) rfl rfl (any_of HT_.out (by kernel_rfl)) ?_
               refine pureA 8 38 (bz 29 511) rfl rfl (any_of HT_.out (by kernel_rfl)) ?_
               refine pureA 9 39 (bz 29 1023) rfl rfl (any_of HT_.out (by kernel_rfl)) ?_
               refine pureA 10 40 (bz 29 2047) rfl rfl (any_of HT_.out (by kernel_rfl)) ?_
               refine pureA 11 41 (bz 29 4095) rfl rfl (any_of HT_.out (by kernel_rfl)) ?_
               refine pureA 12 42 (bz 29 8191) rfl rfl (any_of HT_.out (by kernel_rfl)) ?_
               refine pureA 13 43 (bz 29 16383) rfl rfl (any_of HT_.out (by kernel_rfl)) ?_
               refine pureA 14 44 (bz 29 32767) rfl rfl (any_of HT_.out (by kernel_rfl)) ?_
               refine pureU 15 45 (bz 29 65535) rfl rfl (any_of HT_.out (by kernel_rfl)) ?_
               refine pureU 16 46 (bz 29 131071) rfl rfl (any_of HT_.out (by kernel_rfl)) ?_
               refine pureU 17 47 (bz 29 262143) rfl rfl (any_of HT_.out (by kernel_rfl)) ?_
               refine pureU 18 48 (bz 29 524287) rfl rfl (any_of HT_.out (by kernel_rfl)) ?_
               refine pureU 19 49 (bz 29 1048575) rfl rfl (any_of HT_.out (by kernel_rfl)) ?_
               refine pureU 20 50 (bz 29 2097151) rfl rfl (any_of HT_.out (by kernel_rfl)) ?_
               refine pureU 21 51 (bz 29 4194303) rfl rfl (any_of HT_.out (by kernel_rfl)) ?_
               refine pureU 22 52 (bz 29 8388607) rfl rfl (any_of HT_.out (by kernel_rfl)) ?_
               refine pureU 23 53 (bz 29 16777215) rfl rfl (any_of HT_.out (by kernel_rfl)) ?_
               refine pureU 24 54 (bz 29 33554431) rfl rfl (any_of HT_.out (by kernel_rfl)) ?_
               refine pureU 25 55 (bz 29 67108863) rfl rfl (any_of HT_.out (by kernel_rfl)) ?_
               refine pureU 26 56 (bz 29 134217727) rfl rfl (any_of HT_.out (by kernel_rfl)) ?_
               refine pureU 27 57 (bz 29 268435455) rfl rfl (any_of HT_.out (by kernel_rfl)) ?_
               refine pureA 28 58 (bz 29 536870911) rfl rfl (any_of HT_.out (by kernel_rfl)) ?_
               refine done_ (done_of HT_.out (by kernel_rfl)) ?_
               try go_wp2
               go_roundg k4
               case measure => have := HJ2.out; have := HK2.out; have := HK3.out; have := HK4.out; omega
               case rel => exact ⟨(x27_3), (x11_4), (wrap64 (x27_3 + 1)), tE, tE, tE, H', ⟨by have := HJ2.out; have := HK2.out; have := HK3.out; have := HK4.out; omega⟩, ⟨by (with_reducible repeat (first | apply Kd.S_alloc | apply Kd.S_drewN | apply Kd.S_drew)); exact HO_6.out⟩, ⟨by repeat (first | (with_reducible first | exact HB.out | apply below_alloc | apply pw_below_drewN | apply below_drew1) | exact HB.out)⟩⟩
              ·rw [if_neg c19] at H
               have c19b0 : decide (x9_3 < x11_4) = false := decide_eq_false c19
               clear c19
               have H' := Aside0.mk H
               clear H
               try go_wp2
               replace HO_6 := Aside0.mk (Kd.S_drew HO_6.out)
               replace HB := Aside0.mk (below_drew1 HB.out)
               refine start_ (n := 29) (S := fun w' => True) (ds := []) #[false, false, false, false, false, false, false, false, false, false, false, false, false, false, false, false, false, false, false, false, false, false, false, false, false, false, false, false, false] (by kernel_rfl) rfl rfl trivial (fun hHeld => ?_); refine with_tabW spec_PatchOf.tab12 spec_PatchOf.bits12 (fun HT_ HW_ => ?_)
               generalize wr.drew = w21 at HO_6 HB hHeld ⊢
               refine pureA 0 30 (bz 29 1) rfl rfl (any_of HT_.out (by kernel_rfl)) ?_
               refine pureA 1 31 (bz 29 3) rfl rfl (any_of HT_.out (by kernel_rfl)) ?_
               refine pureA 2 32 (bz 29 7) rfl rfl (any_of HT_.out (by kernel_rfl)) ?_
               refine pureA 3 33 (bz 29 15) rfl rfl (any_of HT_.out (by kernel_rfl)) ?_
               refine pureA 4 34 (bz 29 31) rfl rfl (any_of HT_.out (by kernel_rfl)) ?_
               refine pureA 5 35 (bz 29 63) rfl rfl (any_of HT_.out (by kernel_rfl)) ?_
               refine pureA 6 36 (bz 29 127) rfl rfl (any_of HT_.out (by kernel_rfl)) ?_
               refine pureA 7 37 (bz 29 255) rfl rfl (any_of HT_.out (by kernel_rfl)) ?_
               refine pureA 8 38 (bz 29 511) rfl rfl (any_of HT_.out (by kernel_rfl)) ?_
               refine pureA 9 39 (bz 29 1023) rfl rfl (any_of HT_.out (by kernel_rfl)) ?_
               refine pureA 10 40 (bz 29 2047) rfl rfl (any_of HT_.out (by kernel_rfl)) ?_
               refine pureA 11 41 (bz 29 4095) rfl rfl (any_of HT_.out (by kernel_rfl)) ?_
               refine pureA 12 42 (bz 29 8191) rfl rfl (any_of HT_.out (by kernel_rfl)) ?_
               refine pureA 13 43 (bz 29 16383) rfl rfl (any_of HT_.out (by kernel_rfl)) ?_
               refine pureA 14 44 (bz 29 32767) rfl rfl (any_of HT_.out (by kernel_rfl)) ?_
               refine pureU 15 45 (bz 29 65535) rfl rfl (any_of HT_.out (by kernel_rfl)) ?_
               refine pureU 16 46 (bz 29 131071) rfl rfl (any_of HT_.out (by kernel_rfl)) ?_
               refine pureU 17 47 (bz 29 262143) rfl rfl (any_of HT_.out (by kernel_rfl)) ?_
               refine pureU 18 48 (bz 29 524287) rfl rfl (any_of HT_.out (by kernel_rfl)) ?_
               refine pureU 19 49 (bz 29 1048575) rfl rfl (any_of HT_.out (by kernel_rfl)) ?_
               refine pureU 20 50 (bz 29 2097151) rfl rfl (any_of HT_.out (by kernel_rfl)) ?_
               refine pureU 21 51 (bz 29 4194303) rfl rfl (any_of HT_.out (by kernel_rfl)) ?_
               refine pureU 22 52 (bz 29 8388607) rfl rfl (any_of HT_.out (by kernel_rfl)) ?_
               refine pureU 23 53 (bz 29 16777215) rfl rfl (any_of HT_.out (by kernel_rfl)) ?_
               refine pureU 24 54 (bz 29 33554431) rfl rfl (any_of HT_.out (by kernel_rfl)) ?_
               refine pureU 25 55 (bz 29 67108863) rfl rfl (any_of HT_.out (by kernel_rfl)) ?_
               refine pureU 26 56 (bz 29 134217727) rfl rfl (any_of HT_.out (by kernel_rfl)) ?_
               refine pureU 27 57 (bz 29 268435455) rfl rfl (any_of HT_.out (by kernel_rfl)) ?_
               refine pureA 28 58 (bz 29 536870911) rfl rfl (any_of HT_.out (by kernel_rfl)) ?_
               refine done_ (done_of HT_.out (by kernel_rfl)) ?_
               try go_wp2
               go_roundg k4
               case measure => have := HJ2.out; have := HK2.out; have := HK3.out; have := HK4.out; omega
               case rel => exact ⟨(x8_3), (x9_3), (wrap64 (x27_3 + 1)), tE, tE, tE, H', ⟨by have := HJ2.out; have := HK2.out; have := HK3.out; have := HK4.out; omega⟩, ⟨by (with_reducible repeat (first | apply Kd.S_alloc | apply Kd.S_drewN | apply Kd.S_drew)); exact HO_6.out⟩, ⟨by repeat (first | (with_reducible first | exact HB.out | apply below_alloc | apply pw_below_drewN | apply below_drew1) | exact HB.out)⟩⟩
            ·rw [if_neg c8] at H
             have c8b0 : decide ((wrap64 (x27_3 + x11_4)) < (l0.length : Int)) = false := decide_eq_false c8
             clear c8
             by_cases c22 : x11_4 > x9_3
             ·rw [if_pos c22] at H
              have c22b0 : decide (x9_3 < x11_4) = true := decide_eq_true c22
              clear c22
              have H' := Aside0.mk H
              clear H
              try go_wp2
              replace HO_6 := Aside0.mk (Kd.S_drew HO_6.out)
              replace HB := Aside0.mk (below_drew1 HB.out)
              refine start_ (n := 29) (S := fun w' => True) (ds := []) #[false, false, false, false, false, false, false, false, false, false, false, false, false, false, false, false, false, false, false, false, false, false, false, false, false, false, false, false, false] (by kernel_rfl) rfl rfl trivial (fun hHeld => ?_); refine with_tabW spec_PatchOf.tab12 spec_PatchOf.bits12 (fun HT_ HW_ => ?_)
              generalize wr.drew = w23 at HO_6 HB hHeld ⊢
              refine pureA 0 30 (bz 29 1) rfl rfl (any_of HT_.out (by kernel_rfl)) ?_
              refine pureA 1 31 (bz 29 3) rfl rfl (any_of HT_.out (by kernel_rfl)) ?_
              refine pureA 2 32 (bz 29 7) rfl rfl (any_of HT_.out (by kernel_rfl)) ?_
              refine pureA 3 33 (bz 29 15) rfl rfl (any_of HT_.out (by kernel_rfl)) ?_
              refine pureA 4 34 (bz 29 31) rfl rfl (any_of HT_.out (by kernel_rfl)) ?_
              refine pureA 5 35 (bz 29 63) rfl rfl (any_of HT_.out (by kernel_rfl)) ?_
              refine pureA 6 36 (bz 29 127) rfl rfl (any_of HT_.out (by kernel_rfl)) ?_
              refine pureU 7 37 (bz 29 255) rfl rfl (any_of HT_.out (by kernel_rfl)) ?_
              refine pureU 8 38 (bz 29 511) rfl rfl (any_of HT_.out (by kernel_rfl)) ?_
              refine pureU 9 39 (bz 29 1023) rfl rfl (any_of HT_.out (by kernel_rfl)) ?_
              refine pureU 10 40 (bz 29 2047) rfl rfl (any_of HT_.out (by kernel_rfl)) ?_
              refine pureU 11 41 (bz 29 4095) rfl rfl (any_of HT_.out (by kernel_rfl)) ?_
              refine pureU 12 42 (bz 29 8191) rfl rfl (any_of HT_.out (by kernel_rfl)) ?_
              refine pureA 13 43 (bz 29 16383) rfl rfl (any_of HT_.out (by kernel_rfl)) ?_
              refine pureA 14 44 (bz 29 32767) rfl rfl (any_of HT_.out (by kernel_rfl)) ?_
              refine pureU 15 45 (bz 29 65535) rfl rfl (any_of HT_.out (by kernel_rfl)) ?_
              refine pureU 16 46 (bz 29 131071) rfl rfl (any_of HT_.out (by kernel_rfl)) ?_
              refine pureU 17 47 (bz 29 262143) rfl rfl (any_of HT_.out (by kernel_rfl)) ?_
              refine pureU 18 48 (bz 29 524287) rfl rfl (any_of HT_.out (by kernel_rfl)) ?_
              refine pureU 19 49 (bz 29 1048575) rfl rfl (any_of HT_.out (by kernel_rfl)) ?_
              refine pureU 20 50 (bz 29 2097151) rfl rfl (any_of HT_.out (by kernel_rfl)) ?_
              refine pureU 21 51 (bz 29 4194303) rfl rfl (any_of HT_.out (by kernel_rfl)) ?_
              refine pureU 22 52 (bz 29 8388607) rfl rfl (any_of HT_.out (by kernel_rfl)) ?_
              refine pureU 23 53 (bz 29 16777215) rfl rfl (any_of HT_.out (by kernel_rfl)) ?_
              refine pureU 24 54 (bz 29 33554431) rfl rfl (any_of HT_.out (by kernel_rfl)) ?_
              refine pureU 25 55 (bz 29 67108863) rfl rfl (any_of HT_.out (by kernel_rfl)) ?_
              refine pureU 26 56 (bz 29 134217727) rfl rfl (any_of HT_.out (by kernel_rfl)) ?_
              refine pureU 27 57 (bz 29 268435455) rfl rfl (any_of HT_.out (by kernel_rfl)) ?_
              refine pureA 28 58 (bz 29 536870911) rfl rfl (any_of HT_.out (by kernel_rfl)) ?_
              refine done_ (done_of HT_.out (by kernel_rfl)) ?_
              try go_wp2
              go_roundg k4
              case measure => have := HJ2.out; have := HK2.out; have := HK3.out; have := HK4.out; omega
              case rel => exact ⟨(x27_3), (x11_4), (wrap64 (x27_3 + 1)), tE, tE, tE, H', ⟨by have := HJ2.out; have := HK2.out; have := HK3.out; have := HK4.out; omega⟩, ⟨by (with_reducible repeat (first | apply Kd.S_alloc | apply Kd.S_drewN | apply Kd.S_drew)); exact HO_6.out⟩, ⟨by repeat (first | (with_reducible first | exact HB.out | apply below_alloc | apply pw_below_drewN | apply below_drew1) | exact HB.out)⟩⟩
             ·rw [if_neg c22] at H
              have c22b0 : decide (x9_3 < x11_4) = false := decide_eq_false c22
              clear c22
              have H' := Aside0.mk H
              clear H
              try go_wp2
              replace HO_6 := Aside0.mk (Kd.S_drew HO_6.out)
              replace HB := Aside0.mk (below_drew1 HB.out)
              refine start_ (n := 29) (S := fun w' => True) (ds := []) #[false, false, false, false, false, false, false, false, false, false, false, false, false, false, false, false, false, false, false, false, false, false, false, false, false, false, false, false, false] (by kernel_rfl) rfl rfl trivial (fun hHeld => ?_); refine with_tabW spec_PatchOf.tab12 spec_PatchOf.bits12 (fun HT_ HW_ => ?_)
              generalize wr.drew = w24 at HO_6 HB hHeld ⊢
              refine pureA 0 30 (bz 29 1) rfl rfl (any_of HT_.out (by kernel_rfl)) ?_
              refine pureA 1 31 (bz 29 3) rfl rfl (any_of HT_.out (by kernel_rfl)) ?_
              refine pureA 2 32 (bz 29 7) rfl rfl (any_of HT_.out (by kernel_rfl)) ?_
              refine pureA 3 33 (bz 29 15) rfl rfl (any_of HT_.out (by kernel_rfl)) ?_
              refine pureA 4 34 (bz 29 31) rfl rfl (any_of HT_.out (by kernel_rfl)) ?_
              refine pureA 5 35 (bz 29 63) rfl rfl (any_of HT_.out (by kernel_rfl)) ?_
              refine pureA 6 36 (bz 29 127) rfl rfl (any_of HT_.out (by kernel_rfl)) ?_
              refine pureU 7 37 (bz 29 255) rfl rfl (any_of HT_.out (by kernel_rfl)) ?_
              refine pureU 8 38 (bz 29 511) rfl rfl (any_of HT_.out (by kernel_rfl)) ?_
              refine pureU 9 39 (bz 29 1023) rfl rfl (any_of HT_.out (by kernel_rfl)) ?_
              refine pureU 10 40 (bz 29 2047) rfl rfl (any_of HT_.out (by kernel_rfl)) ?_
              refine pureU 11 41 (bz 29 4095) rfl rfl (any_of HT_.out (by kernel_rfl)) ?_
              refine pureU 12 42 (bz 29 8191) rfl rfl (any_of HT_.out (by kernel_rfl)) ?_
              refine pureA 13 43 (bz 29 16383) rfl rfl (any_of HT_.out (by kernel_rfl)) ?_
              refine pureA 14 44 (bz 29 32767) rfl rfl (any_of HT_.out (by kernel_rfl)) ?_
              refine pureU 15 45 (bz 29 65535) rfl rfl (any_of HT_.out (by kernel_rfl)) ?_
              refine pureU 16 46 (bz 29 131071) rfl rfl (any_of HT_.out (by kernel_rfl)) ?_
              refine pureU 17 47 (bz 29 262143) rfl rfl (any_of HT_.out (by kernel_rfl)) ?_
              refine pureU 18 48 (bz 29 524287) rfl rfl (any_of HT_.out (by kernel_rfl)) ?_
              refine pureU 19 49 (bz 29 1048575) rfl rfl (any_of HT_.out (by kernel_rfl)) ?_
              refine pureU 20 50 (bz 29 2097151) rfl rfl (any_of HT_.out (by kernel_rfl)) ?_
              refine pureU 21 51 (bz 29 4194303) rfl rfl (any_of HT_.out (by kernel_rfl)) ?_
              refine pureU 22 52 (bz 29 8388607) rfl rfl (any_of HT_.out (by kernel_rfl)) ?_
              refine pureU 23 53 (bz 29 16777215) rfl rfl (any_of HT_.out (by kernel_rfl)) ?_
              refine pureU 24 54 (bz 29 33554431) rfl rfl (any_of HT_.out (by kernel_rfl)) ?_
              refine pureU 25 55 (bz 29 67108863) rfl rfl (any_of HT_.out (by kernel_rfl)) ?_
              refine pureU 26 56 (bz 29 134217727) rfl rfl (any_of HT_.out (by kernel_rfl)) ?_
              refine pureU 27 57 (bz 29 268435455) rfl rfl (any_of HT_.out (by kernel_rfl)) ?_
              refine pureA 28 58 (bz 29 536870911) rfl rfl (any_of HT_.out (by kernel_rfl)) ?_
              refine done_ (done_of HT_.out (by kernel_rfl)) ?_
              try go_wp2
              go_roundg k4
              case measure => have := HJ2.out; have := HK2.out; have := HK3.out; have := HK4.out; omega
              case rel => exact ⟨(x8_3), (x9_3), (wrap64 (x27_3 + 1)), tE, tE, tE, H', ⟨by have := HJ2.out; have := HK2.out; have := HK3.out; have := HK4.out; omega⟩, ⟨by (with_reducible repeat (first | apply Kd.S_alloc | apply Kd.S_drewN | apply Kd.S_drew)); exact HO_6.out⟩, ⟨by repeat (first | (with_reducible first | exact HB.out | apply below_alloc | apply pw_below_drewN | apply below_drew1) | exact HB.out)⟩⟩
         ·rw [if_neg c7] at H
          have c7b0 : decide (x27_3 < (l0.length : Int)) = false := decide_eq_false c7
          clear c7
          by_cases c25 : x9_3 ≥ 4
          ·rw [if_pos c25] at H
           have c25b0 : decide (4 ≤ x9_3) = true := decide_eq_true c25
           clear c25
           by_cases c26 : x6_2.length < 3518437208883
           ·rw [if_pos c26] at H
            have LMc26 := Aside0.mk c26
            clear c26
            obtain ⟨y103, hy103⟩ : ∃ y_ : List (S62), y_ = (x6_2 ++ [(⟨x8_3, x9_3, ([] : List Int)⟩ : S62)]) := ⟨_, rfl⟩
            replace H : (spec_PatchOf.l0 k3 l0 l1 y103 (wrap64 (x7_2 + x9_3))) = some (r1, r2) := by first | (rw [hy103]; with_reducible exact H) | (have H2_ := (Option.bind_some _ _).symm.trans H; rw [hy103]; with_reducible exact H2_) | (have H2_ := (Option.bind_some _ _).symm.trans H; with_reducible exact H2_) | with_reducible exact H | (rw [hy103]; exact H) | exact H
            have Ny103 := Aside0.mk hy103
            clear hy103
            have H' := Aside0.mk H
            clear H
            go_wp2_with (first | ((with_reducible refine gate_builtin (b := .append) (xs := #[.tmp 69, .tmp 73]) rfl ?_); (try (refine gate_guard (by rfl) ?_; dsimp only)); at_builtin; refine Kd.S_append k62 (w0 := w) w.heap.size rfl (.tmp 69) (.tmp 73) 23 62 (.agg #[(.int .i64 0), (.int .i64 0), (.slice none 0 0)]) 40 rfl Try.underlying23 info62 rfl (by decide) (by omega) u6 x6_2 (⟨x8_3, x9_3, ([] : List Int)⟩ : S62) [.int .i64 x8_3, .int .i64 x9_3, .slice none 0 0] (fun _ => True) (fun _ => False) rfl rfl ?aP (fun k_ hk_ => hk_.elim) ?aF ?aO ?aB ?aS ?aL ?_; (case aP => exact k62_mkM _ _ _ (⟨x8_3, x9_3, ([] : List Int)⟩ : S62) (Kd.R_nil _ _ _ _ _)); (case aB => exact (lU)); (case aF => exact (fun _ _ => trivial)); (case aO => exact (by (with_reducible repeat (first | apply Kd.S_alloc | apply Kd.S_drewN | apply Kd.S_drew)); exact Kd.S_mono HO_6.out (fun k_ hk => ⟨trivial, fun e_ => e_⟩))); (case aS => exact (below_size (lU))); (case aL => have := LMc26.out; omega); intro v104 w27 ho hb hg hat; rw [← Ny103.out] at ho; replace HB := Aside0.mk hb; have HO105 := Aside0.mk ho; clear HO_6; clear ho hb hg hat))
            go_roundg k3
            case measure => have := HJ2.out; have := HK2.out; have := HK3.out; omega
            case rel => exact ⟨(y103), (wrap64 (x7_2 + x9_3)), tE, H', ⟨by have := HJ2.out; have := HK2.out; have := HK3.out; omega⟩, ⟨by (with_reducible repeat (first | apply Kd.S_alloc | apply Kd.S_drewN | apply Kd.S_drew)); exact HO105.out⟩, ⟨by repeat (first | (with_reducible first | exact HB.out | apply below_alloc | apply pw_below_drewN | apply below_drew1) | exact HB.out)⟩⟩
           ·rw [if_neg c26] at H
            exact absurd H (by simp)
          ·rw [if_neg c25] at H
           have c25b0 : decide (4 ≤ x9_3) = false := decide_eq_false c25
           clear c25
           by_cases c28 : (x6_2.length : Int) > 0
           ·rw [if_pos c28] at H
            have c28b0 : decide (0 < (x6_2.length : Int)) = true := decide_eq_true c28
            have c28b1 : decide (0 < x6_2.length) = true := decide_eq_true (by omega)
            clear c28
            obtain ⟨ji29, hji29⟩ : ∃ j_ : Int, (wrap64 ((x6_2.length : Int) - 1)) = j_ := ⟨_, rfl⟩
            replace H : (if 0 ≤ (ji29) then (if (ji29) < (x6_2.length : Int) then (if (((rd_T62 x6_2 (ji29)).f2).length : Int) > 0 then (if 0 ≤ x7_2 then (if x7_2 < (l1.length : Int) then (if ((rd_T62 x6_2 (ji29)).f2).length < 140737488355328 then (spec_PatchOf.l0 k3 l0 l1 (x6_2.set ((ji29) : Int).toNat (⟨(rd_T62 x6_2 (ji29)).f0, (rd_T62 x6_2 (ji29)).f1, (((rd_T62 x6_2 (ji29)).f2) ++ [rd l1 x7_2])⟩ : S62)) (wrap64 (x7_2 + 1))) else (none)) else (none)) else (none)) else (if 0 ≤ x7_2 then (if x7_2 < (l1.length : Int) then (if x6_2.length < 3518437208883 then (spec_PatchOf.l0 k3 l0 l1 (x6_2 ++ [(⟨0, 0, (([rd l1 x7_2] : List Int))⟩ : S62)]) (wrap64 (x7_2 + 1))) else (none)) else (none)) else (none))) else (none)) else (none)) = some (r1, r2) := by first | (rw [hji29] at H; exact H) | (simp only [hji29] at H ⊢; exact H)
            have hji29w : (IntKind.i64.wrap ((x6_2.length : Int) - 1)) = ji29 := (i64_w _).trans hji29
            by_cases c30 : 0 ≤ (ji29)
            ·rw [if_pos c30] at H
             have c30b0 : decide (0 ≤ (ji29)) = true := decide_eq_true c30
             clear c30
             by_cases c31 : (ji29) < (x6_2.length : Int)
             ·rw [if_pos c31] at H
              have c31b0 : decide ((ji29) < (x6_2.length : Int)) = true := decide_eq_true c31
              clear c31
              by_cases c32 : (((rd_T62 x6_2 (ji29)).f2).length : Int) > 0
              ·rw [if_pos c32] at H
               have c32b0 : decide (0 < (((rd_T62 x6_2 (ji29)).f2).length : Int)) = true := decide_eq_true c32
               have c32b1 : decide (0 < ((rd_T62 x6_2 (ji29)).f2).length) = true := decide_eq_true (by omega)
               clear c32
               by_cases c33 : 0 ≤ x7_2
               ·rw [if_pos c33] at H
                have c33b0 : decide (0 ≤ x7_2) = true := decide_eq_true c33
                clear c33
                by_cases c34 : x7_2 < (l1.length : Int)
                ·rw [if_pos c34] at H
                 have c34b0 : decide (x7_2 < (l1.length : Int)) = true := decide_eq_true c34
                 clear c34
                 by_cases c35 : ((rd_T62 x6_2 (ji29)).f2).length < 140737488355328
                 ·rw [if_pos c35] at H
                  have LMc35 := Aside0.mk c35
                  clear c35
                  obtain ⟨y109, hy109⟩ : ∃ y_ : List Int, y_ = (((rd_T62 x6_2 (ji29)).f2) ++ [rd l1 x7_2]) := ⟨_, rfl⟩
                  replace H : (spec_PatchOf.l0 k3 l0 l1 (x6_2.set ((ji29) : Int).toNat (⟨(rd_T62 x6_2 (ji29)).f0, (rd_T62 x6_2 (ji29)).f1, y109⟩ : S62)) (wrap64 (x7_2 + 1))) = some (r1, r2) := by first | (rw [hy109]; with_reducible exact H) | (have H2_ := (Option.bind_some _ _).symm.trans H; rw [hy109]; with_reducible exact H2_) | (have H2_ := (Option.bind_some _ _).symm.trans H; with_reducible exact H2_) | with_reducible exact H | (rw [hy109]; exact H) | exact H
                  have Ny109 := Aside0.mk hy109
                  clear hy109
                  obtain ⟨y112, hy112⟩ : ∃ y_ : List (S62), y_ = (x6_2.set ((ji29) : Int).toNat (⟨(rd_T62 x6_2 (ji29)).f0, (rd_T62 x6_2 (ji29)).f1, y109⟩ : S62)) := ⟨_, rfl⟩
                  replace H : (spec_PatchOf.l0 k3 l0 l1 y112 (wrap64 (x7_2 + 1))) = some (r1, r2) := by first | (rw [hy112]; with_reducible exact H) | (have H2_ := (Option.bind_some _ _).symm.trans H; rw [hy112]; with_reducible exact H2_) | (have H2_ := (Option.bind_some _ _).symm.trans H; with_reducible exact H2_) | with_reducible exact H | (rw [hy112]; exact H) | exact H
                  have Ny112 := Aside0.mk hy112
                  clear hy112
                  have H' := Aside0.mk H
                  clear H
                  obtain ⟨Ao37, co37, eo37⟩ := Kd.S_slice HO_6.out
                  subst eo37
                  have p106 : 0 ≤ ((ji29) : Int) := of_decide_eq_true hE
                  have q106 : (ji29) < (x6_2.length : Int) := of_decide_eq_true hE
                  obtain ⟨ad106, A106_2, c106_2, e106, hx106_0, hx106_1, hx106_2, hl106_2, hi106_2⟩ := at_T62 (Kd.S_reads' HO_6.out).2.2 (ji29) p106 q106
                  cases e106
                  obtain ⟨ce106, hce106, hMe106, hcc106⟩ := Kd.S_get HO_6.out z62 (ji29) p106 (by first | exact q106 | exact of_decide_eq_true hE | (have e_ := (Kd.S_reads' HO_6.out).1; omega))
                  obtain ⟨ve106_2, rfl, ge106_2⟩ := k62_openM hMe106
                  have hv106_2 := hcc106 2 _ rfl
                  rw [add_field _ _ 2 (by omega)] at hv106_2
                  replace hv106_2 := Option.some.inj (hv106_2.symm.trans hx106_2)
                  rw [hv106_2] at ge106_2
                  have HL106_2 := Aside0.mk (show Kd.R (Kd.int .u8) 5 _ _ _ _ ((rd_T62 x6_2 (ji29)).f2) from ge106_2)
                  clear hv106_2 ge106_2
                  have HX106_2 := Aside0.mk hx106_2
                  (try clear hcc106)
                  (try clear hce106)
                  have HR106_2 := Aside0.mk hi106_2
                  have HC106_2 := Aside0.mk hl106_2
                  clear hi106_2 hl106_2
                  replace p106 := eq_true p106
                  replace q106 := eq_true q106
                  try go_wp2
                  replace HO_6 := Aside0.mk (Kd.S_drew HO_6.out)
                  replace HL106_2 := Aside0.mk (Kd.R_drew HL106_2.out)
                  replace HR106_2 := Aside0.mk (Kd.C_drew HR106_2.out)
                  replace HB := Aside0.mk (below_drew1 HB.out)
                  have p107 : 0 ≤ ((ji29) : Int) := of_decide_eq_true hE
                  have q107 : (ji29) < (x6_2.length : Int) := of_decide_eq_true hE
                  obtain ⟨ad107, A107_2, c107_2, e107, hx107_0, hx107_1, hx107_2, hl107_2, hi107_2⟩ := at_T62 (Kd.S_reads' HO_6.out).2.2 (ji29) p107 q107
                  obtain rfl : ad106 = ad107 := (by injection e107)
                  obtain ⟨ce107, hce107, hMe107, hcc107⟩ := Kd.S_get HO_6.out z62 (ji29) p107 (by first | exact q107 | exact of_decide_eq_true hE | (have e_ := (Kd.S_reads' HO_6.out).1; omega))
                  obtain ⟨ve107_2, rfl, ge107_2⟩ := k62_openM hMe107
                  have hv107_2 := hcc107 2 _ rfl
                  rw [add_field _ _ 2 (by omega)] at hv107_2
                  replace hv107_2 := Option.some.inj (hv107_2.symm.trans hx107_2)
                  rw [hv107_2] at ge107_2
                  have HL107_2 := Aside0.mk (show Kd.R (Kd.int .u8) 5 _ _ _ _ ((rd_T62 x6_2 (ji29)).f2) from ge107_2)
                  clear hv107_2 ge107_2
                  have HX107_2 := Aside0.mk hx107_2
                  (try clear hcc107)
                  (try clear hce107)
                  have HR107_2 := Aside0.mk hi107_2
                  have HC107_2 := Aside0.mk hl107_2
                  clear hi107_2 hl107_2
                  replace p107 := eq_true p107
                  replace q107 := eq_true q107
                  have p108 : 0 ≤ (x7_2 : Int) := of_decide_eq_true hE
                  have q108 : x7_2 < (l1.length : Int) := of_decide_eq_true hE
                  obtain ⟨ad108, e108, hx108_0⟩ := Kd.at_int HR1.out x7_2 p108 q108
                  have hw108_0 := hx108_0
                  cases e108
                  replace hx108_0 := (HB.out.cell (World.block_lt_of_cell? w _ hx108_0)).trans hx108_0
                  replace p108 := eq_true p108
                  replace q108 := eq_true q108
                  obtain ⟨go39, co39, eo39, gb39, gl39, cl39, HG39⟩ := Kd.S_form HO_6.out (by have h_ : ((ji29) : Int) < ((x6_2.length : Int) : Int) := of_decide_eq_true hE; have h2_ : 0 ≤ ((ji29) : Int) := (of_decide_eq_true hE); omega)
                  (first | cases eo39 | (injection eo39 with ea_ en_ ec_; (first | subst ea_ | (injection ea_ with ea_; subst ea_)); subst ec_; clear en_))
                  have GB39 := Aside0.mk gb39
                  have GG39 := Aside0.mk HG39
                  clear gb39 gl39 HG39
                  (first | simp only [add_plain] at hx106_0 | skip)
                  (first | simp only [add_plain] at hx106_1 | skip)
                  (first | simp only [add_plain] at hx106_2 | skip)
                  (first | simp only [add_plain] at hx107_0 | skip)
                  (first | simp only [add_plain] at hx107_1 | skip)
                  (first | simp only [add_plain] at hx107_2 | skip)
                  obtain ⟨oki39, ce39, hcl39, hM39, hcc39, _, _, hH39⟩ := Kd.S_elem HO_6.out z62 ((ji29) : Int) (of_decide_eq_true hE) (by have h_ : ((ji29) : Int) < ((x6_2.length : Int) : Int) := of_decide_eq_true hE; first | exact h_ | (have e_ := (Kd.S_reads' HO_6.out).1; omega) | simpa using h_)
                  obtain ⟨ve39_2, rfl, ge39_2⟩ := k62_openM hM39
                  have hv39 := hcc39 2 _ rfl
                  have hX39 := HX107_2.out
                  (try simp only [add_plain] at hX39)
                  (try simp only [Nat.add_zero] at hv39)
                  replace hv39 := Option.some.inj (hv39.symm.trans hX39)
                  subst hv39
                  (try clear hX39)
                  (try clear hcc39)
                  (try clear hcl39)
                  have UU39 := Aside0.mk (show Kd.R (Kd.int .u8) 5 _ w.heap.size oki39 (.slice A107_2 ((rd_T62 x6_2 (ji29)).f2).length c107_2) ((rd_T62 x6_2 (ji29)).f2) from ge39_2)
                  have HH39 := Aside0.mk hH39
                  have HN39 := Aside0.mk (Kd.S_reads' HO_6.out).1
                  clear hH39 ge39_2
                  refine start_ (n := 18) (S := fun w' => w'.cell? ⟨go39, (((ji29)).toNat * 3), none⟩ = some (.int .i64 ((rd_T62 x6_2 (ji29)).f0)) ∧ w'.cell? ⟨go39, (((ji29)).toNat * 3) + 1, none⟩ = some (.int .i64 ((rd_T62 x6_2 (ji29)).f1)) ∧ w'.cell? ⟨go39, (((ji29)).toNat * 3) + 2, none⟩ = some (.slice A107_2 ((rd_T62 x6_2 (ji29)).f2).length c107_2) ∧ w'.cell? (ad108.add (x7_2).toNat) = some (.int .u8 (rd l1 x7_2))) (ds := [17]) #[false, false, false, false, false, false, false, false, false, false, false, false, false, false, false, false, false, false] (by kernel_rfl) rfl rfl ⟨hx107_0, hx107_1, hx107_2, ((HB.out.cell (World.block_lt_of_cell? w _ hw108_0)).trans hw108_0)⟩ (fun hHeld => ?_); refine with_tabW spec_PatchOf.tab23 spec_PatchOf.bits23 (fun HT_ HW_ => ?_)
                  generalize wr.drew = w38 at HO_6 HL106_2 HR106_2 HB GG39 HH39 HL107_2 HR107_2 HX107_2 UU39 hx106_0 hx106_1 hx106_2 hx107_0 hx107_1 hx107_2 hx108_0 hHeld ⊢
                  refine pureA 0 92 (bz 18 1) rfl rfl (any_of HT_.out (by kernel_rfl)) ?_
                  refine pureA 1 93 (bz 18 3) rfl rfl (any_of HT_.out (by kernel_rfl)) ?_
                  refine pureA 2 94 (bz 18 7) rfl rfl (any_of HT_.out (by kernel_rfl)) ?_
                  refine pureA 3 95 (bz 18 15) rfl rfl (any_of HT_.out (by kernel_rfl)) ?_
                  refine pureA 4 96 (bz 18 31) rfl rfl (any_of HT_.out (by kernel_rfl)) ?_
                  refine pureA 5 97 (bz 18 63) rfl rfl (any_of HT_.out (by kernel_rfl)) ?_
                  refine pureA 6 98 (bz 18 127) rfl rfl (any_of HT_.out (by kernel_rfl)) ?_
                  refine pureA 7 99 (bz 18 255) rfl rfl (any_of HT_.out (by kernel_rfl)) ?_
                  refine pureA 9 101 (bz 18 767) rfl rfl (any_of HT_.out (by kernel_rfl)) ?_
                  refine pureA 10 102 (bz 18 1791) rfl rfl (any_of HT_.out (by kernel_rfl)) ?_
                  refine pureA 11 103 (bz 18 3839) rfl rfl (any_of HT_.out (by kernel_rfl)) ?_
                  refine takeA 8 100 (bz 18 4095) rfl rfl (take_ofW HT_.out HW_.out (by kernel_rfl)) hHeld (by rintro w' ⟨s0, s1, s2, s3⟩; go_simp; with_reducible rfl) ?_
                  refine takeA 12 104 (bz 18 8191) rfl rfl (take_ofW HT_.out HW_.out (by kernel_rfl)) hHeld (by rintro w' ⟨s0, s1, s2, s3⟩; go_simp; with_reducible rfl) ?_
                  refine one_ (i := 13) (N := some 105) (bz 18 16383) rfl rfl (one_of HT_.out (by kernel_rfl)) (by decide) (fun K hK => ?_)
                  refine value_ (w1 := ?_) (v := ?_) (by rfl) rfl ?_ ?_
                  rotate_left 2
                  ·go_simp
                   constructor
                   ·rfl
                   ·rfl
                  refine hK.out _ _ ⟨(World.cell?_alloc_lt _ _ _ (World.block_lt_of_cell? _ _ (hHeld.1))).trans (hHeld.1), (World.cell?_alloc_lt _ _ _ (World.block_lt_of_cell? _ _ (hHeld.2.1))).trans (hHeld.2.1), (World.cell?_alloc_lt _ _ _ (World.block_lt_of_cell? _ _ (hHeld.2.2.1))).trans (hHeld.2.2.1), (World.cell?_alloc_lt _ _ _ (World.block_lt_of_cell? _ _ (((HB.out.cell (World.block_lt_of_cell? w _ hw108_0)).trans hw108_0)))).trans (((HB.out.cell (World.block_lt_of_cell? w _ hw108_0)).trans hw108_0))⟩ (fun hHeld => ?_)
                  clear hK K
                  refine norm_ (a' := ?_) ?_ ?_
                  rotate_left
                  ·show Act.put _ (some 105) _ = _
                   simp only [Act.put, List.setIfInBounds_toArray, List.set_cons_zero, List.set_cons_succ, i64_w, i32_w]
                   rfl
                  refine one_ (i := 14) (N := some 106) (bz 18 32767) rfl rfl (one_of HT_.out (by kernel_rfl)) (by decide) (fun K hK => ?_)
                  refine Kd.R_append_step (Kd.int .u8) (w0 := w) w.heap.size (by rfl) (.tmp 100) (.tmp 105) 22 5 (.int .u8 0) 1 rfl Try.underlying22 info5 rfl (by decide) (by omega) (.slice A107_2 ((rd_T62 x6_2 (ji29)).f2).length c107_2) ((rd_T62 x6_2 (ji29)).f2) (rd l1 x7_2) [.int .u8 (rd l1 x7_2)] (fun k_ => oki39 k_ ∨ ((fun _ => True)) k_ ∧ w38.heap.size ≤ k_) (fun _ => False) rfl rfl ?aP (fun _ hk => hk.elim) ?aF ?aO ?aB ?aS ?aL ?_
                  (case aP => exact rfl)
                  (case aB => exact (lU))
                  (case aF => exact (fun k_ hk => .inr ⟨trivial, hk⟩))
                  (case aO => exact (by (with_reducible repeat (first | apply Kd.R_alloc | apply Kd.R_drewN | apply Kd.R_drew)); exact Kd.R_mono UU39.out (fun _ hk => .inl hk)))
                  (case aS => exact (below_size (lU)))
                  (case aL => have := LMc35.out; omega)
                  intro v110 w40 ho hb hg hat
                  (first | have HS0_ := cell_grown hg (hHeld.1) (by first | (rw [add_block]; exact (fun e_ => ((HL107_2.out.1 _ e_.symm).2) rfl)) | (show some (Addr.add _ _).block ≠ _; rw [add_block]; exact (fun e_ => ((HL107_2.out.1 _ e_.symm).2) rfl)) | exact (fun e_ => ((HL107_2.out.1 _ e_.symm).2) rfl)) | have HS0_ := cell_grown hg (cell_unalloc (hHeld.1) (by first | (rw [add_block]; exact Kd.S_lt HO_6.out _ rfl) | (show (Addr.add _ _).block < _; rw [add_block]; exact Kd.S_lt HO_6.out _ rfl) | exact Kd.S_lt HO_6.out _ rfl)) (by first | (rw [add_block]; exact (fun e_ => ((HL107_2.out.1 _ e_.symm).2) rfl)) | (show some (Addr.add _ _).block ≠ _; rw [add_block]; exact (fun e_ => ((HL107_2.out.1 _ e_.symm).2) rfl)) | exact (fun e_ => ((HL107_2.out.1 _ e_.symm).2) rfl)))
                  (first | have HS1_ := cell_grown hg (hHeld.2.1) (by first | (rw [add_block]; exact (fun e_ => ((HL107_2.out.1 _ e_.symm).2) rfl)) | (show some (Addr.add _ _).block ≠ _; rw [add_block]; exact (fun e_ => ((HL107_2.out.1 _ e_.symm).2) rfl)) | exact (fun e_ => ((HL107_2.out.1 _ e_.symm).2) rfl)) | have HS1_ := cell_grown hg (cell_unalloc (hHeld.2.1) (by first | (rw [add_block]; exact Kd.S_lt HO_6.out _ rfl) | (show (Addr.add _ _).block < _; rw [add_block]; exact Kd.S_lt HO_6.out _ rfl) | exact Kd.S_lt HO_6.out _ rfl)) (by first | (rw [add_block]; exact (fun e_ => ((HL107_2.out.1 _ e_.symm).2) rfl)) | (show some (Addr.add _ _).block ≠ _; rw [add_block]; exact (fun e_ => ((HL107_2.out.1 _ e_.symm).2) rfl)) | exact (fun e_ => ((HL107_2.out.1 _ e_.symm).2) rfl)))
                  (first | have HS2_ := cell_grown hg (hHeld.2.2.1) (by first | (rw [add_block]; exact (fun e_ => ((HL107_2.out.1 _ e_.symm).2) rfl)) | (show some (Addr.add _ _).block ≠ _; rw [add_block]; exact (fun e_ => ((HL107_2.out.1 _ e_.symm).2) rfl)) | exact (fun e_ => ((HL107_2.out.1 _ e_.symm).2) rfl)) | have HS2_ := cell_grown hg (cell_unalloc (hHeld.2.2.1) (by first | (rw [add_block]; exact Kd.S_lt HO_6.out _ rfl) | (show (Addr.add _ _).block < _; rw [add_block]; exact Kd.S_lt HO_6.out _ rfl) | exact Kd.S_lt HO_6.out _ rfl)) (by first | (rw [add_block]; exact (fun e_ => ((HL107_2.out.1 _ e_.symm).2) rfl)) | (show some (Addr.add _ _).block ≠ _; rw [add_block]; exact (fun e_ => ((HL107_2.out.1 _ e_.symm).2) rfl)) | exact (fun e_ => ((HL107_2.out.1 _ e_.symm).2) rfl)))
                  rw [← Ny109.out] at ho
                  replace HB := Aside0.mk hb
                  replace HH39 := Aside0.mk (Kd.H_grown (Kd.H_widen (by repeat (first | exact HH39.out | refine Kd.H_alloc ?_ _ | refine Kd.H_drewN ?_ _ | refine Kd.H_drew ?_))) hg (fun k_ e_ => .inl (UU39.out.1 k_ e_)))
                  have HO111 := Aside0.mk ho
                  clear HO_6 UU39 HL106_2 HL107_2
                  clear ho hb hg hat
                  have p36 : 0 ≤ ((ji29) : Int) := of_decide_eq_true hE
                  have q36 : ((ji29) : Int) < ((x6_2.length : Int) : Int) := of_decide_eq_true hE
                  replace p36 := eq_true p36
                  replace q36 := eq_true q36
                  obtain ⟨Ao43, co43, eo43⟩ := Kd.R_slice HO111.out
                  (first | subst eo43 | (injection eo43 with f1_ f2_ f3_; have f4_ := f1_.symm; have f5_ := f3_.symm; clear f1_ f2_ f3_; subst f4_; subst f5_))
                  obtain ⟨_, _, hraw41, _, _, hcc41, _⟩ := Kd.H_raw HH39.out (of_decide_eq_true hE) (by have h_ : ((ji29) : Int) < ((x6_2.length : Int) : Int) := of_decide_eq_true hE; first | exact h_ | (have e_ := (HN39.out); omega) | simpa using h_)
                  obtain ⟨_, hfr41⟩ := Kd.H_at HH39.out (of_decide_eq_true hE) (by have h_ : ((ji29) : Int) < ((x6_2.length : Int) : Int) := of_decide_eq_true hE; first | exact h_ | (have e_ := (HN39.out); omega) | simpa using h_)
                  have hx41_0 := hcc41 2 _ rfl
                  have hf41_0 := hfr41 2
                  (try rw [show (k62).sz = 3 from rfl] at hx41_0)
                  (try rw [show (k62).sz = 3 from rfl] at hf41_0)
                  have HP41 := Kd.S_seg0 HH39.out (of_decide_eq_true hE) (by have h_ : ((ji29) : Int) < ((x6_2.length : Int) : Int) := of_decide_eq_true hE; first | exact h_ | (have e_ := (HN39.out); omega) | simpa using h_) (seg := [.slice Ao43 y109.length co43]) (j := 2) (show 3 ≤ 3 from by decide) (x' := (⟨(rd_T62 x6_2 (ji29)).f0, (rd_T62 x6_2 (ji29)).f1, y109⟩ : S62)) (k62_mkM _ _ _ (⟨(rd_T62 x6_2 (ji29)).f0, (rd_T62 x6_2 (ji29)).f1, y109⟩ : S62) HO111.out) (fun _ hk => hk)
                  (try clear hcc41)
                  (try clear hfr41)
                  have HS41 := HP41.1
                  rw [← Ny112.out] at HS41
                  have HQ41 := Aside0.mk HS41
                  obtain ⟨_, hgg41⟩ := Kd.R_typed hraw41 go39 rfl
                  have GG41_ := Aside0.mk hgg41
                  clear HP41 HS41 hgg41
                  refine hK.out _ _ ⟨HS0_, HS1_, HS2_, ((HB.out.cell (World.block_lt_of_cell? w _ hw108_0)).trans hw108_0)⟩ (fun hHeld => ?_)
                  clear hK K
                  refine norm_ (a' := ?_) ?_ ?_
                  rotate_left
                  ·show Act.put _ (some 106) _ = _
                   simp only [Act.put, List.setIfInBounds_toArray, List.set_cons_zero, List.set_cons_succ, i64_w, i32_w]
                   rfl
                  refine pureA 15 107 (bz 18 65535) rfl rfl (any_of HT_.out (by kernel_rfl)) ?_
                  refine pureA 16 108 (bz 18 131071) rfl rfl (any_of HT_.out (by kernel_rfl)) ?_
                  refine last_ (i := 17) (N := none) (bz 18 262143) rfl rfl (one_of HT_.out (by kernel_rfl)) (by decide) (fun K hK => ?_)
                  refine skip_ (w1 := ?_) (by rfl) rfl ?_ ?_
                  rotate_left
                  ·go_simp
                   rfl
                  refine hK.out _ _ ?_
                  clear hK K
                  refine done_ (done_of HT_.out (by kernel_rfl)) ?_
                  try go_wp2
                  go_roundg k3
                  case measure => have := HJ2.out; have := HK2.out; have := HK3.out; omega
                  case rel => exact ⟨(y112), (wrap64 (x7_2 + 1)), tE, H', ⟨by have := HJ2.out; have := HK2.out; have := HK3.out; omega⟩, ⟨by (with_reducible repeat (first | apply Kd.S_alloc | apply Kd.S_drewN | apply Kd.S_drew)); exact HQ41.out⟩, ⟨by repeat (first | (with_reducible first | exact HB.out | apply below_alloc | apply pw_below_drewN | apply below_drew1 | refine below_set ?_ GB39.out) | exact HB.out)⟩⟩
                 ·rw [if_neg c35] at H
                  exact absurd H (by simp)
                ·rw [if_neg c34] at H
                 exact absurd H (by simp)
               ·rw [if_neg c33] at H
                exact absurd H (by simp)
              ·rw [if_neg c32] at H
               have c32b0 : decide (0 < (((rd_T62 x6_2 (ji29)).f2).length : Int)) = false := decide_eq_false c32
               have c32b1 : decide (0 < ((rd_T62 x6_2 (ji29)).f2).length) = false := decide_eq_false (by omega)
               clear c32
               by_cases c44 : 0 ≤ x7_2
               ·rw [if_pos c44] at H
                have c44b0 : decide (0 ≤ x7_2) = true := decide_eq_true c44
                clear c44
                by_cases c45 : x7_2 < (l1.length : Int)
                ·rw [if_pos c45] at H
                 have c45b0 : decide (x7_2 < (l1.length : Int)) = true := decide_eq_true c45
                 clear c45
                 obtain ⟨y114, hy114⟩ : ∃ y_ : List Int, y_ = (([rd l1 x7_2] : List Int)) := ⟨_, rfl⟩
                 replace H : (if x6_2.length < 3518437208883 then (spec_PatchOf.l0 k3 l0 l1 (x6_2 ++ [(⟨0, 0, y114⟩ : S62)]) (wrap64 (x7_2 + 1))) else (none)) = some (r1, r2) := by first | (rw [hy114]; with_reducible exact H) | (have H2_ := (Option.bind_some _ _).symm.trans H; rw [hy114]; with_reducible exact H2_) | (have H2_ := (Option.bind_some _ _).symm.trans H; with_reducible exact H2_) | with_reducible exact H | (rw [hy114]; exact H) | exact H
                 have Ny114 := Aside0.mk hy114
                 clear hy114
                 by_cases c46 : x6_2.length < 3518437208883
                 ·rw [if_pos c46] at H
                  have LMc46 := Aside0.mk c46
                  clear c46
                  obtain ⟨y117, hy117⟩ : ∃ y_ : List (S62), y_ = (x6_2 ++ [(⟨0, 0, y114⟩ : S62)]) := ⟨_, rfl⟩
                  replace H : (spec_PatchOf.l0 k3 l0 l1 y117 (wrap64 (x7_2 + 1))) = some (r1, r2) := by first | (rw [hy117]; with_reducible exact H) | (have H2_ := (Option.bind_some _ _).symm.trans H; rw [hy117]; with_reducible exact H2_) | (have H2_ := (Option.bind_some _ _).symm.trans H; with_reducible exact H2_) | with_reducible exact H | (rw [hy117]; exact H) | exact H
                  have Ny117 := Aside0.mk hy117
                  clear hy117
                  have H' := Aside0.mk H
                  clear H
                  obtain ⟨Ao47, co47, eo47⟩ := Kd.S_slice HO_6.out
                  subst eo47
                  have p106 : 0 ≤ ((ji29) : Int) := of_decide_eq_true hE
                  have q106 : (ji29) < (x6_2.length : Int) := of_decide_eq_true hE
                  obtain ⟨ad106, A106_2, c106_2, e106, hx106_0, hx106_1, hx106_2, hl106_2, hi106_2⟩ := at_T62 (Kd.S_reads' HO_6.out).2.2 (ji29) p106 q106
                  cases e106
                  obtain ⟨ce106, hce106, hMe106, hcc106⟩ := Kd.S_get HO_6.out z62 (ji29) p106 (by first | exact q106 | exact of_decide_eq_true hE | (have e_ := (Kd.S_reads' HO_6.out).1; omega))
                  obtain ⟨ve106_2, rfl, ge106_2⟩ := k62_openM hMe106
                  have hv106_2 := hcc106 2 _ rfl
                  rw [add_field _ _ 2 (by omega)] at hv106_2
                  replace hv106_2 := Option.some.inj (hv106_2.symm.trans hx106_2)
                  rw [hv106_2] at ge106_2
                  have HL106_2 := Aside0.mk (show Kd.R (Kd.int .u8) 5 _ _ _ _ ((rd_T62 x6_2 (ji29)).f2) from ge106_2)
                  clear hv106_2 ge106_2
                  have HX106_2 := Aside0.mk hx106_2
                  (try clear hcc106)
                  (try clear hce106)
                  have HR106_2 := Aside0.mk hi106_2
                  have HC106_2 := Aside0.mk hl106_2
                  clear hi106_2 hl106_2
                  replace p106 := eq_true p106
                  replace q106 := eq_true q106
                  have p113 : 0 ≤ (x7_2 : Int) := of_decide_eq_true hE
                  have q113 : x7_2 < (l1.length : Int) := of_decide_eq_true hE
                  obtain ⟨ad113, e113, hx113_0⟩ := Kd.at_int HR1.out x7_2 p113 q113
                  cases e113
                  replace hx113_0 := (HB.out.cell (World.block_lt_of_cell? w _ hx113_0)).trans hx113_0
                  replace p113 := eq_true p113
                  replace q113 := eq_true q113
                  go_wp2_with (first | ((with_reducible refine gate_dst (N := 114) rfl ?_); (try (refine gate_guard (by rfl) ?_; dsimp only)); refine Kd.R_lit (Kd.int .u8) _ 5 ?hg (N := 114) ?hd (xs := ([rd l1 x7_2] : List Int)) (inner := [.int .u8 (rd l1 x7_2)]) (ok := fun _ => True) (okp := fun _ => True) ?hr ?hp (fun _ hk => hk) trivial (Below.refl _ _) (Nat.le_refl _) (by simp) ?_; (case hd => rfl); (case hg => rfl); (case hr => exact sE); (case hp => exact (Reps.one (show Kd.M (Kd.int .u8) _ _ _ (rd l1 x7_2) [.int .u8 (rd l1 x7_2)] from rfl) (Reps.none _ _))); intro v115 w48 ho49 hb hg_ hnew_; clear hg_ hnew_; (first | rw [← Ny114.out] at ho49 | (simp only [Int.reduceToNat] at ho49; rw [← Ny114.out] at ho49)); replace HO_6 := Aside0.mk (Kd.S_elder' (by (with_reducible repeat (first | apply Kd.S_alloc | apply Kd.S_drewN | apply Kd.S_drew)); exact HO_6.out) (Kd.R_base ho49) hb); have HO116 := Aside0.mk (Kd.R_lower (Kd.R_new' ho49 (Kd.R_lt (rU HL106_2.out))) (below_size (lU))); replace HL106_2 := Aside0.mk (Kd.R_elder' (rU HL106_2.out) (Kd.R_base ho49) hb); replace HR106_2 := Aside0.mk (Kd.C_below (by repeat (first | (with_reducible exact HR106_2.out) | (with_reducible refine Kd.C_alloc ?_ _) | (with_reducible refine Kd.C_drewN ?_ _) | (with_reducible refine Kd.C_drew ?_) | exact HR106_2.out)) hb); replace HX106_2 := Aside0.mk (pw_cell_below hb HX106_2.out); replace HB := bH (lU) hb; clear hb ho49; obtain ⟨Ao50, co50, eo50⟩ := Kd.R_slice HO116.out; subst eo50) | ((with_reducible refine gate_builtin (b := .append) (xs := #[.tmp 109, .tmp 116]) rfl ?_); (try (refine gate_guard (by rfl) ?_; dsimp only)); at_builtin; refine Kd.S_append k62 (w0 := w) w.heap.size rfl (.tmp 109) (.tmp 116) 23 62 (.agg #[(.int .i64 0), (.int .i64 0), (.slice none 0 0)]) 40 rfl Try.underlying23 info62 rfl (by decide) (by omega) (.slice (some ad106) x6_2.length co47) x6_2 (⟨0, 0, y114⟩ : S62) [.int .i64 0, .int .i64 0, .slice Ao50 y114.length co50] (fun _ => True) (fun k_ => some k_ = (.slice Ao50 y114.length co50 : Value).ownBlock) rfl rfl ?aP (fun k_ hk_ => ((Kd.R_mono (ok' := fun k_ => ((fun _ => True)) k_ ∧ some k_ ≠ (.slice (some ad106) x6_2.length co47 : Value).ownBlock) (Kd.R_apart' (HO116.out) (Kd.S_typed HO_6.out) (by decide)) (fun k_ hk => ⟨trivial, hk.2⟩))).1 k_ hk_.symm) ?aF ?aO ?aB ?aS ?aL ?_; (case aP => exact k62_mkM _ _ _ (⟨0, 0, y114⟩ : S62) (Kd.R_mono (Kd.R_tight rfl (Kd.R_mono (ok' := fun k_ => ((fun _ => True)) k_ ∧ some k_ ≠ (.slice (some ad106) x6_2.length co47 : Value).ownBlock) (Kd.R_apart' (HO116.out) (Kd.S_typed HO_6.out) (by decide)) (fun k_ hk => ⟨trivial, hk.2⟩))) (fun _ h_ => h_))); (case aB => exact (lU)); (case aF => exact (fun _ _ => trivial)); (case aO => exact (by (with_reducible repeat (first | apply Kd.S_alloc | apply Kd.S_drewN | apply Kd.S_drew)); exact Kd.S_mono HO_6.out (fun k_ hk => ⟨trivial, fun e_ => hk.2 e_⟩))); (case aS => exact (below_size (lU))); (case aL => have := LMc46.out; omega); intro v118 w51 ho hb hg hat; rw [← Ny117.out] at ho; replace HL106_2 := Aside0.mk (Kd.R_after (ok := (fun k_ => some k_ ≠ (.slice Ao50 y114.length co50 : Value).ownBlock)) (by (with_reducible repeat (first | apply Kd.R_alloc | apply Kd.R_drewN | apply Kd.R_drew)); exact Kd.R_mono HL106_2.out (fun _ hk => ⟨hk.2, hk.1.2⟩)) hg hat); replace HB := Aside0.mk hb; have HO119 := Aside0.mk ho; clear HO_6 HO116; clear ho hb hg hat))
                  go_roundg k3
                  case measure => have := HJ2.out; have := HK2.out; have := HK3.out; omega
                  case rel => exact ⟨(y117), (wrap64 (x7_2 + 1)), tE, H', ⟨by have := HJ2.out; have := HK2.out; have := HK3.out; omega⟩, ⟨by (with_reducible repeat (first | apply Kd.S_alloc | apply Kd.S_drewN | apply Kd.S_drew)); exact HO119.out⟩, ⟨by repeat (first | (with_reducible first | exact HB.out | apply below_alloc | apply pw_below_drewN | apply below_drew1) | exact HB.out)⟩⟩
                 ·rw [if_neg c46] at H
                  exact absurd H (by simp)
                ·rw [if_neg c45] at H
                 exact absurd H (by simp)
               ·rw [if_neg c44] at H
                exact absurd H (by simp)
             ·rw [if_neg c31] at H
              exact absurd H (by simp)
            ·rw [if_neg c30] at H
             exact absurd H (by simp)
           ·rw [if_neg c28] at H
            have c28b0 : decide (0 < (x6_2.length : Int)) = false := decide_eq_false c28
            have c28b1 : decide (0 < x6_2.length) = false := decide_eq_false (by omega)
            clear c28
            by_cases c52 : 0 ≤ x7_2
            ·rw [if_pos c52] at H
             have c52b0 : decide (0 ≤ x7_2) = true := decide_eq_true c52
             clear c52
             by_cases c53 : x7_2 < (l1.length : Int)
             ·rw [if_pos c53] at H
              have c53b0 : decide (x7_2 < (l1.length : Int)) = true := decide_eq_true c53
              clear c53
              obtain ⟨y121, hy121⟩ : ∃ y_ : List Int, y_ = (([rd l1 x7_2] : List Int)) := ⟨_, rfl⟩
              replace H : (if x6_2.length < 3518437208883 then (spec_PatchOf.l0 k3 l0 l1 (x6_2 ++ [(⟨0, 0, y121⟩ : S62)]) (wrap64 (x7_2 + 1))) else (none)) = some (r1, r2) := by first | (rw [hy121]; with_reducible exact H) | (have H2_ := (Option.bind_some _ _).symm.trans H; rw [hy121]; with_reducible exact H2_) | (have H2_ := (Option.bind_some _ _).symm.trans H; with_reducible exact H2_) | with_reducible exact H | (rw [hy121]; exact H) | exact H
              have Ny121 := Aside0.mk hy121
              clear hy121
              by_cases c54 : x6_2.length < 3518437208883
              ·rw [if_pos c54] at H
               have LMc54 := Aside0.mk c54
               clear c54
               obtain ⟨y124, hy124⟩ : ∃ y_ : List (S62), y_ = (x6_2 ++ [(⟨0, 0, y121⟩ : S62)]) := ⟨_, rfl⟩
               replace H : (spec_PatchOf.l0 k3 l0 l1 y124 (wrap64 (x7_2 + 1))) = some (r1, r2) := by first | (rw [hy124]; with_reducible exact H) | (have H2_ := (Option.bind_some _ _).symm.trans H; rw [hy124]; with_reducible exact H2_) | (have H2_ := (Option.bind_some _ _).symm.trans H; with_reducible exact H2_) | with_reducible exact H | (rw [hy124]; exact H) | exact H
               have Ny124 := Aside0.mk hy124
               clear hy124
               have H' := Aside0.mk H
               clear H
               obtain ⟨Ao55, co55, eo55⟩ := Kd.S_slice HO_6.out
               subst eo55
               have p120 : 0 ≤ (x7_2 : Int) := of_decide_eq_true hE
               have q120 : x7_2 < (l1.length : Int) := of_decide_eq_true hE
               obtain ⟨ad120, e120, hx120_0⟩ := Kd.at_int HR1.out x7_2 p120 q120
               cases e120
               replace hx120_0 := (HB.out.cell (World.block_lt_of_cell? w _ hx120_0)).trans hx120_0
               replace p120 := eq_true p120
               replace q120 := eq_true q120
               go_wp2_with (first | ((with_reducible refine gate_dst (N := 114) rfl ?_); (try (refine gate_guard (by rfl) ?_; dsimp only)); refine Kd.R_lit (Kd.int .u8) _ 5 ?hg (N := 114) ?hd (xs := ([rd l1 x7_2] : List Int)) (inner := [.int .u8 (rd l1 x7_2)]) (ok := fun _ => True) (okp := fun _ => True) ?hr ?hp (fun _ hk => hk) trivial (Below.refl _ _) (Nat.le_refl _) (by simp) ?_; (case hd => rfl); (case hg => rfl); (case hr => exact sE); (case hp => exact (Reps.one (show Kd.M (Kd.int .u8) _ _ _ (rd l1 x7_2) [.int .u8 (rd l1 x7_2)] from rfl) (Reps.none _ _))); intro v122 w56 ho57 hb hg_ hnew_; clear hg_ hnew_; (first | rw [← Ny121.out] at ho57 | (simp only [Int.reduceToNat] at ho57; rw [← Ny121.out] at ho57)); replace HO_6 := Aside0.mk (Kd.S_elder' (by (with_reducible repeat (first | apply Kd.S_alloc | apply Kd.S_drewN | apply Kd.S_drew)); exact HO_6.out) (Kd.R_base ho57) hb); have HO123 := Aside0.mk (Kd.R_lower ho57 (below_size (lU))); replace HB := bH (lU) hb; clear hb ho57; obtain ⟨Ao58, co58, eo58⟩ := Kd.R_slice HO123.out; subst eo58) | ((with_reducible refine gate_builtin (b := .append) (xs := #[.tmp 109, .tmp 116]) rfl ?_); (try (refine gate_guard (by rfl) ?_; dsimp only)); at_builtin; refine Kd.S_append k62 (w0 := w) w.heap.size rfl (.tmp 109) (.tmp 116) 23 62 (.agg #[(.int .i64 0), (.int .i64 0), (.slice none 0 0)]) 40 rfl Try.underlying23 info62 rfl (by decide) (by omega) (.slice Ao55 x6_2.length co55) x6_2 (⟨0, 0, y121⟩ : S62) [.int .i64 0, .int .i64 0, .slice Ao58 y121.length co58] (fun _ => True) (fun k_ => some k_ = (.slice Ao58 y121.length co58 : Value).ownBlock) rfl rfl ?aP (fun k_ hk_ => ((Kd.R_mono (ok' := fun k_ => ((fun _ => True)) k_ ∧ some k_ ≠ (.slice Ao55 x6_2.length co55 : Value).ownBlock) (Kd.R_apart' (HO123.out) (Kd.S_typed HO_6.out) (by decide)) (fun k_ hk => ⟨trivial, hk.2⟩))).1 k_ hk_.symm) ?aF ?aO ?aB ?aS ?aL ?_; (case aP => exact k62_mkM _ _ _ (⟨0, 0, y121⟩ : S62) (Kd.R_mono (Kd.R_tight rfl (Kd.R_mono (ok' := fun k_ => ((fun _ => True)) k_ ∧ some k_ ≠ (.slice Ao55 x6_2.length co55 : Value).ownBlock) (Kd.R_apart' (HO123.out) (Kd.S_typed HO_6.out) (by decide)) (fun k_ hk => ⟨trivial, hk.2⟩))) (fun _ h_ => h_))); (case aB => exact (lU)); (case aF => exact (fun _ _ => trivial)); (case aO => exact (by (with_reducible repeat (first | apply Kd.S_alloc | apply Kd.S_drewN | apply Kd.S_drew)); exact Kd.S_mono HO_6.out (fun k_ hk => ⟨trivial, fun e_ => hk.2 e_⟩))); (case aS => exact (below_size (lU))); (case aL => have := LMc54.out; omega); intro v125 w59 ho hb hg hat; rw [← Ny124.out] at ho; replace HB := Aside0.mk hb; have HO126 := Aside0.mk ho; clear HO_6 HO123; clear ho hb hg hat))
               go_roundg k3
               case measure => have := HJ2.out; have := HK2.out; have := HK3.out; omega
               case rel => exact ⟨(y124), (wrap64 (x7_2 + 1)), tE, H', ⟨by have := HJ2.out; have := HK2.out; have := HK3.out; omega⟩, ⟨by (with_reducible repeat (first | apply Kd.S_alloc | apply Kd.S_drewN | apply Kd.S_drew)); exact HO126.out⟩, ⟨by repeat (first | (with_reducible first | exact HB.out | apply below_alloc | apply pw_below_drewN | apply below_drew1) | exact HB.out)⟩⟩
              ·rw [if_neg c54] at H
               exact absurd H (by simp)
             ·rw [if_neg c53] at H
              exact absurd H (by simp)
            ·rw [if_neg c52] at H
             exact absurd H (by simp)
      ·rw [if_neg c6] at H
       have c6b0 : decide (x7_2 < (l1.length : Int)) = false := decide_eq_false c6
       clear c6
       simp only [Option.some.injEq, Prod.mk.injEq] at H
       obtain ⟨rfl, rfl⟩ := H
       go_wp2
       go_ret2
       exact ⟨_, eE, by (with_reducible repeat (first | apply Kd.S_alloc | apply Kd.S_drewN | apply Kd.S_drew)); exact HO_6.out, lU⟩
end Go.Proofs.Ytcpodjegdpbalaa.PFnExactPatchOf
namespace Go.Proofs.Ytcpodjegdpbalaa.PFnExactPatchOf
open Go.RowKit Go.Proofs.YtcpodjegdpbalaaW.PrintWords Go.Proofs.YtcpodjegdpbalaaW.PrintLast Go.Proofs.YtcpodjegdpbalaaW.PrintMore
attribute [local go_sem] max2_int min2_int max_two min_two max_three min_three max_four min_four   -- for this text's walks alone
set_option linter.unusedVariables false
set_option linter.unusedSimpArgs false
def laws_toByteS.l0 : Nat → List Int → List Int → Int → Option (List Int)
 | 0, _, _, _ => none
 | k + 1, x0, x3, x4 => if x4 < (x0.length : Int) then (if 0 ≤ x4 then (if x4 < (x3.length : Int) then (laws_toByteS.l0 k x0 (x3.set (x4 : Int).toNat (rd x0 x4)) (wrap64 (x4 + 1))) else (none)) else (none)) else (some x3)
def laws_toByteS.f (k : Nat) (l0 : List Int) : Option (List Int) := if 0 ≤ (l0.length : Int) then (if ((l0.length : Int) : Int).toNat ≤ 281474976710656 then (laws_toByteS.l0 k l0 (List.replicate ((l0.length : Int) : Int).toNat 0) 0) else (none)) else (none)
theorem laws_toByteS.mono_l : ∀ k, (∀ y0 y1 y2, LeO (laws_toByteS.l0 k y0 y1 y2) (laws_toByteS.l0 (k + 1) y0 y1 y2))
 | 0 => fun _ _ _ r h => by simp [laws_toByteS.l0] at h
 | k + 1 => by
  have ih0 := laws_toByteS.mono_l k
  ·intro y0 y1 y2
   unfold laws_toByteS.l0
   repeat' first
   | (with_reducible exact ih0 _ _ _)
   | (with_reducible exact LeO.refl _)
   | (with_reducible exact LeO.none _)
   | (with_reducible refine LeO.ite ?_ ?_)
   | (with_reducible refine LeO.bind ?_ (fun _ => ?_))
   | exact ih0 _ _ _
   | exact LeO.none _
   | refine LeO.ite ?_ ?_
   | refine LeO.bind ?_ (fun _ => ?_)
theorem laws_toByteS.mono : ∀ a0 k, LeO (laws_toByteS.f k a0) (laws_toByteS.f (k + 1) a0) := by
 intro a0 k
 have ih0 := laws_toByteS.mono_l k
 unfold laws_toByteS.f
 repeat' first
   | (with_reducible exact ih0 _ _ _)
   | (with_reducible exact LeO.refl _)
   | (with_reducible exact LeO.none _)
   | (with_reducible refine LeO.ite ?_ ?_)
   | (with_reducible refine LeO.bind ?_ (fun _ => ?_))
   | exact ih0 _ _ _
   | exact LeO.none _
   | refine LeO.ite ?_ ?_
   | refine LeO.bind ?_ (fun _ => ?_)
set_option maxHeartbeats 8000000 in
set_option maxRecDepth 100000 in
theorem laws_toByteS.calls (k : Nat) (A0 : Option Addr) (c0 : Nat) (l0 : List Int) (r : List Int) (w : World) (hr0 : Kd.C (Kd.int .u8) w A0 l0.length l0) (hc0 : l0.length ≤ c0) (h : laws_toByteS.f k l0 = some r) :
  Calls Try.prog 7 #[.slice A0 l0.length c0] w fun e w' => ∃ v0_ : Value, e = .returned (v0_) ∧ Kd.R (Kd.int .u8) 5 w' w.heap.size (fun _ => True) v0_ r ∧ Below w.heap.size w w' := by
 have HR0 := Aside0.mk hr0
 have HC0 := Aside0.mk hc0
 clear hr0 hc0
 have HB := Aside0.mk (Below.refl w.heap.size w)
 have H : (if 0 ≤ (l0.length : Int) then (if ((l0.length : Int) : Int).toNat ≤ 281474976710656 then (laws_toByteS.l0 k l0 (List.replicate ((l0.length : Int) : Int).toNat 0) 0) else (none)) else (none)) = some r := h
 clear h
 by_cases c2 : 0 ≤ (l0.length : Int)
 ·rw [if_pos c2] at H
  have c2b0 := eq_true c2
  have c2b1 : decide (0 ≤ (l0.length : Int)) = true := decide_eq_true c2
  clear c2
  by_cases c3 : ((l0.length : Int) : Int).toNat ≤ 281474976710656
  ·rw [if_pos c3] at H
   have c3b0 := eq_true c3
   have c3b1 : decide (((l0.length : Int) : Int).toNat ≤ 281474976710656) = true := decide_eq_true c3
   clear c3
   obtain ⟨y127, hy127⟩ : ∃ y_ : List Int, y_ = (List.replicate ((l0.length : Int) : Int).toNat 0) := ⟨_, rfl⟩
   replace H : (laws_toByteS.l0 k l0 y127 0) = some r := by first | (rw [hy127]; with_reducible exact H) | (have H2_ := (Option.bind_some _ _).symm.trans H; rw [hy127]; with_reducible exact H2_) | (have H2_ := (Option.bind_some _ _).symm.trans H; with_reducible exact H2_) | with_reducible exact H | (rw [hy127]; exact H) | exact H
   have Ny127 := Aside0.mk hy127
   clear hy127
   have H' := Aside0.mk H
   clear H
   go_enter Try.func7, Try.ntmps7
   go_wp2_with (first | ((with_reducible refine gate_dst (N := 7) rfl ?_); refine Kd.R_make (Kd.int .u8) _ 5 rfl (N := 7) rfl 22 _ _ rfl (l0.length : Int) rfl rfl Try.underlying22 (.int .u8 0) 1 info5 rfl (by decide) (by omega) 0 (ok := fun _ => True) (okp := fun _ => True) rfl (fun _ hk => hk) trivial (of_decide_eq_true hE) (Nat.le_trans (Nat.mul_le_mul_right _ (of_decide_eq_true hE : (l0.length : Int).toNat ≤ 281474976710656)) (by omega)) (Below.refl _ _) (Nat.le_refl _) ?_; intro v128 w4 ho5 hb hg_ hnew_; clear hg_ hnew_; (first | rw [← Ny127.out] at ho5 | (simp only [Int.reduceToNat] at ho5; rw [← Ny127.out] at ho5)); have HO129 := Aside0.mk (Kd.R_lower ho5 (below_size (lU))); replace HB := bH (lU) hb; clear hb ho5))
   (try simp only [Act.put, List.setIfInBounds_toArray, List.set_cons_zero, List.set_cons_succ])
   go_loopg [4] k (fun kq v4 w' => ∃ (x3_1 : List Int) (x4_1 : Int), v4 = .int .i64 x4_1 ∧ Aside0 (laws_toByteS.l0 kq l0 x3_1 x4_1 = some r) ∧ Aside0 (kq ≤ k) ∧ Aside0 (Kd.R (Kd.int .u8) 5 w' w.heap.size (fun _ => True) v128 x3_1) ∧ Aside0 (Below w.heap.size w w'))
   case atStart => exact ⟨(y127), (0), tE, H', ⟨Nat.le_refl _⟩, ⟨by (with_reducible repeat (first | apply Kd.R_alloc | apply Kd.R_drewN | apply Kd.R_drew)); exact HO129.out⟩, ⟨by repeat (first | (with_reducible first | exact HB.out | apply below_alloc | apply pw_below_drewN | apply below_drew1) | exact HB.out)⟩⟩
   case round =>
    clear H'
    try clear c2
    try clear c2b0
    try clear c2b1
    try clear p2
    try clear c3
    try clear c3b0
    try clear c3b1
    obtain ⟨x3_1, x4_1, rfl, HA, HK1, HO_3, HB⟩ := hrel
    cases gk with
    | zero => exact absurd HA.out (by simp [laws_toByteS.l0])
    | succ k1 =>
     have H := HA.out
     clear HA
     simp only [laws_toByteS.l0] at H
     by_cases c6 : x4_1 < (l0.length : Int)
     ·rw [if_pos c6] at H
      have c6b0 : decide (x4_1 < (l0.length : Int)) = true := decide_eq_true c6
      clear c6
      by_cases c7 : 0 ≤ x4_1
      ·rw [if_pos c7] at H
       have c7b0 : decide (0 ≤ x4_1) = true := decide_eq_true c7
       clear c7
       by_cases c8 : x4_1 < (x3_1.length : Int)
       ·rw [if_pos c8] at H
        have c8b0 : decide (x4_1 < (x3_1.length : Int)) = true := decide_eq_true c8
        clear c8
        obtain ⟨y131, hy131⟩ : ∃ y_ : List Int, y_ = (x3_1.set (x4_1 : Int).toNat (rd l0 x4_1)) := ⟨_, rfl⟩
        replace H : (laws_toByteS.l0 k1 l0 y131 (wrap64 (x4_1 + 1))) = some r := by first | (rw [hy131]; with_reducible exact H) | (have H2_ := (Option.bind_some _ _).symm.trans H; rw [hy131]; with_reducible exact H2_) | (have H2_ := (Option.bind_some _ _).symm.trans H; with_reducible exact H2_) | with_reducible exact H | (rw [hy131]; exact H) | exact H
        have Ny131 := Aside0.mk hy131
        clear hy131
        have H' := Aside0.mk H
        clear H
        have p130 : 0 ≤ (x4_1 : Int) := of_decide_eq_true hE
        have q130 : x4_1 < (l0.length : Int) := of_decide_eq_true hE
        obtain ⟨ad130, e130, hx130_0⟩ := Kd.at_int HR0.out x4_1 p130 q130
        cases e130
        replace hx130_0 := (HB.out.cell (World.block_lt_of_cell? w _ hx130_0)).trans hx130_0
        replace p130 := eq_true p130
        replace q130 := eq_true q130
        have p9 : 0 ≤ (x4_1 : Int) := of_decide_eq_true hE
        have q9 : (x4_1 : Int) < ((x3_1.length : Int) : Int) := of_decide_eq_true hE
        obtain ⟨go9, co9, eo9, gb9, gl9, cl9, HG9⟩ := Kd.R_form HO_3.out (by omega)
        (first | cases eo9 | (injection eo9 with ea_ en_ ec_; (first | subst ea_ | (injection ea_ with ea_; subst ea_)); subst ec_; clear en_))
        have GB9 := Aside0.mk gb9
        have GG9 := Aside0.mk HG9
        clear gb9 gl9 HG9
        obtain ⟨hx9_0, hf9_0⟩ := Kd.R_celln 0 HO_3.out (x4_1 : Int) p9 q9
        replace p9 := eq_true p9
        replace q9 := eq_true q9
        have HP10 := Kd.R_putg HO_3.out (x4_1 : Int) (rd l0 x4_1)
        go_wp2_with (first | ((with_reducible refine gate_store (t := 5) (p := 20) rfl ?_); refine store_event (t := 5) (p := 20) (v := ?vo_w11) (w1 := (wr.setCell ⟨go9, (x4_1 : Int).toNat, none⟩ (.int .u8 (rd l0 x4_1)))) ?hg ?ho ?hn ?hr ?_; (case ho => rfl); (case hg => rfl); (case hn => rfl); (case hr => exact sE); intro w11 hw; have hg : wr.grownBy w11 (some go9) := (by rw [hw]; exact HP10.2); have hp_ : Kd.R (Kd.int .u8) 5 w11 w.heap.size (fun _ => True) (.slice (some ⟨go9, 0, none⟩) x3_1.length co9) y131 := (by rw [hw, Ny131.out]; exact HP10.1); clear HP10; replace HO_3 := Aside0.mk hp_; replace HB := Aside0.mk ((by rw [hw]; exact below_set (HB.out) GB9.out : Below w.heap.size w w11)); clear hg hw hp_))
        go_roundg k1
        case measure => have := HK1.out; omega
        case rel => exact ⟨(y131), (wrap64 (x4_1 + 1)), tE, H', ⟨by have := HK1.out; omega⟩, ⟨by (with_reducible repeat (first | apply Kd.R_alloc | apply Kd.R_drewN | apply Kd.R_drew)); exact HO_3.out⟩, ⟨by repeat (first | (with_reducible first | exact HB.out | apply below_alloc | apply pw_below_drewN | apply below_drew1) | exact HB.out)⟩⟩
       ·rw [if_neg c8] at H
        exact absurd H (by simp)
      ·rw [if_neg c7] at H
       exact absurd H (by simp)
     ·rw [if_neg c6] at H
      have c6b0 : decide (x4_1 < (l0.length : Int)) = false := decide_eq_false c6
      clear c6
      obtain rfl := Option.some.inj H
      go_wp2
      go_ret
      exact ⟨_, eE, by (with_reducible repeat (first | apply Kd.R_alloc | apply Kd.R_drewN | apply Kd.R_drew)); exact HO_3.out, lU⟩
  ·rw [if_neg c3] at H
   exact absurd H (by simp)
 ·rw [if_neg c2] at H
  exact absurd H (by simp)
mutual
def impl_longest.l0 : Nat → List Int → List Int → Int → Int → Int → Int → Option (Int × Int)
 | 0, _, _, _, _, _, _ => none
 | k + 1, x0, x1, x6, x7, x11, x12 => if x12 < x11 then (impl_longest.l1 k x0 x1 x6 x7 x12 0 x11 x12) else (some (x6, x7))
def impl_longest.l1 : Nat → List Int → List Int → Int → Int → Int → Int → Int → Int → Option (Int × Int)
 | 0, _, _, _, _, _, _, _, _ => none
 | k + 1, x0, x1, x6, x7, x8, x9, x11, x12 => if (wrap64 (x8 + x9)) < (x0.length : Int) then (if x9 < (x1.length : Int) then (if 0 ≤ (wrap64 (x8 + x9)) then (if 0 ≤ x9 then (if (rd x0 (wrap64 (x8 + x9))) = (rd x1 x9) then (impl_longest.l1 k x0 x1 x6 x7 x8 (wrap64 (x9 + 1)) x11 x12) else (if x9 > x7 then (impl_longest.l0 k x0 x1 x8 x9 x11 (wrap64 (x12 + 1))) else (impl_longest.l0 k x0 x1 x6 x7 x11 (wrap64 (x12 + 1))))) else (none)) else (none)) else (if x9 > x7 then (impl_longest.l0 k x0 x1 x8 x9 x11 (wrap64 (x12 + 1))) else (impl_longest.l0 k x0 x1 x6 x7 x11 (wrap64 (x12 + 1))))) else (if x9 > x7 then (impl_longest.l0 k x0 x1 x8 x9 x11 (wrap64 (x12 + 1))) else (impl_longest.l0 k x0 x1 x6 x7 x11 (wrap64 (x12 + 1))))
end
def impl_longest.f (k : Nat) (l0 : List Int) (l1 : List Int) : Option (Int × Int) := impl_longest.l0 k l0 l1 0 0 (l0.length : Int) 0
theorem impl_longest.mono_l : ∀ k, (∀ y0 y1 y2 y3 y4 y5, LeO (impl_longest.l0 k y0 y1 y2 y3 y4 y5) (impl_longest.l0 (k + 1) y0 y1 y2 y3 y4 y5)) ∧ (∀ y0 y1 y2 y3 y4 y5 y6 y7, LeO (impl_longest.l1 k y0 y1 y2 y3 y4 y5 y6 y7) (impl_longest.l1 (k + 1) y0 y1 y2 y3 y4 y5 y6 y7))
 | 0 => ⟨fun _ _ _ _ _ _ r h => by simp [impl_longest.l0] at h, fun _ _ _ _ _ _ _ _ r h => by simp [impl_longest.l1] at h⟩
 | k + 1 => by
  obtain ⟨ih0, ih1⟩ := impl_longest.mono_l k
  refine ⟨?_, ?_⟩
  ·intro y0 y1 y2 y3 y4 y5
   unfold impl_longest.l0
   repeat' first
   | (with_reducible exact ih0 _ _ _ _ _ _)
   | (with_reducible exact ih1 _ _ _ _ _ _ _ _)
   | (with_reducible exact LeO.refl _)
   | (with_reducible exact LeO.none _)
   | (with_reducible refine LeO.ite ?_ ?_)
   | (with_reducible refine LeO.bind ?_ (fun _ => ?_))
   | exact ih0 _ _ _ _ _ _
   | exact ih1 _ _ _ _ _ _ _ _
   | exact LeO.none _
   | refine LeO.ite ?_ ?_
   | refine LeO.bind ?_ (fun _ => ?_)
  ·intro y0 y1 y2 y3 y4 y5 y6 y7
   unfold impl_longest.l1
   repeat' first
   | (with_reducible exact ih0 _ _ _ _ _ _)
   | (with_reducible exact ih1 _ _ _ _ _ _ _ _)
   | (with_reducible exact LeO.refl _)
   | (with_reducible exact LeO.none _)
   | (with_reducible refine LeO.ite ?_ ?_)
   | (with_reducible refine LeO.bind ?_ (fun _ => ?_))
   | exact ih0 _ _ _ _ _ _
   | exact ih1 _ _ _ _ _ _ _ _
   | exact LeO.none _
   | refine LeO.ite ?_ ?_
   | refine LeO.bind ?_ (fun _ => ?_)
theorem impl_longest.mono : ∀ a0 a1 k, LeO (impl_longest.f k a0 a1) (impl_longest.f (k + 1) a0 a1) := by
 intro a0 a1 k
 obtain ⟨ih0, ih1⟩ := impl_longest.mono_l k
 unfold impl_longest.f
 repeat' first
   | (with_reducible exact ih0 _ _ _ _ _ _)
   | (with_reducible exact ih1 _ _ _ _ _ _ _ _)
   | (with_reducible exact LeO.refl _)
   | (with_reducible exact LeO.none _)
   | (with_reducible refine LeO.ite ?_ ?_)
   | (with_reducible refine LeO.bind ?_ (fun _ => ?_))
   | exact ih0 _ _ _ _ _ _
   | exact ih1 _ _ _ _ _ _ _ _
   | exact LeO.none _
   | refine LeO.ite ?_ ?_
   | refine LeO.bind ?_ (fun _ => ?_)
set_option maxHeartbeats 8000000 in
set_option maxRecDepth 100000 in
theorem impl_longest.calls (k : Nat) (A0 : Option Addr) (c0 : Nat) (l0 : List Int) (A1 : Option Addr) (c1 : Nat) (l1 : List Int) (r1 : Int) (r2 : Int) (w : World) (hr0 : Kd.C (Kd.int .u8) w A0 l0.length l0) (hc0 : l0.length ≤ c0) (hr1 : Kd.C (Kd.int .u8) w A1 l1.length l1) (hc1 : l1.length ≤ c1) (h : impl_longest.f k l0 l1 = some (r1, r2)) :
  Calls Try.prog 32 #[.slice A0 l0.length c0, .slice A1 l1.length c1] w fun e w' => e = .returned (.tuple #[.int .i64 r1, .int .i64 r2]) ∧ Drawn0 w w' := by
 have HR0 := Aside0.mk hr0
 have HC0 := Aside0.mk hc0
 clear hr0 hc0
 have HR1 := Aside0.mk hr1
 have HC1 := Aside0.mk hc1
 clear hr1 hc1
 have H : (impl_longest.l0 k l0 l1 0 0 (l0.length : Int) 0) = some (r1, r2) := h
 clear h
 have H' := Aside0.mk H
 clear H
 go_enter Try.func32, Try.ntmps32
 go_wp2
 repeat (go_quiet (fail); try go_wp2)
 go_loopg [6, 7, 12] k (fun kq v6 v7 v12 w' => ∃ (x6_1 : Int) (x7_1 : Int) (x12_1 : Int), v6 = .int .i64 x6_1 ∧ v7 = .int .i64 x7_1 ∧ v12 = .int .i64 x12_1 ∧ Aside0 (impl_longest.l0 kq l0 l1 x6_1 x7_1 (l0.length : Int) x12_1 = some (r1, r2)) ∧ Aside0 (kq ≤ k) ∧ Drawn0 w w')
 case atStart => exact ⟨(0), (0), (0), tE, tE, tE, H', ⟨Nat.le_refl _⟩, by repeat (first | exact Drawn0.refl _ | apply Drawn0.step)⟩
 case round =>
  clear H'
  try clear c1
  try clear p2
  obtain ⟨x6_1, x7_1, x12_1, rfl, rfl, rfl, HA, HK1, ⟨m1, rfl⟩⟩ := hrel
  cases gk with
  | zero => exact absurd HA.out (by simp [impl_longest.l0])
  | succ k1 =>
   have H := HA.out
   clear HA
   simp only [impl_longest.l0] at H
   by_cases c3 : x12_1 < (l0.length : Int)
   ·rw [if_pos c3] at H
    have c3b0 : decide (x12_1 < (l0.length : Int)) = true := decide_eq_true c3
    clear c3
    have H' := Aside0.mk H
    clear H
    go_wp2
    repeat (go_quiet (fail); try go_wp2)
    go_loopg [9] k1 (fun kq v9 w' => ∃ (x9_2 : Int), v9 = .int .i64 x9_2 ∧ Aside0 (impl_longest.l1 kq l0 l1 x6_1 x7_1 x12_1 x9_2 (l0.length : Int) x12_1 = some (r1, r2)) ∧ Aside0 (kq ≤ k1) ∧ Drawn0 w w')
    case atStart => exact ⟨(0), tE, H', ⟨Nat.le_refl _⟩, by repeat (first | exact Drawn0.refl _ | apply Drawn0.step)⟩
    case round =>
     clear H'
     try clear c1
     try clear p2
     try clear c3
     try clear c3b0
     try clear p2
     obtain ⟨x9_2, rfl, HA, HK2, ⟨m2, rfl⟩⟩ := hrel
     cases gk with
     | zero => exact absurd HA.out (by simp [impl_longest.l1])
     | succ k2 =>
      have H := HA.out
      clear HA
      simp only [impl_longest.l1] at H
      by_cases c4 : (wrap64 (x12_1 + x9_2)) < (l0.length : Int)
      ·rw [if_pos c4] at H
       have c4b0 : decide ((wrap64 (x12_1 + x9_2)) < (l0.length : Int)) = true := decide_eq_true c4
       clear c4
       by_cases c5 : x9_2 < (l1.length : Int)
       ·rw [if_pos c5] at H
        have c5b0 : decide (x9_2 < (l1.length : Int)) = true := decide_eq_true c5
        clear c5
        obtain ⟨ji6, hji6⟩ : ∃ j_ : Int, (wrap64 (x12_1 + x9_2)) = j_ := ⟨_, rfl⟩
        replace H : (if 0 ≤ (ji6) then (if 0 ≤ x9_2 then (if (rd l0 (ji6)) = (rd l1 x9_2) then (impl_longest.l1 k2 l0 l1 x6_1 x7_1 x12_1 (wrap64 (x9_2 + 1)) (l0.length : Int) x12_1) else (if x9_2 > x7_1 then (impl_longest.l0 k2 l0 l1 x12_1 x9_2 (l0.length : Int) (wrap64 (x12_1 + 1))) else (impl_longest.l0 k2 l0 l1 x6_1 x7_1 (l0.length : Int) (wrap64 (x12_1 + 1))))) else (none)) else (none)) = some (r1, r2) := by first | (rw [hji6] at H; exact H) | (simp only [hji6] at H ⊢; exact H)
        (try rw [hji6] at c4b0)
        have hji6w : (IntKind.i64.wrap (x12_1 + x9_2)) = ji6 := (i64_w _).trans hji6
        by_cases c7 : 0 ≤ (ji6)
        ·rw [if_pos c7] at H
         have c7b0 : decide (0 ≤ (ji6)) = true := decide_eq_true c7
         clear c7
         by_cases c8 : 0 ≤ x9_2
         ·rw [if_pos c8] at H
          have c8b0 : decide (0 ≤ x9_2) = true := decide_eq_true c8
          clear c8
          by_cases c9 : (rd l0 (ji6)) = (rd l1 x9_2)
          ·rw [if_pos c9] at H
           have c9b0 : ((rd l0 (ji6)) == (rd l1 x9_2)) = true := beq_iff_eq.mpr c9
           have c9b1 : ((rd l0 (ji6)) != (rd l1 x9_2)) = false := bne_eq_false_iff_eq.mpr c9
           clear c9
           have H' := Aside0.mk H
           clear H
           have p132 : 0 ≤ ((ji6) : Int) := of_decide_eq_true hE
           have q132 : (ji6) < (l0.length : Int) := of_decide_eq_true hE
           obtain ⟨ad132, e132, hx132_0⟩ := Kd.at_int HR0.out (ji6) p132 q132
           cases e132
           replace p132 := eq_true p132
           replace q132 := eq_true q132
           have p133 : 0 ≤ (x9_2 : Int) := of_decide_eq_true hE
           have q133 : x9_2 < (l1.length : Int) := of_decide_eq_true hE
           obtain ⟨ad133, e133, hx133_0⟩ := Kd.at_int HR1.out x9_2 p133 q133
           cases e133
           replace p133 := eq_true p133
           replace q133 := eq_true q133
           go_wp2
           repeat (go_quiet (fail); try go_wp2)
           go_roundg k2
           case measure => have := HK1.out; have := HK2.out; omega
           case rel => exact ⟨(wrap64 (x9_2 + 1)), tE, H', ⟨by have := HK1.out; have := HK2.out; omega⟩, by repeat (first | exact Drawn0.refl _ | apply Drawn0.step)⟩
          ·rw [if_neg c9] at H
           have c9b0 : ((rd l0 (ji6)) == (rd l1 x9_2)) = false := beq_eq_false_iff_ne.mpr c9
           have c9b1 : ((rd l0 (ji6)) != (rd l1 x9_2)) = true := bne_iff_ne.mpr c9
           by_cases c10 : x9_2 > x7_1
           ·rw [if_pos c10] at H
            have c10b0 : decide (x7_1 < x9_2) = true := decide_eq_true c10
            clear c10
            have H' := Aside0.mk H
            clear H
            have p132 : 0 ≤ ((ji6) : Int) := of_decide_eq_true hE
            have q132 : (ji6) < (l0.length : Int) := of_decide_eq_true hE
            obtain ⟨ad132, e132, hx132_0⟩ := Kd.at_int HR0.out (ji6) p132 q132
            cases e132
            replace p132 := eq_true p132
            replace q132 := eq_true q132
            have p133 : 0 ≤ (x9_2 : Int) := of_decide_eq_true hE
            have q133 : x9_2 < (l1.length : Int) := of_decide_eq_true hE
            obtain ⟨ad133, e133, hx133_0⟩ := Kd.at_int HR1.out x9_2 p133 q133
            cases e133
            replace p133 := eq_true p133
            replace q133 := eq_true q133
            go_wp2
            repeat (go_quiet (fail); try go_wp2)
            go_roundg k2
            case measure => have := HK1.out; have := HK2.out; omega
            case rel => exact ⟨(x12_1), (x9_2), (wrap64 (x12_1 + 1)), tE, tE, tE, H', ⟨by have := HK1.out; have := HK2.out; omega⟩, by repeat (first | exact Drawn0.refl _ | apply Drawn0.step)⟩
           ·rw [if_neg c10] at H
            have c10b0 : decide (x7_1 < x9_2) = false := decide_eq_false c10
            clear c10
            have H' := Aside0.mk H
            clear H
            have p132 : 0 ≤ ((ji6) : Int) := of_decide_eq_true hE
            have q132 : (ji6) < (l0.length : Int) := of_decide_eq_true hE
            obtain ⟨ad132, e132, hx132_0⟩ := Kd.at_int HR0.out (ji6) p132 q132
            cases e132
            replace p132 := eq_true p132
            replace q132 := eq_true q132
            have p133 : 0 ≤ (x9_2 : Int) := of_decide_eq_true hE
            have q133 : x9_2 < (l1.length : Int) := of_decide_eq_true hE
            obtain ⟨ad133, e133, hx133_0⟩ := Kd.at_int HR1.out x9_2 p133 q133
            cases e133
            replace p133 := eq_true p133
            replace q133 := eq_true q133
            go_wp2
            repeat (go_quiet (fail); try go_wp2)
            go_roundg k2
            case measure => have := HK1.out; have := HK2.out; omega
            case rel => exact ⟨(x6_1), (x7_1), (wrap64 (x12_1 + 1)), tE, tE, tE, H', ⟨by have := HK1.out; have := HK2.out; omega⟩, by repeat (first | exact Drawn0.refl _ | apply Drawn0.step)⟩
         ·rw [if_neg c8] at H
          exact absurd H (by simp)
        ·rw [if_neg c7] at H
         exact absurd H (by simp)
       ·rw [if_neg c5] at H
        have c5b0 : decide (x9_2 < (l1.length : Int)) = false := decide_eq_false c5
        clear c5
        by_cases c11 : x9_2 > x7_1
        ·rw [if_pos c11] at H
         have c11b0 : decide (x7_1 < x9_2) = true := decide_eq_true c11
         clear c11
         have H' := Aside0.mk H
         clear H
         go_wp2
         repeat (go_quiet (fail); try go_wp2)
         go_roundg k2
         case measure => have := HK1.out; have := HK2.out; omega
         case rel => exact ⟨(x12_1), (x9_2), (wrap64 (x12_1 + 1)), tE, tE, tE, H', ⟨by have := HK1.out; have := HK2.out; omega⟩, by repeat (first | exact Drawn0.refl _ | apply Drawn0.step)⟩
        ·rw [if_neg c11] at H
         have c11b0 : decide (x7_1 < x9_2) = false := decide_eq_false c11
         clear c11
         have H' := Aside0.mk H
         clear H
         go_wp2
         repeat (go_quiet (fail); try go_wp2)
         go_roundg k2
         case measure => have := HK1.out; have := HK2.out; omega
         case rel => exact ⟨(x6_1), (x7_1), (wrap64 (x12_1 + 1)), tE, tE, tE, H', ⟨by have := HK1.out; have := HK2.out; omega⟩, by repeat (first | exact Drawn0.refl _ | apply Drawn0.step)⟩
      ·rw [if_neg c4] at H
       have c4b0 : decide ((wrap64 (x12_1 + x9_2)) < (l0.length : Int)) = false := decide_eq_false c4
       clear c4
       by_cases c12 : x9_2 > x7_1
       ·rw [if_pos c12] at H
        have c12b0 : decide (x7_1 < x9_2) = true := decide_eq_true c12
        clear c12
        have H' := Aside0.mk H
        clear H
        go_wp2
        repeat (go_quiet (fail); try go_wp2)
        go_roundg k2
        case measure => have := HK1.out; have := HK2.out; omega
        case rel => exact ⟨(x12_1), (x9_2), (wrap64 (x12_1 + 1)), tE, tE, tE, H', ⟨by have := HK1.out; have := HK2.out; omega⟩, by repeat (first | exact Drawn0.refl _ | apply Drawn0.step)⟩
       ·rw [if_neg c12] at H
        have c12b0 : decide (x7_1 < x9_2) = false := decide_eq_false c12
        clear c12
        have H' := Aside0.mk H
        clear H
        go_wp2
        repeat (go_quiet (fail); try go_wp2)
        go_roundg k2
        case measure => have := HK1.out; have := HK2.out; omega
        case rel => exact ⟨(x6_1), (x7_1), (wrap64 (x12_1 + 1)), tE, tE, tE, H', ⟨by have := HK1.out; have := HK2.out; omega⟩, by repeat (first | exact Drawn0.refl _ | apply Drawn0.step)⟩
   ·rw [if_neg c3] at H
    have c3b0 : decide (x12_1 < (l0.length : Int)) = false := decide_eq_false c3
    clear c3
    simp only [Option.some.injEq, Prod.mk.injEq] at H
    obtain ⟨rfl, rfl⟩ := H
    go_wp2
    repeat (go_quiet (fail); try go_wp2)
    go_ret2
    exact ⟨by first | rfl | (simp; done) | (simp [*]; done) | exact not_isEmpty _ | exact (not_isEmpty _).symm | exact is_empty _ | exact (is_empty _).symm, by repeat (first | exact Drawn0.refl _ | apply Drawn0.step)⟩
end Go.Proofs.Ytcpodjegdpbalaa.PFnExactPatchOf
namespace Go.Proofs.Ytcpodjegdpbalaa.PFnExactPatchOf
open Go.RowKit Go.Proofs.YtcpodjegdpbalaaW.PrintWords Go.Proofs.YtcpodjegdpbalaaW.PrintLast Go.Proofs.YtcpodjegdpbalaaW.PrintMore
attribute [local go_sem] max2_int min2_int max_two min_two max_three min_three max_four min_four   -- for this text's walks alone
set_option linter.unusedVariables false
set_option linter.unusedSimpArgs false
mutual
def impl_PatchOf.j0 : Nat → List Int → List Int → Bool → Option ((List (S62)) × Bool)
 | 0, _, _, _ => none
 | k + 1, x0, x1, x17 => if x17 = true then (some (([] : List (S62)), false)) else (impl_PatchOf.l0 k x0 x1 (([] : List (S62))))
def impl_PatchOf.l0 : Nat → List Int → List Int → List (S62) → Option ((List (S62)) × Bool)
 | 0, _, _, _ => none
 | k + 1, x0, x1, x6 => if (x1.length : Int) > 0 then ((impl_longest.f k x0 x1).bind fun bt137 => (if bt137.2 ≥ 4 then (if x6.length < 3518437208883 then (if 0 ≤ bt137.2 then (if bt137.2 ≤ (x1.length : Int) then (impl_PatchOf.l0 k x0 (x1.drop (bt137.2 : Int).toNat) (x6 ++ [(⟨bt137.1, bt137.2, ([] : List Int)⟩ : S62)])) else (none)) else (none)) else (none)) else (if (x6.length : Int) = 0 then (if x6.length < 3518437208883 then ((some (x6 ++ [(⟨0, 0, ([] : List Int)⟩ : S62)] : List (S62))).bind fun y143 => (if 0 ≤ (wrap64 ((y143.length : Int) - 1)) then (if (wrap64 ((y143.length : Int) - 1)) < (y143.length : Int) then (if 0 < (x1.length : Int) then (if ((rd_T62 y143 (wrap64 ((y143.length : Int) - 1))).f2).length < 140737488355328 then (if 1 ≤ (x1.length : Int) then (impl_PatchOf.l0 k x0 (x1.drop 1) (y143.set ((wrap64 ((y143.length : Int) - 1)) : Int).toNat (⟨(rd_T62 y143 (wrap64 ((y143.length : Int) - 1))).f0, (rd_T62 y143 (wrap64 ((y143.length : Int) - 1))).f1, (((rd_T62 y143 (wrap64 ((y143.length : Int) - 1))).f2) ++ [rd x1 0])⟩ : S62))) else (none)) else (none)) else (none)) else (none)) else (none))) else (none)) else (if 0 ≤ (wrap64 ((x6.length : Int) - 1)) then (if (wrap64 ((x6.length : Int) - 1)) < (x6.length : Int) then (if ((rd_T62 x6 (wrap64 ((x6.length : Int) - 1))).f1) > 0 then (if x6.length < 3518437208883 then ((some (x6 ++ [(⟨0, 0, ([] : List Int)⟩ : S62)] : List (S62))).bind fun y155 => (if 0 ≤ (wrap64 ((y155.length : Int) - 1)) then (if (wrap64 ((y155.length : Int) - 1)) < (y155.length : Int) then (if 0 < (x1.length : Int) then (if ((rd_T62 y155 (wrap64 ((y155.length : Int) - 1))).f2).length < 140737488355328 then (if 1 ≤ (x1.length : Int) then (impl_PatchOf.l0 k x0 (x1.drop 1) (y155.set ((wrap64 ((y155.length : Int) - 1)) : Int).toNat (⟨(rd_T62 y155 (wrap64 ((y155.length : Int) - 1))).f0, (rd_T62 y155 (wrap64 ((y155.length : Int) - 1))).f1, (((rd_T62 y155 (wrap64 ((y155.length : Int) - 1))).f2) ++ [rd x1 0])⟩ : S62))) else (none)) else (none)) else (none)) else (none)) else (none))) else (none)) else (if 0 < (x1.length : Int) then (if ((rd_T62 x6 (wrap64 ((x6.length : Int) - 1))).f2).length < 140737488355328 then (if 1 ≤ (x1.length : Int) then (impl_PatchOf.l0 k x0 (x1.drop 1) (x6.set ((wrap64 ((x6.length : Int) - 1)) : Int).toNat (⟨(rd_T62 x6 (wrap64 ((x6.length : Int) - 1))).f0, (rd_T62 x6 (wrap64 ((x6.length : Int) - 1))).f1, (((rd_T62 x6 (wrap64 ((x6.length : Int) - 1))).f2) ++ [rd x1 0])⟩ : S62))) else (none)) else (none)) else (none))) else (none)) else (none))))) else (some (x6, true))
end
def impl_PatchOf.f (k : Nat) (l0 : List Int) (l1 : List Int) : Option ((List (S62)) × Bool) := if (l0.length : Int) > 400 then (impl_PatchOf.j0 k l0 l1 true) else (impl_PatchOf.j0 k l0 l1 (decide ((l1.length : Int) > 400)))
theorem impl_PatchOf.mono_l : ∀ k, (∀ y0 y1 y2, LeO (impl_PatchOf.j0 k y0 y1 y2) (impl_PatchOf.j0 (k + 1) y0 y1 y2)) ∧ (∀ y0 y1 y2, LeO (impl_PatchOf.l0 k y0 y1 y2) (impl_PatchOf.l0 (k + 1) y0 y1 y2))
 | 0 => ⟨fun _ _ _ r h => by simp [impl_PatchOf.j0] at h, fun _ _ _ r h => by simp [impl_PatchOf.l0] at h⟩
 | k + 1 => by
  obtain ⟨ih0, ih1⟩ := impl_PatchOf.mono_l k
  refine ⟨?_, ?_⟩
  ·intro y0 y1 y2
   unfold impl_PatchOf.j0
   repeat' first
   | (with_reducible exact ih0 _ _ _)
   | (with_reducible exact ih1 _ _ _)
   | (with_reducible exact impl_longest.mono _ _ _)
   | (with_reducible exact LeO.refl _)
   | (with_reducible exact LeO.none _)
   | (with_reducible refine LeO.ite ?_ ?_)
   | (with_reducible refine LeO.bind ?_ (fun _ => ?_))
   | exact ih0 _ _ _
   | exact ih1 _ _ _
   | exact impl_longest.mono _ _ _
   | exact LeO.none _
   | refine LeO.ite ?_ ?_
   | refine LeO.bind ?_ (fun _ => ?_)
  ·intro y0 y1 y2
   unfold impl_PatchOf.l0
   repeat' first
   | (with_reducible exact ih0 _ _ _)
   | (with_reducible exact ih1 _ _ _)
   | (with_reducible exact impl_longest.mono _ _ _)
   | (with_reducible exact LeO.refl _)
   | (with_reducible exact LeO.none _)
   | (with_reducible refine LeO.ite ?_ ?_)
   | (with_reducible refine LeO.bind ?_ (fun _ => ?_))
   | exact ih0 _ _ _
   | exact ih1 _ _ _
   | exact impl_longest.mono _ _ _
   | exact LeO.none _
   | refine LeO.ite ?_ ?_
   | refine LeO.bind ?_ (fun _ => ?_)
theorem impl_PatchOf.mono : ∀ a0 a1 k, LeO (impl_PatchOf.f k a0 a1) (impl_PatchOf.f (k + 1) a0 a1) := by
 intro a0 a1 k
 obtain ⟨ih0, ih1⟩ := impl_PatchOf.mono_l k
 unfold impl_PatchOf.f
 repeat' first
   | (with_reducible exact ih0 _ _ _)
   | (with_reducible exact ih1 _ _ _)
   | (with_reducible exact impl_longest.mono _ _ _)
   | (with_reducible exact LeO.refl _)
   | (with_reducible exact LeO.none _)
   | (with_reducible refine LeO.ite ?_ ?_)
   | (with_reducible refine LeO.bind ?_ (fun _ => ?_))
   | exact ih0 _ _ _
   | exact ih1 _ _ _
   | exact impl_longest.mono _ _ _
   | exact LeO.none _
   | refine LeO.ite ?_ ?_
   | refine LeO.bind ?_ (fun _ => ?_)
def impl_PatchOf.T12 : Bool × List (List Nat × List Nat) := (true, [([], []), ([], []), ([1], [1]), ([2], [2]), ([3], [3]), ([], []), ([5], [5]), ([6], [6]), ([7], [7]), ([4, 8], [4, 8]), ([0, 0, 1, 2, 3, 4, 5, 6, 7, 8, 9], [0]), ([10, 0, 1, 2, 3, 4, 5, 6, 7, 8, 9], [10]), ([11, 9, 9, 0, 1, 2, 3, 4, 5, 6, 7, 8, 9], [9, 11])])
def impl_PatchOf.B12 : List Nat := [0, 0, 2, 6, 14, 0, 32, 96, 224, 510, 1023, 2047, 4095]
theorem impl_PatchOf.tab12 : rtab .any (opsOf Try.f8 12) = impl_PatchOf.T12 := by kernel_rfl
theorem impl_PatchOf.bits12 : waitsOk impl_PatchOf.T12.2 impl_PatchOf.B12 = true := by kernel_rfl
set_option maxHeartbeats 8000000 in
set_option maxRecDepth 100000 in
theorem impl_PatchOf.calls (k : Nat) (A0 : Option Addr) (c0 : Nat) (l0 : List Int) (A1 : Option Addr) (c1 : Nat) (l1 : List Int) (r1 : List (S62)) (r2 : Bool) (w : World) (hr0 : Kd.C (Kd.int .u8) w A0 l0.length l0) (hc0 : l0.length ≤ c0) (hr1 : Kd.C (Kd.int .u8) w A1 l1.length l1) (hc1 : l1.length ≤ c1) (h : impl_PatchOf.f k l0 l1 = some (r1, r2)) :
  Calls Try.prog 8 #[.slice A0 l0.length c0, .slice A1 l1.length c1] w fun e w' => ∃ v0_ : Value, e = .returned (.tuple #[v0_, .bool r2]) ∧ Kd.S k62 62 w' w.heap.size (fun _ => True) v0_ r1 ∧ Below w.heap.size w w' := by
 have hu62 := Try.underlying62
 have HR0 := Aside0.mk hr0
 have HC0 := Aside0.mk hc0
 clear hr0 hc0
 have HR1 := Aside0.mk hr1
 have HC1 := Aside0.mk hc1
 clear hr1 hc1
 have HB := Aside0.mk (Below.refl w.heap.size w)
 have H : (if (l0.length : Int) > 400 then (impl_PatchOf.j0 k l0 l1 true) else (impl_PatchOf.j0 k l0 l1 (decide ((l1.length : Int) > 400)))) = some (r1, r2) := h
 clear h
 have HC3 := Aside0.mk H
 clear H
 go_enter Try.func8, Try.ntmps8
 go_upto_region 1 with (fail)
 go_cut [17] (fun v17 wc => ∃ (kq : Nat) (x17_2 : Bool), v17 = .bool x17_2 ∧ Aside0 (impl_PatchOf.j0 kq l0 l1 x17_2 = some (r1, r2)) ∧ Aside0 (kq ≤ k) ∧ Aside0 (Below w.heap.size w wc))
 case first =>
  have H := HC3.out
  clear HC3
  by_cases c4 : (l0.length : Int) > 400
  ·rw [if_pos c4] at H
   have c4b0 : decide (400 < (l0.length : Int)) = true := decide_eq_true c4
   have c4b1 : decide (400 < l0.length) = true := decide_eq_true (by omega)
   clear c4
   (first | rw [c4b0] | (simp only [i64_w, i32_w]; rw [c4b0]) | (rw [c4b2]; simp only [Bool.not_false, Bool.not_true]) | skip)
   have H' := Aside0.mk H
   clear H
   go_wp2
   go_meet
   case rel => exact ⟨_, (true), tE, H', ⟨by first | omega | exact Nat.le_refl _⟩, ⟨by repeat (first | (with_reducible first | exact HB.out | apply below_alloc | apply pw_below_drewN | apply below_drew1) | exact HB.out)⟩⟩
  ·rw [if_neg c4] at H
   have c4b0 : decide (400 < (l0.length : Int)) = false := decide_eq_false c4
   have c4b1 : decide (400 < l0.length) = false := decide_eq_false (by omega)
   clear c4
   (first | rw [c4b0] | (simp only [i64_w, i32_w]; rw [c4b0]) | (rw [c4b2]; simp only [Bool.not_false, Bool.not_true]) | skip)
   have H' := Aside0.mk H
   clear H
   go_wp2
   go_meet
   case rel => exact ⟨_, (decide ((l1.length : Int) > 400)), tE, H', ⟨by first | omega | exact Nat.le_refl _⟩, ⟨by repeat (first | (with_reducible first | exact HB.out | apply below_alloc | apply pw_below_drewN | apply below_drew1) | exact HB.out)⟩⟩
 case rest =>
  clear HC3
  try clear c1
  try clear p2
  try clear c4
  try clear c4b0
  try clear c4b1
  try clear c4b2
  obtain ⟨kq, x17_2, rfl, HA, HJ2, HB⟩ := hcut
  cases kq with
  | zero => exact absurd HA.out (by simp [impl_PatchOf.j0])
  | succ kj2 =>
   have H := HA.out
   clear HA
   simp only [impl_PatchOf.j0] at H
   by_cases c5 : x17_2 = true
   ·subst c5
    have H1 : (some (([] : List (S62)), false)) = some (r1, r2) := by rw [if_pos rfl] at H; exact H
    clear H
    have H := H1
    clear H1
    simp only [Option.some.injEq, Prod.mk.injEq] at H
    obtain ⟨rfl, rfl⟩ := H
    go_wp2
    go_ret2
    exact ⟨_, eE, by first | exact Kd.S_nil _ _ _ _ _ | exact Kd.N_nil _ _ _ _ _ | exact Kd.V_nil _ _ _ _ _ | exact Kd.Q_nil _ _ _ _ _ | exact Kd.R_nil _ _ _ _ _, lU⟩
   ·replace c5 := Bool.eq_false_iff.mpr c5
    subst c5
    have H1 : (impl_PatchOf.l0 kj2 l0 l1 (([] : List (S62)))) = some (r1, r2) := by rw [if_neg (show ¬ (false = true) by decide)] at H; exact H
    clear H
    have H := H1
    clear H1
    obtain ⟨y134, hy134⟩ : ∃ y_ : List (S62), y_ = (([] : List (S62))) := ⟨_, rfl⟩
    replace H : (impl_PatchOf.l0 kj2 l0 l1 y134) = some (r1, r2) := by first | (rw [hy134]; with_reducible exact H) | (have H2_ := (Option.bind_some _ _).symm.trans H; rw [hy134]; with_reducible exact H2_) | (have H2_ := (Option.bind_some _ _).symm.trans H; with_reducible exact H2_) | with_reducible exact H | (rw [hy134]; exact H) | exact H
    have Ny134 := Aside0.mk hy134
    clear hy134
    have H' := Aside0.mk H
    clear H
    go_wp2_with (first | ((with_reducible refine gate_dst (N := 18) rfl ?_); (try (refine gate_guard (by rfl) ?_; dsimp only)); refine Kd.S_lit k62 _ 62 ?hg (N := 18) ?hd (xs := ([] : List (S62))) (inner := []) (ok := fun _ => True) (okp := fun _ => True) ?hr ?hp (fun _ hk => hk) trivial (Below.refl _ _) (Nat.le_refl _) (by simp) ?_; (case hd => rfl); (case hg => rfl); (case hr => exact sE); (case hp => exact (Reps.none _ _)); intro v135 w6 ho7 hb hg_ hnew_; clear hg_ hnew_; (first | rw [← Ny134.out] at ho7 | (simp only [Int.reduceToNat] at ho7; rw [← Ny134.out] at ho7)); have HO136 := Aside0.mk (Kd.S_lower ho7 (below_size (lU))); replace HB := bH (lU) hb; clear hb ho7))
    (try simp only [Act.put, List.setIfInBounds_toArray, List.set_cons_zero, List.set_cons_succ])
    go_loopg [1, 6] kj2 (fun kq v1 v6 w' => ∃ (x1_2 : List Int) (x6_2 : List (S62)) (A_1 : Option Addr) (c_1 : Nat), v1 = .slice A_1 x1_2.length c_1 ∧ Aside0 (impl_PatchOf.l0 kq l0 x1_2 x6_2 = some (r1, r2)) ∧ Aside0 (kq ≤ kj2) ∧ Aside0 (Kd.C (Kd.int .u8) w A_1 x1_2.length x1_2) ∧ Aside0 (x1_2.length ≤ c_1) ∧ Aside0 (Kd.S k62 62 w' w.heap.size (fun _ => True) v6 x6_2) ∧ Aside0 (Below w.heap.size w w'))
    case atStart => exact ⟨(l1), (y134), _, _, (by first | rfl | (rw [List.length_drop]; done) | (rw [List.length_drop]; rfl) | (simp only [List.length_drop]; rfl)), H', ⟨Nat.le_refl _⟩, ⟨HR1.out⟩, ⟨HC1.out⟩, ⟨by (with_reducible repeat (first | apply Kd.S_alloc | apply Kd.S_drewN | apply Kd.S_drew)); exact HO136.out⟩, ⟨by repeat (first | (with_reducible first | exact HB.out | apply below_alloc | apply pw_below_drewN | apply below_drew1) | exact HB.out)⟩⟩
    case round =>
     clear H'
     try clear c1
     try clear p2
     try clear c4
     try clear c4b0
     try clear c4b1
     try clear c4b2
     try clear c5
     try clear p2
     obtain ⟨x1_2, x6_2, A_1, c_1, rfl, HA, HK2, HR_1, HC_1, HO_6, HB⟩ := hrel
     cases gk with
     | zero => exact absurd HA.out (by simp [impl_PatchOf.l0])
     | succ k2 =>
      have H := HA.out
      clear HA
      simp only [impl_PatchOf.l0] at H
      by_cases c8 : (x1_2.length : Int) > 0
      ·rw [if_pos c8] at H
       have c8b0 : decide (0 < (x1_2.length : Int)) = true := decide_eq_true c8
       have c8b1 : decide (0 < x1_2.length) = true := decide_eq_true (by omega)
       clear c8
       replace H := Option.bind_eq_some_iff.mp H
       obtain ⟨⟨t137, t138⟩, A90, H⟩ := H
       replace H : (if t138 ≥ 4 then (if x6_2.length < 3518437208883 then (if 0 ≤ t138 then (if t138 ≤ (x1_2.length : Int) then (impl_PatchOf.l0 k2 l0 (x1_2.drop (t138 : Int).toNat) (x6_2 ++ [(⟨t137, t138, ([] : List Int)⟩ : S62)])) else (none)) else (none)) else (none)) else (if (x6_2.length : Int) = 0 then (if x6_2.length < 3518437208883 then ((some (x6_2 ++ [(⟨0, 0, ([] : List Int)⟩ : S62)] : List (S62))).bind fun y143 => (if 0 ≤ (wrap64 ((y143.length : Int) - 1)) then (if (wrap64 ((y143.length : Int) - 1)) < (y143.length : Int) then (if 0 < (x1_2.length : Int) then (if ((rd_T62 y143 (wrap64 ((y143.length : Int) - 1))).f2).length < 140737488355328 then (if 1 ≤ (x1_2.length : Int) then (impl_PatchOf.l0 k2 l0 (x1_2.drop 1) (y143.set ((wrap64 ((y143.length : Int) - 1)) : Int).toNat (⟨(rd_T62 y143 (wrap64 ((y143.length : Int) - 1))).f0, (rd_T62 y143 (wrap64 ((y143.length : Int) - 1))).f1, (((rd_T62 y143 (wrap64 ((y143.length : Int) - 1))).f2) ++ [rd x1_2 0])⟩ : S62))) else (none)) else (none)) else (none)) else (none)) else (none))) else (none)) else (if 0 ≤ (wrap64 ((x6_2.length : Int) - 1)) then (if (wrap64 ((x6_2.length : Int) - 1)) < (x6_2.length : Int) then (if ((rd_T62 x6_2 (wrap64 ((x6_2.length : Int) - 1))).f1) > 0 then (if x6_2.length < 3518437208883 then ((some (x6_2 ++ [(⟨0, 0, ([] : List Int)⟩ : S62)] : List (S62))).bind fun y155 => (if 0 ≤ (wrap64 ((y155.length : Int) - 1)) then (if (wrap64 ((y155.length : Int) - 1)) < (y155.length : Int) then (if 0 < (x1_2.length : Int) then (if ((rd_T62 y155 (wrap64 ((y155.length : Int) - 1))).f2).length < 140737488355328 then (if 1 ≤ (x1_2.length : Int) then (impl_PatchOf.l0 k2 l0 (x1_2.drop 1) (y155.set ((wrap64 ((y155.length : Int) - 1)) : Int).toNat (⟨(rd_T62 y155 (wrap64 ((y155.length : Int) - 1))).f0, (rd_T62 y155 (wrap64 ((y155.length : Int) - 1))).f1, (((rd_T62 y155 (wrap64 ((y155.length : Int) - 1))).f2) ++ [rd x1_2 0])⟩ : S62))) else (none)) else (none)) else (none)) else (none)) else (none))) else (none)) else (if 0 < (x1_2.length : Int) then (if ((rd_T62 x6_2 (wrap64 ((x6_2.length : Int) - 1))).f2).length < 140737488355328 then (if 1 ≤ (x1_2.length : Int) then (impl_PatchOf.l0 k2 l0 (x1_2.drop 1) (x6_2.set ((wrap64 ((x6_2.length : Int) - 1)) : Int).toNat (⟨(rd_T62 x6_2 (wrap64 ((x6_2.length : Int) - 1))).f0, (rd_T62 x6_2 (wrap64 ((x6_2.length : Int) - 1))).f1, (((rd_T62 x6_2 (wrap64 ((x6_2.length : Int) - 1))).f2) ++ [rd x1_2 0])⟩ : S62))) else (none)) else (none)) else (none))) else (none)) else (none)))) = some (r1, r2) := H
       have A9 := Aside0.mk A90
       clear A90
       by_cases c10 : t138 ≥ 4
       ·rw [if_pos c10] at H
        have c10b0 : decide (4 ≤ t138) = true := decide_eq_true c10
        clear c10
        by_cases c11 : x6_2.length < 3518437208883
        ·rw [if_pos c11] at H
         have LMc11 := Aside0.mk c11
         clear c11
         obtain ⟨y139, hy139⟩ : ∃ y_ : List (S62), y_ = (x6_2 ++ [(⟨t137, t138, ([] : List Int)⟩ : S62)]) := ⟨_, rfl⟩
         replace H : (if 0 ≤ t138 then (if t138 ≤ (x1_2.length : Int) then (impl_PatchOf.l0 k2 l0 (x1_2.drop (t138 : Int).toNat) y139) else (none)) else (none)) = some (r1, r2) := by first | (rw [hy139]; with_reducible exact H) | (have H2_ := (Option.bind_some _ _).symm.trans H; rw [hy139]; with_reducible exact H2_) | (have H2_ := (Option.bind_some _ _).symm.trans H; with_reducible exact H2_) | with_reducible exact H | (rw [hy139]; exact H) | exact H
         have Ny139 := Aside0.mk hy139
         clear hy139
         by_cases c12 : 0 ≤ t138
         ·rw [if_pos c12] at H
          have c12b0 := eq_true c12
          have c12b1 : decide (0 ≤ t138) = true := decide_eq_true c12
          clear c12
          by_cases c13 : t138 ≤ (x1_2.length : Int)
          ·rw [if_pos c13] at H
           have c13b0 := eq_true c13
           have c13b1 : decide (t138 ≤ (x1_2.length : Int)) = true := decide_eq_true c13
           clear c13
           have H' := Aside0.mk H
           clear H
           go_wp2_with (first | ((with_reducible refine gate_callee (f := 32) rfl ?_); refine goesL_ (some 25) rfl rfl Try.func32 (by kernel_rfl) rfl #[.slice A0 l0.length c0, .slice A_1 x1_2.length c_1] rfl aE ?_; (with_reducible refine (impl_longest.calls k2 _ _ l0 _ _ x1_2 t137 t138 _ ?side1 ?side2 ?side3 ?side4 A9.out).mono ?_); (case side1 => exact cU (Kd.C_below HR0.out HB.out)); (case side2 => exact HC0.out); (case side3 => exact cU (Kd.C_below HR_1.out HB.out)); (case side4 => exact HC_1.out); rintro e w' ⟨rfl, ⟨nd, rfl⟩⟩; refine ⟨_, rfl, ?_⟩) | ((with_reducible refine gate_builtin (b := .append) (xs := #[.tmp 30, .tmp 34]) rfl ?_); (try (refine gate_guard (by rfl) ?_; dsimp only)); at_builtin; refine Kd.S_append k62 (w0 := w) w.heap.size rfl (.tmp 30) (.tmp 34) 23 62 (.agg #[(.int .i64 0), (.int .i64 0), (.slice none 0 0)]) 40 rfl Try.underlying23 info62 rfl (by decide) (by omega) u6 x6_2 (⟨t137, t138, ([] : List Int)⟩ : S62) [.int .i64 t137, .int .i64 t138, .slice none 0 0] (fun _ => True) (fun _ => False) rfl rfl ?aP (fun k_ hk_ => hk_.elim) ?aF ?aO ?aB ?aS ?aL ?_; (case aP => exact k62_mkM _ _ _ (⟨t137, t138, ([] : List Int)⟩ : S62) (Kd.R_nil _ _ _ _ _)); (case aB => exact (lU)); (case aF => exact (fun _ _ => trivial)); (case aO => exact (by (with_reducible repeat (first | apply Kd.S_alloc | apply Kd.S_drewN | apply Kd.S_drew)); exact Kd.S_mono HO_6.out (fun k_ hk => ⟨trivial, fun e_ => e_⟩))); (case aS => exact (below_size (lU))); (case aL => have := LMc11.out; omega); intro v140 w14 ho hb hg hat; rw [← Ny139.out] at ho; replace HB := Aside0.mk hb; have HO141 := Aside0.mk ho; clear HO_6; clear ho hb hg hat; obtain ⟨i015, hi015, _, hsz15, _⟩ := info_parts info5; obtain ⟨A15, hcut15, hA15, hC15⟩ := print_drop_of (P := Try.prog) (Value.int .u8) 0 22 5 .i64 Try.underlying22 hi015 hsz15 A_1 c_1 x1_2 t138 (of_decide_eq_true hE) (of_decide_eq_true hE) HC_1.out; have HR142 := Aside0.mk (Kd.C_of_reads (h1 := fun _ => rfl) (hA15 _ (Kd.reads_of_C HR_1.out))); have HC142 := Aside0.mk hC15; (try clear hA15); (try clear hC15); (try clear hi015); (try clear hsz15)))
           go_roundg k2
           case measure => have := HJ2.out; have := HK2.out; omega
           case rel => exact ⟨(x1_2.drop (t138 : Int).toNat), (y139), _, _, (by first | rfl | (rw [List.length_drop]; done) | (rw [List.length_drop]; rfl) | (simp only [List.length_drop]; rfl)), H', ⟨by have := HJ2.out; have := HK2.out; omega⟩, ⟨HR142.out⟩, ⟨HC142.out⟩, ⟨by (with_reducible repeat (first | apply Kd.S_alloc | apply Kd.S_drewN | apply Kd.S_drew)); exact HO141.out⟩, ⟨by repeat (first | (with_reducible first | exact HB.out | apply below_alloc | apply pw_below_drewN | apply below_drew1) | exact HB.out)⟩⟩
          ·rw [if_neg c13] at H
           exact absurd H (by simp)
         ·rw [if_neg c12] at H
          exact absurd H (by simp)
        ·rw [if_neg c11] at H
         exact absurd H (by simp)
       ·rw [if_neg c10] at H
        have c10b0 : decide (4 ≤ t138) = false := decide_eq_false c10
        clear c10
        by_cases c16 : (x6_2.length : Int) = 0
        ·rw [if_pos c16] at H
         have c16b0 : ((x6_2.length : Int) == 0) = true := beq_iff_eq.mpr c16
         have c16b1 : ((x6_2.length : Int) != 0) = false := bne_eq_false_iff_eq.mpr c16
         clear c16
         by_cases c17 : x6_2.length < 3518437208883
         ·rw [if_pos c17] at H
          have LMc17 := Aside0.mk c17
          clear c17
          obtain ⟨y143, hy143⟩ : ∃ y_ : List (S62), y_ = (x6_2 ++ [(⟨0, 0, ([] : List Int)⟩ : S62)]) := ⟨_, rfl⟩
          replace H : (if 0 ≤ (wrap64 ((y143.length : Int) - 1)) then (if (wrap64 ((y143.length : Int) - 1)) < (y143.length : Int) then (if 0 < (x1_2.length : Int) then (if ((rd_T62 y143 (wrap64 ((y143.length : Int) - 1))).f2).length < 140737488355328 then (if 1 ≤ (x1_2.length : Int) then (impl_PatchOf.l0 k2 l0 (x1_2.drop 1) (y143.set ((wrap64 ((y143.length : Int) - 1)) : Int).toNat (⟨(rd_T62 y143 (wrap64 ((y143.length : Int) - 1))).f0, (rd_T62 y143 (wrap64 ((y143.length : Int) - 1))).f1, (((rd_T62 y143 (wrap64 ((y143.length : Int) - 1))).f2) ++ [rd x1_2 0])⟩ : S62))) else (none)) else (none)) else (none)) else (none)) else (none)) = some (r1, r2) := by first | (rw [hy143]; with_reducible exact H) | (have H2_ := (Option.bind_some _ _).symm.trans H; rw [hy143]; with_reducible exact H2_) | (have H2_ := (Option.bind_some _ _).symm.trans H; with_reducible exact H2_) | with_reducible exact H | (rw [hy143]; exact H) | exact H
          have Ny143 := Aside0.mk hy143
          clear hy143
          obtain ⟨ji18, hji18⟩ : ∃ j_ : Int, (wrap64 ((y143.length : Int) - 1)) = j_ := ⟨_, rfl⟩
          replace H : (if 0 ≤ (ji18) then (if (ji18) < (y143.length : Int) then (if 0 < (x1_2.length : Int) then (if ((rd_T62 y143 (ji18)).f2).length < 140737488355328 then (if 1 ≤ (x1_2.length : Int) then (impl_PatchOf.l0 k2 l0 (x1_2.drop 1) (y143.set ((ji18) : Int).toNat (⟨(rd_T62 y143 (ji18)).f0, (rd_T62 y143 (ji18)).f1, (((rd_T62 y143 (ji18)).f2) ++ [rd x1_2 0])⟩ : S62))) else (none)) else (none)) else (none)) else (none)) else (none)) = some (r1, r2) := by first | (rw [hji18] at H; exact H) | (simp only [hji18] at H ⊢; exact H)
          (try rw [hji18] at A9)
          have hji18w : (IntKind.i64.wrap ((y143.length : Int) - 1)) = ji18 := (i64_w _).trans hji18
          by_cases c19 : 0 ≤ (ji18)
          ·rw [if_pos c19] at H
           have c19b0 : decide (0 ≤ (ji18)) = true := decide_eq_true c19
           clear c19
           by_cases c20 : (ji18) < (y143.length : Int)
           ·rw [if_pos c20] at H
            have c20b0 : decide ((ji18) < (y143.length : Int)) = true := decide_eq_true c20
            clear c20
            by_cases c21 : 0 < (x1_2.length : Int)
            ·rw [if_pos c21] at H
             have c21b0 : decide (0 < (x1_2.length : Int)) = true := decide_eq_true c21
             have c21b1 : decide (0 < x1_2.length) = true := decide_eq_true (by omega)
             clear c21
             by_cases c22 : ((rd_T62 y143 (ji18)).f2).length < 140737488355328
             ·rw [if_pos c22] at H
              have LMc22 := Aside0.mk c22
              clear c22
              obtain ⟨y149, hy149⟩ : ∃ y_ : List Int, y_ = (((rd_T62 y143 (ji18)).f2) ++ [rd x1_2 0]) := ⟨_, rfl⟩
              replace H : (if 1 ≤ (x1_2.length : Int) then (impl_PatchOf.l0 k2 l0 (x1_2.drop 1) (y143.set ((ji18) : Int).toNat (⟨(rd_T62 y143 (ji18)).f0, (rd_T62 y143 (ji18)).f1, y149⟩ : S62))) else (none)) = some (r1, r2) := by first | (rw [hy149]; with_reducible exact H) | (have H2_ := (Option.bind_some _ _).symm.trans H; rw [hy149]; with_reducible exact H2_) | (have H2_ := (Option.bind_some _ _).symm.trans H; with_reducible exact H2_) | with_reducible exact H | (rw [hy149]; exact H) | exact H
              have Ny149 := Aside0.mk hy149
              clear hy149
              obtain ⟨y152, hy152⟩ : ∃ y_ : List (S62), y_ = (y143.set ((ji18) : Int).toNat (⟨(rd_T62 y143 (ji18)).f0, (rd_T62 y143 (ji18)).f1, y149⟩ : S62)) := ⟨_, rfl⟩
              replace H : (if 1 ≤ (x1_2.length : Int) then (impl_PatchOf.l0 k2 l0 (x1_2.drop 1) y152) else (none)) = some (r1, r2) := by first | (rw [hy152]; with_reducible exact H) | (have H2_ := (Option.bind_some _ _).symm.trans H; rw [hy152]; with_reducible exact H2_) | (have H2_ := (Option.bind_some _ _).symm.trans H; with_reducible exact H2_) | with_reducible exact H | (rw [hy152]; exact H) | exact H
              have Ny152 := Aside0.mk hy152
              clear hy152
              by_cases c23 : 1 ≤ (x1_2.length : Int)
              ·rw [if_pos c23] at H
               have c23b0 := eq_true c23
               have c23b1 : decide (1 ≤ (x1_2.length : Int)) = true := decide_eq_true c23
               clear c23
               have H' := Aside0.mk H
               clear H
               try go_wp2_with (first | ((with_reducible refine gate_callee (f := 32) rfl ?_); refine goesL_ (some 25) rfl rfl Try.func32 (by kernel_rfl) rfl #[.slice A0 l0.length c0, .slice A_1 x1_2.length c_1] rfl aE ?_; (with_reducible refine (impl_longest.calls k2 _ _ l0 _ _ x1_2 t137 t138 _ ?side1 ?side2 ?side3 ?side4 A9.out).mono ?_); (case side1 => exact cU (Kd.C_below HR0.out HB.out)); (case side2 => exact HC0.out); (case side3 => exact cU (Kd.C_below HR_1.out HB.out)); (case side4 => exact HC_1.out); rintro e w' ⟨rfl, ⟨nd, rfl⟩⟩; refine ⟨_, rfl, ?_⟩; (try (rw [drewN_self wr]; generalize hq_ : World.drewN wr _ = wr; replace HO_6 : Aside0 (Kd.S k62 62 wr w.heap.size (fun _ => True) u6 x6_2) := ⟨by rw [← hq_]; exact (by (with_reducible repeat (first | apply Kd.S_alloc | apply Kd.S_drewN | apply Kd.S_drew)); exact HO_6.out)⟩; replace HB : Aside0 (Below w.heap.size w wr) := ⟨by rw [← hq_]; exact (lU)⟩; clear hq_)); obtain ⟨Ao24, co24, eo24⟩ := Kd.S_slice HO_6.out; subst eo24) | ((with_reducible refine gate_builtin (b := .append) (xs := #[.tmp 52, .tmp 54]) rfl ?_); (try (refine gate_guard (by rfl) ?_; dsimp only)); at_builtin; refine Kd.S_append k62 (w0 := w) w.heap.size rfl (.tmp 52) (.tmp 54) 23 62 (.agg #[(.int .i64 0), (.int .i64 0), (.slice none 0 0)]) 40 rfl Try.underlying23 info62 rfl (by decide) (by omega) (.slice Ao24 x6_2.length co24) x6_2 (⟨0, 0, ([] : List Int)⟩ : S62) [.int .i64 0, .int .i64 0, .slice none 0 0] (fun _ => True) (fun _ => False) rfl rfl ?aP (fun k_ hk_ => hk_.elim) ?aF ?aO ?aB ?aS ?aL ?_; (case aP => exact k62_mkM _ _ _ (⟨0, 0, ([] : List Int)⟩ : S62) (Kd.R_nil _ _ _ _ _)); (case aB => exact (lU)); (case aF => exact (fun _ _ => trivial)); (case aO => exact (by (with_reducible repeat (first | apply Kd.S_alloc | apply Kd.S_drewN | apply Kd.S_drew)); exact Kd.S_mono HO_6.out (fun k_ hk => ⟨trivial, fun e_ => e_⟩))); (case aS => exact (below_size (lU))); (case aL => have := LMc17.out; omega); intro v144 w25 ho hb hg hat; rw [← Ny143.out] at ho; replace HB := Aside0.mk hb; have HO145 := Aside0.mk ho; clear HO_6; clear ho hb hg hat; obtain ⟨Ao26, co26, eo26⟩ := Kd.S_slice HO145.out; subst eo26; have p146 : 0 ≤ ((ji18) : Int) := of_decide_eq_true hE; have q146 : (ji18) < (y143.length : Int) := of_decide_eq_true hE; obtain ⟨ad146, A146_2, c146_2, e146, hx146_0, hx146_1, hx146_2, hl146_2, hi146_2⟩ := at_T62 (Kd.S_reads' HO145.out).2.2 (ji18) p146 q146; cases e146; obtain ⟨ce146, hce146, hMe146, hcc146⟩ := Kd.S_get HO145.out z62 (ji18) p146 (by first | exact q146 | exact of_decide_eq_true hE | (have e_ := (Kd.S_reads' HO145.out).1; omega)); obtain ⟨ve146_2, rfl, ge146_2⟩ := k62_openM hMe146; have hv146_2 := hcc146 2 _ rfl; rw [add_field _ _ 2 (by omega)] at hv146_2; replace hv146_2 := Option.some.inj (hv146_2.symm.trans hx146_2); rw [hv146_2] at ge146_2; have HL146_2 := Aside0.mk (show Kd.R (Kd.int .u8) 5 _ _ _ _ ((rd_T62 y143 (ji18)).f2) from ge146_2); clear hv146_2 ge146_2; have HX146_2 := Aside0.mk hx146_2; (try clear hcc146); (try clear hce146); have HR146_2 := Aside0.mk hi146_2; have HC146_2 := Aside0.mk hl146_2; clear hi146_2 hl146_2; replace p146 := eq_true p146; replace q146 := eq_true q146))
               replace HO145 := Aside0.mk (Kd.S_drew HO145.out)
               replace HL146_2 := Aside0.mk (Kd.R_drew HL146_2.out)
               replace HR146_2 := Aside0.mk (Kd.C_drew HR146_2.out)
               replace HB := Aside0.mk (below_drew1 HB.out)
               have p147 : 0 ≤ ((ji18) : Int) := of_decide_eq_true hE
               have q147 : (ji18) < (y143.length : Int) := of_decide_eq_true hE
               obtain ⟨ad147, A147_2, c147_2, e147, hx147_0, hx147_1, hx147_2, hl147_2, hi147_2⟩ := at_T62 (Kd.S_reads' HO145.out).2.2 (ji18) p147 q147
               obtain rfl : ad146 = ad147 := (by injection e147)
               obtain ⟨ce147, hce147, hMe147, hcc147⟩ := Kd.S_get HO145.out z62 (ji18) p147 (by first | exact q147 | exact of_decide_eq_true hE | (have e_ := (Kd.S_reads' HO145.out).1; omega))
               obtain ⟨ve147_2, rfl, ge147_2⟩ := k62_openM hMe147
               have hv147_2 := hcc147 2 _ rfl
               rw [add_field _ _ 2 (by omega)] at hv147_2
               replace hv147_2 := Option.some.inj (hv147_2.symm.trans hx147_2)
               rw [hv147_2] at ge147_2
               have HL147_2 := Aside0.mk (show Kd.R (Kd.int .u8) 5 _ _ _ _ ((rd_T62 y143 (ji18)).f2) from ge147_2)
               clear hv147_2 ge147_2
               have HX147_2 := Aside0.mk hx147_2
               (try clear hcc147)
               (try clear hce147)
               have HR147_2 := Aside0.mk hi147_2
               have HC147_2 := Aside0.mk hl147_2
               clear hi147_2 hl147_2
               replace p147 := eq_true p147
               replace q147 := eq_true q147
               have p148 : 0 ≤ (0 : Int) := (by omega)
               have q148 : 0 < (x1_2.length : Int) := of_decide_eq_true hE
               obtain ⟨ad148, e148, hx148_0⟩ := Kd.at_int HR_1.out 0 p148 q148
               have hw148_0 := hx148_0
               (try rw [show ((0 : Int)).toNat = 0 from rfl] at hw148_0)
               (try rw [show 0 * 1 = 0 from rfl] at hw148_0)
               (try rw [Addr.add_zero'] at hw148_0)
               cases e148
               have qi148 : (0 < x1_2.length) = True := eq_true (by omega)
               (try rw [show ((0 : Int)).toNat = 0 from rfl] at hx148_0)
               (try rw [Addr.add_zero'] at hx148_0)
               replace hx148_0 := (HB.out.cell (World.block_lt_of_cell? w _ hx148_0)).trans hx148_0
               replace p148 := eq_true p148
               replace q148 := eq_true q148
               obtain ⟨go28, co28, eo28, gb28, gl28, cl28, HG28⟩ := Kd.S_form HO145.out (by have h_ : ((ji18) : Int) < ((y143.length : Int) : Int) := of_decide_eq_true hE; have h2_ : 0 ≤ ((ji18) : Int) := (of_decide_eq_true hE); omega)
               (first | cases eo28 | (injection eo28 with ea_ en_ ec_; (first | subst ea_ | (injection ea_ with ea_; subst ea_)); subst ec_; clear en_))
               have GB28 := Aside0.mk gb28
               have GG28 := Aside0.mk HG28
               clear gb28 gl28 HG28
               (first | simp only [add_plain] at hx146_0 | skip)
               (first | simp only [add_plain] at hx146_1 | skip)
               (first | simp only [add_plain] at hx146_2 | skip)
               (first | simp only [add_plain] at hx147_0 | skip)
               (first | simp only [add_plain] at hx147_1 | skip)
               (first | simp only [add_plain] at hx147_2 | skip)
               obtain ⟨oki28, ce28, hcl28, hM28, hcc28, _, _, hH28⟩ := Kd.S_elem HO145.out z62 ((ji18) : Int) (of_decide_eq_true hE) (by have h_ : ((ji18) : Int) < ((y143.length : Int) : Int) := of_decide_eq_true hE; first | exact h_ | (have e_ := (Kd.S_reads' HO145.out).1; omega) | simpa using h_)
               obtain ⟨ve28_2, rfl, ge28_2⟩ := k62_openM hM28
               have hv28 := hcc28 2 _ rfl
               have hX28 := HX147_2.out
               (try simp only [add_plain] at hX28)
               (try simp only [Nat.add_zero] at hv28)
               replace hv28 := Option.some.inj (hv28.symm.trans hX28)
               subst hv28
               (try clear hX28)
               (try clear hcc28)
               (try clear hcl28)
               have UU28 := Aside0.mk (show Kd.R (Kd.int .u8) 5 _ w.heap.size oki28 (.slice A147_2 ((rd_T62 y143 (ji18)).f2).length c147_2) ((rd_T62 y143 (ji18)).f2) from ge28_2)
               have HH28 := Aside0.mk hH28
               have HN28 := Aside0.mk (Kd.S_reads' HO145.out).1
               clear hH28 ge28_2
               refine start_ (n := 13) (S := fun w' => w'.cell? ⟨go28, (((ji18)).toNat * 3), none⟩ = some (.int .i64 ((rd_T62 y143 (ji18)).f0)) ∧ w'.cell? ⟨go28, (((ji18)).toNat * 3) + 1, none⟩ = some (.int .i64 ((rd_T62 y143 (ji18)).f1)) ∧ w'.cell? ⟨go28, (((ji18)).toNat * 3) + 2, none⟩ = some (.slice A147_2 ((rd_T62 y143 (ji18)).f2).length c147_2) ∧ w'.cell? ad148 = some (.int .u8 (rd x1_2 0))) (ds := [12]) #[false, false, false, false, false, false, false, false, false, false, false, false, false] (by kernel_rfl) rfl rfl ⟨hx147_0, hx147_1, hx147_2, ((HB.out.cell (World.block_lt_of_cell? w _ hw148_0)).trans hw148_0)⟩ (fun hHeld => ?_); refine with_tabW impl_PatchOf.tab12 impl_PatchOf.bits12 (fun HT_ HW_ => ?_)
               generalize w25.drew = w27 at HO145 HL146_2 HR146_2 HB GG28 HH28 HL147_2 HR147_2 HX147_2 UU28 hx146_0 hx146_1 hx146_2 hx147_0 hx147_1 hx147_2 hx148_0 hHeld ⊢
               refine pureA 0 61 (bz 13 1) rfl rfl (any_of HT_.out (by kernel_rfl)) ?_
               refine pureA 1 62 (bz 13 3) rfl rfl (any_of HT_.out (by kernel_rfl)) ?_
               refine pureA 2 63 (bz 13 7) rfl rfl (any_of HT_.out (by kernel_rfl)) ?_
               refine pureA 3 64 (bz 13 15) rfl rfl (any_of HT_.out (by kernel_rfl)) ?_
               refine pureA 5 66 (bz 13 47) rfl rfl (any_of HT_.out (by kernel_rfl)) ?_
               refine pureA 6 67 (bz 13 111) rfl rfl (any_of HT_.out (by kernel_rfl)) ?_
               refine takeA 4 65 (bz 13 127) rfl rfl (take_ofW HT_.out HW_.out (by kernel_rfl)) hHeld (by rintro w' ⟨s0, s1, s2, s3⟩; go_simp; with_reducible rfl) ?_
               refine takeA 7 68 (bz 13 255) rfl rfl (take_ofW HT_.out HW_.out (by kernel_rfl)) hHeld (by rintro w' ⟨s0, s1, s2, s3⟩; go_simp; with_reducible rfl) ?_
               refine one_ (i := 8) (N := some 69) (bz 13 511) rfl rfl (one_of HT_.out (by kernel_rfl)) (by decide) (fun K hK => ?_)
               refine value_ (w1 := ?_) (v := ?_) (by rfl) rfl ?_ ?_
               rotate_left 2
               ·go_simp
                constructor
                ·rfl
                ·rfl
               refine hK.out _ _ ⟨(World.cell?_alloc_lt _ _ _ (World.block_lt_of_cell? _ _ (hHeld.1))).trans (hHeld.1), (World.cell?_alloc_lt _ _ _ (World.block_lt_of_cell? _ _ (hHeld.2.1))).trans (hHeld.2.1), (World.cell?_alloc_lt _ _ _ (World.block_lt_of_cell? _ _ (hHeld.2.2.1))).trans (hHeld.2.2.1), (World.cell?_alloc_lt _ _ _ (World.block_lt_of_cell? _ _ (((HB.out.cell (World.block_lt_of_cell? w _ hw148_0)).trans hw148_0)))).trans (((HB.out.cell (World.block_lt_of_cell? w _ hw148_0)).trans hw148_0))⟩ (fun hHeld => ?_)
               clear hK K
               refine norm_ (a' := ?_) ?_ ?_
               rotate_left
               ·show Act.put _ (some 69) _ = _
                simp only [Act.put, List.setIfInBounds_toArray, List.set_cons_zero, List.set_cons_succ, i64_w, i32_w]
                rfl
               refine one_ (i := 9) (N := some 70) (bz 13 1023) rfl rfl (one_of HT_.out (by kernel_rfl)) (by decide) (fun K hK => ?_)
               refine Kd.R_append_step (Kd.int .u8) (w0 := w) w.heap.size (by rfl) (.tmp 65) (.tmp 69) 22 5 (.int .u8 0) 1 rfl Try.underlying22 info5 rfl (by decide) (by omega) (.slice A147_2 ((rd_T62 y143 (ji18)).f2).length c147_2) ((rd_T62 y143 (ji18)).f2) (rd x1_2 0) [.int .u8 (rd x1_2 0)] (fun k_ => oki28 k_ ∨ ((fun _ => True)) k_ ∧ w27.heap.size ≤ k_) (fun _ => False) rfl rfl ?aP (fun _ hk => hk.elim) ?aF ?aO ?aB ?aS ?aL ?_
               (case aP => exact rfl)
               (case aB => exact (lU))
               (case aF => exact (fun k_ hk => .inr ⟨trivial, hk⟩))
               (case aO => exact (by (with_reducible repeat (first | apply Kd.R_alloc | apply Kd.R_drewN | apply Kd.R_drew)); exact Kd.R_mono UU28.out (fun _ hk => .inl hk)))
               (case aS => exact (below_size (lU)))
               (case aL => have := LMc22.out; omega)
               intro v150 w29 ho hb hg hat
               (first | have HS0_ := cell_grown hg (hHeld.1) (by first | (rw [add_block]; exact (fun e_ => ((HL147_2.out.1 _ e_.symm).2) rfl)) | (show some (Addr.add _ _).block ≠ _; rw [add_block]; exact (fun e_ => ((HL147_2.out.1 _ e_.symm).2) rfl)) | exact (fun e_ => ((HL147_2.out.1 _ e_.symm).2) rfl)) | have HS0_ := cell_grown hg (cell_unalloc (hHeld.1) (by first | (rw [add_block]; exact Kd.S_lt HO145.out _ rfl) | (show (Addr.add _ _).block < _; rw [add_block]; exact Kd.S_lt HO145.out _ rfl) | exact Kd.S_lt HO145.out _ rfl)) (by first | (rw [add_block]; exact (fun e_ => ((HL147_2.out.1 _ e_.symm).2) rfl)) | (show some (Addr.add _ _).block ≠ _; rw [add_block]; exact (fun e_ => ((HL147_2.out.1 _ e_.symm).2) rfl)) | exact (fun e_ => ((HL147_2.out.1 _ e_.symm).2) rfl)))
               (first | have HS1_ := cell_grown hg (hHeld.2.1) (by first | (rw [add_block]; exact (fun e_ => ((HL147_2.out.1 _ e_.symm).2) rfl)) | (show some (Addr.add _ _).block ≠ _; rw [add_block]; exact (fun e_ => ((HL147_2.out.1 _ e_.symm).2) rfl)) | exact (fun e_ => ((HL147_2.out.1 _ e_.symm).2) rfl)) | have HS1_ := cell_grown hg (cell_unalloc (hHeld.2.1) (by first | (rw [add_block]; exact Kd.S_lt HO145.out _ rfl) | (show (Addr.add _ _).block < _; rw [add_block]; exact Kd.S_lt HO145.out _ rfl) | exact Kd.S_lt HO145.out _ rfl)) (by first | (rw [add_block]; exact (fun e_ => ((HL147_2.out.1 _ e_.symm).2) rfl)) | (show some (Addr.add _ _).block ≠ _; rw [add_block]; exact (fun e_ => ((HL147_2.out.1 _ e_.symm).2) rfl)) | exact (fun e_ => ((HL147_2.out.1 _ e_.symm).2) rfl)))
               (first | have HS2_ := cell_grown hg (hHeld.2.2.1) (by first | (rw [add_block]; exact (fun e_ => ((HL147_2.out.1 _ e_.symm).2) rfl)) | (show some (Addr.add _ _).block ≠ _; rw [add_block]; exact (fun e_ => ((HL147_2.out.1 _ e_.symm).2) rfl)) | exact (fun e_ => ((HL147_2.out.1 _ e_.symm).2) rfl)) | have HS2_ := cell_grown hg (cell_unalloc (hHeld.2.2.1) (by first | (rw [add_block]; exact Kd.S_lt HO145.out _ rfl) | (show (Addr.add _ _).block < _; rw [add_block]; exact Kd.S_lt HO145.out _ rfl) | exact Kd.S_lt HO145.out _ rfl)) (by first | (rw [add_block]; exact (fun e_ => ((HL147_2.out.1 _ e_.symm).2) rfl)) | (show some (Addr.add _ _).block ≠ _; rw [add_block]; exact (fun e_ => ((HL147_2.out.1 _ e_.symm).2) rfl)) | exact (fun e_ => ((HL147_2.out.1 _ e_.symm).2) rfl)))
               rw [← Ny149.out] at ho
               replace HB := Aside0.mk hb
               replace HH28 := Aside0.mk (Kd.H_grown (Kd.H_widen (by repeat (first | exact HH28.out | refine Kd.H_alloc ?_ _ | refine Kd.H_drewN ?_ _ | refine Kd.H_drew ?_))) hg (fun k_ e_ => .inl (UU28.out.1 k_ e_)))
               have HO151 := Aside0.mk ho
               clear HO145 UU28 HL146_2 HL147_2
               clear ho hb hg hat
               obtain ⟨Ao32, co32, eo32⟩ := Kd.R_slice HO151.out
               (first | subst eo32 | (injection eo32 with f1_ f2_ f3_; have f4_ := f1_.symm; have f5_ := f3_.symm; clear f1_ f2_ f3_; subst f4_; subst f5_))
               obtain ⟨_, _, hraw30, _, _, hcc30, _⟩ := Kd.H_raw HH28.out (of_decide_eq_true hE) (by have h_ : ((ji18) : Int) < ((y143.length : Int) : Int) := of_decide_eq_true hE; first | exact h_ | (have e_ := (HN28.out); omega) | simpa using h_)
               obtain ⟨_, hfr30⟩ := Kd.H_at HH28.out (of_decide_eq_true hE) (by have h_ : ((ji18) : Int) < ((y143.length : Int) : Int) := of_decide_eq_true hE; first | exact h_ | (have e_ := (HN28.out); omega) | simpa using h_)
               have hx30_0 := hcc30 2 _ rfl
               have hf30_0 := hfr30 2
               (try rw [show (k62).sz = 3 from rfl] at hx30_0)
               (try rw [show (k62).sz = 3 from rfl] at hf30_0)
               have HP30 := Kd.S_seg0 HH28.out (of_decide_eq_true hE) (by have h_ : ((ji18) : Int) < ((y143.length : Int) : Int) := of_decide_eq_true hE; first | exact h_ | (have e_ := (HN28.out); omega) | simpa using h_) (seg := [.slice Ao32 y149.length co32]) (j := 2) (show 3 ≤ 3 from by decide) (x' := (⟨(rd_T62 y143 (ji18)).f0, (rd_T62 y143 (ji18)).f1, y149⟩ : S62)) (k62_mkM _ _ _ (⟨(rd_T62 y143 (ji18)).f0, (rd_T62 y143 (ji18)).f1, y149⟩ : S62) HO151.out) (fun _ hk => hk)
               (try clear hcc30)
               (try clear hfr30)
               have HS30 := HP30.1
               rw [← Ny152.out] at HS30
               have HQ30 := Aside0.mk HS30
               obtain ⟨_, hgg30⟩ := Kd.R_typed hraw30 go28 rfl
               have GG30_ := Aside0.mk hgg30
               clear HP30 HS30 hgg30
               refine hK.out _ _ ⟨HS0_, HS1_, HS2_, ((HB.out.cell (World.block_lt_of_cell? w _ hw148_0)).trans hw148_0)⟩ (fun hHeld => ?_)
               clear hK K
               refine norm_ (a' := ?_) ?_ ?_
               rotate_left
               ·show Act.put _ (some 70) _ = _
                simp only [Act.put, List.setIfInBounds_toArray, List.set_cons_zero, List.set_cons_succ, i64_w, i32_w]
                rfl
               refine pureA 10 71 (bz 13 2047) rfl rfl (any_of HT_.out (by kernel_rfl)) ?_
               refine pureA 11 72 (bz 13 4095) rfl rfl (any_of HT_.out (by kernel_rfl)) ?_
               refine last_ (i := 12) (N := none) (bz 13 8191) rfl rfl (one_of HT_.out (by kernel_rfl)) (by decide) (fun K hK => ?_)
               refine skip_ (w1 := ?_) (by rfl) rfl ?_ ?_
               rotate_left
               ·go_simp
                rfl
               refine hK.out _ _ ?_
               clear hK K
               refine done_ (done_of HT_.out (by kernel_rfl)) ?_
               obtain ⟨i033, hi033, _, hsz33, _⟩ := info_parts info5
               obtain ⟨A33, hcut33, hA33, hC33⟩ := print_drop_of (P := Try.prog) (Value.int .u8) 0 22 5 .i64 Try.underlying22 hi033 hsz33 (some ad148) c_1 x1_2 1 (by omega) (of_decide_eq_true hE) HC_1.out
               have HR153 := Aside0.mk (Kd.C_of_reads (h1 := fun _ => rfl) (hA33 _ (Kd.reads_of_C HR_1.out)))
               have HC153 := Aside0.mk hC33
               (try clear hA33)
               (try clear hC33)
               (try clear hi033)
               (try clear hsz33)
               try go_wp2
               go_roundg k2
               case measure => have := HJ2.out; have := HK2.out; omega
               case rel => exact ⟨(x1_2.drop 1), (y152), _, _, (by first | rfl | (rw [List.length_drop]; done) | (rw [List.length_drop]; rfl) | (simp only [List.length_drop]; rfl)), H', ⟨by have := HJ2.out; have := HK2.out; omega⟩, ⟨HR153.out⟩, ⟨HC153.out⟩, ⟨by (with_reducible repeat (first | apply Kd.S_alloc | apply Kd.S_drewN | apply Kd.S_drew)); exact HQ30.out⟩, ⟨by repeat (first | (with_reducible first | exact HB.out | apply below_alloc | apply pw_below_drewN | apply below_drew1 | refine below_set ?_ GB28.out) | exact HB.out)⟩⟩
              ·rw [if_neg c23] at H
               exact absurd H (by simp)
             ·rw [if_neg c22] at H
              exact absurd H (by simp)
            ·rw [if_neg c21] at H
             exact absurd H (by simp)
           ·rw [if_neg c20] at H
            exact absurd H (by simp)
          ·rw [if_neg c19] at H
           exact absurd H (by simp)
         ·rw [if_neg c17] at H
          exact absurd H (by simp)
        ·rw [if_neg c16] at H
         have c16b0 : ((x6_2.length : Int) == 0) = false := beq_eq_false_iff_ne.mpr c16
         have c16b1 : ((x6_2.length : Int) != 0) = true := bne_iff_ne.mpr c16
         have c16b2 : ¬ (x6_2 = []) := fun h_ => c16 (by rw [h_]; rfl)
         obtain ⟨ji34, hji34⟩ : ∃ j_ : Int, (wrap64 ((x6_2.length : Int) - 1)) = j_ := ⟨_, rfl⟩
         replace H : (if 0 ≤ (ji34) then (if (ji34) < (x6_2.length : Int) then (if ((rd_T62 x6_2 (ji34)).f1) > 0 then (if x6_2.length < 3518437208883 then ((some (x6_2 ++ [(⟨0, 0, ([] : List Int)⟩ : S62)] : List (S62))).bind fun y155 => (if 0 ≤ (wrap64 ((y155.length : Int) - 1)) then (if (wrap64 ((y155.length : Int) - 1)) < (y155.length : Int) then (if 0 < (x1_2.length : Int) then (if ((rd_T62 y155 (wrap64 ((y155.length : Int) - 1))).f2).length < 140737488355328 then (if 1 ≤ (x1_2.length : Int) then (impl_PatchOf.l0 k2 l0 (x1_2.drop 1) (y155.set ((wrap64 ((y155.length : Int) - 1)) : Int).toNat (⟨(rd_T62 y155 (wrap64 ((y155.length : Int) - 1))).f0, (rd_T62 y155 (wrap64 ((y155.length : Int) - 1))).f1, (((rd_T62 y155 (wrap64 ((y155.length : Int) - 1))).f2) ++ [rd x1_2 0])⟩ : S62))) else (none)) else (none)) else (none)) else (none)) else (none))) else (none)) else (if 0 < (x1_2.length : Int) then (if ((rd_T62 x6_2 (ji34)).f2).length < 140737488355328 then (if 1 ≤ (x1_2.length : Int) then (impl_PatchOf.l0 k2 l0 (x1_2.drop 1) (x6_2.set ((ji34) : Int).toNat (⟨(rd_T62 x6_2 (ji34)).f0, (rd_T62 x6_2 (ji34)).f1, (((rd_T62 x6_2 (ji34)).f2) ++ [rd x1_2 0])⟩ : S62))) else (none)) else (none)) else (none))) else (none)) else (none)) = some (r1, r2) := by first | (rw [hji34] at H; exact H) | (simp only [hji34] at H ⊢; exact H)
         (try rw [hji34] at A9)
         have hji34w : (IntKind.i64.wrap ((x6_2.length : Int) - 1)) = ji34 := (i64_w _).trans hji34
         by_cases c35 : 0 ≤ (ji34)
         ·rw [if_pos c35] at H
          have c35b0 : decide (0 ≤ (ji34)) = true := decide_eq_true c35
          clear c35
          by_cases c36 : (ji34) < (x6_2.length : Int)
          ·rw [if_pos c36] at H
           have c36b0 : decide ((ji34) < (x6_2.length : Int)) = true := decide_eq_true c36
           clear c36
           by_cases c37 : ((rd_T62 x6_2 (ji34)).f1) > 0
           ·rw [if_pos c37] at H
            have c37b0 : decide (0 < ((rd_T62 x6_2 (ji34)).f1)) = true := decide_eq_true c37
            clear c37
            by_cases c38 : x6_2.length < 3518437208883
            ·rw [if_pos c38] at H
             have LMc38 := Aside0.mk c38
             clear c38
             obtain ⟨y155, hy155⟩ : ∃ y_ : List (S62), y_ = (x6_2 ++ [(⟨0, 0, ([] : List Int)⟩ : S62)]) := ⟨_, rfl⟩
             replace H : (if 0 ≤ (wrap64 ((y155.length : Int) - 1)) then (if (wrap64 ((y155.length : Int) - 1)) < (y155.length : Int) then (if 0 < (x1_2.length : Int) then (if ((rd_T62 y155 (wrap64 ((y155.length : Int) - 1))).f2).length < 140737488355328 then (if 1 ≤ (x1_2.length : Int) then (impl_PatchOf.l0 k2 l0 (x1_2.drop 1) (y155.set ((wrap64 ((y155.length : Int) - 1)) : Int).toNat (⟨(rd_T62 y155 (wrap64 ((y155.length : Int) - 1))).f0, (rd_T62 y155 (wrap64 ((y155.length : Int) - 1))).f1, (((rd_T62 y155 (wrap64 ((y155.length : Int) - 1))).f2) ++ [rd x1_2 0])⟩ : S62))) else (none)) else (none)) else (none)) else (none)) else (none)) = some (r1, r2) := by first | (rw [hy155]; with_reducible exact H) | (have H2_ := (Option.bind_some _ _).symm.trans H; rw [hy155]; with_reducible exact H2_) | (have H2_ := (Option.bind_some _ _).symm.trans H; with_reducible exact H2_) | with_reducible exact H | (rw [hy155]; exact H) | exact H
             have Ny155 := Aside0.mk hy155
             clear hy155
             obtain ⟨ji39, hji39⟩ : ∃ j_ : Int, (wrap64 ((y155.length : Int) - 1)) = j_ := ⟨_, rfl⟩
             replace H : (if 0 ≤ (ji39) then (if (ji39) < (y155.length : Int) then (if 0 < (x1_2.length : Int) then (if ((rd_T62 y155 (ji39)).f2).length < 140737488355328 then (if 1 ≤ (x1_2.length : Int) then (impl_PatchOf.l0 k2 l0 (x1_2.drop 1) (y155.set ((ji39) : Int).toNat (⟨(rd_T62 y155 (ji39)).f0, (rd_T62 y155 (ji39)).f1, (((rd_T62 y155 (ji39)).f2) ++ [rd x1_2 0])⟩ : S62))) else (none)) else (none)) else (none)) else (none)) else (none)) = some (r1, r2) := by first | (rw [hji39] at H; exact H) | (simp only [hji39] at H ⊢; exact H)
             (try rw [hji39] at A9)
             have hji39w : (IntKind.i64.wrap ((y155.length : Int) - 1)) = ji39 := (i64_w _).trans hji39
             by_cases c40 : 0 ≤ (ji39)
             ·rw [if_pos c40] at H
              have c40b0 : decide (0 ≤ (ji39)) = true := decide_eq_true c40
              clear c40
              by_cases c41 : (ji39) < (y155.length : Int)
              ·rw [if_pos c41] at H
               have c41b0 : decide ((ji39) < (y155.length : Int)) = true := decide_eq_true c41
               clear c41
               by_cases c42 : 0 < (x1_2.length : Int)
               ·rw [if_pos c42] at H
                have c42b0 : decide (0 < (x1_2.length : Int)) = true := decide_eq_true c42
                have c42b1 : decide (0 < x1_2.length) = true := decide_eq_true (by omega)
                clear c42
                by_cases c43 : ((rd_T62 y155 (ji39)).f2).length < 140737488355328
                ·rw [if_pos c43] at H
                 have LMc43 := Aside0.mk c43
                 clear c43
                 obtain ⟨y161, hy161⟩ : ∃ y_ : List Int, y_ = (((rd_T62 y155 (ji39)).f2) ++ [rd x1_2 0]) := ⟨_, rfl⟩
                 replace H : (if 1 ≤ (x1_2.length : Int) then (impl_PatchOf.l0 k2 l0 (x1_2.drop 1) (y155.set ((ji39) : Int).toNat (⟨(rd_T62 y155 (ji39)).f0, (rd_T62 y155 (ji39)).f1, y161⟩ : S62))) else (none)) = some (r1, r2) := by first | (rw [hy161]; with_reducible exact H) | (have H2_ := (Option.bind_some _ _).symm.trans H; rw [hy161]; with_reducible exact H2_) | (have H2_ := (Option.bind_some _ _).symm.trans H; with_reducible exact H2_) | with_reducible exact H | (rw [hy161]; exact H) | exact H
                 have Ny161 := Aside0.mk hy161
                 clear hy161
                 obtain ⟨y164, hy164⟩ : ∃ y_ : List (S62), y_ = (y155.set ((ji39) : Int).toNat (⟨(rd_T62 y155 (ji39)).f0, (rd_T62 y155 (ji39)).f1, y161⟩ : S62)) := ⟨_, rfl⟩
                 replace H : (if 1 ≤ (x1_2.length : Int) then (impl_PatchOf.l0 k2 l0 (x1_2.drop 1) y164) else (none)) = some (r1, r2) := by first | (rw [hy164]; with_reducible exact H) | (have H2_ := (Option.bind_some _ _).symm.trans H; rw [hy164]; with_reducible exact H2_) | (have H2_ := (Option.bind_some _ _).symm.trans H; with_reducible exact H2_) | with_reducible exact H | (rw [hy164]; exact H) | exact H
                 have Ny164 := Aside0.mk hy164
                 clear hy164
                 by_cases c44 : 1 ≤ (x1_2.length : Int)
                 ·rw [if_pos c44] at H
                  have c44b0 := eq_true c44
                  have c44b1 : decide (1 ≤ (x1_2.length : Int)) = true := decide_eq_true c44
                  clear c44
                  have H' := Aside0.mk H
                  clear H
                  try go_wp2_with (first | ((with_reducible refine gate_callee (f := 32) rfl ?_); refine goesL_ (some 25) rfl rfl Try.func32 (by kernel_rfl) rfl #[.slice A0 l0.length c0, .slice A_1 x1_2.length c_1] rfl aE ?_; (with_reducible refine (impl_longest.calls k2 _ _ l0 _ _ x1_2 t137 t138 _ ?side1 ?side2 ?side3 ?side4 A9.out).mono ?_); (case side1 => exact cU (Kd.C_below HR0.out HB.out)); (case side2 => exact HC0.out); (case side3 => exact cU (Kd.C_below HR_1.out HB.out)); (case side4 => exact HC_1.out); rintro e w' ⟨rfl, ⟨nd, rfl⟩⟩; refine ⟨_, rfl, ?_⟩; (try (rw [drewN_self wr]; generalize hq_ : World.drewN wr _ = wr; replace HO_6 : Aside0 (Kd.S k62 62 wr w.heap.size (fun _ => True) u6 x6_2) := ⟨by rw [← hq_]; exact (by (with_reducible repeat (first | apply Kd.S_alloc | apply Kd.S_drewN | apply Kd.S_drew)); exact HO_6.out)⟩; replace HB : Aside0 (Below w.heap.size w wr) := ⟨by rw [← hq_]; exact (lU)⟩; clear hq_)); obtain ⟨Ao45, co45, eo45⟩ := Kd.S_slice HO_6.out; subst eo45; have p154 : 0 ≤ ((ji34) : Int) := of_decide_eq_true hE; have q154 : (ji34) < (x6_2.length : Int) := of_decide_eq_true hE; obtain ⟨ad154, A154_2, c154_2, e154, hx154_0, hx154_1, hx154_2, hl154_2, hi154_2⟩ := at_T62 (Kd.S_reads' HO_6.out).2.2 (ji34) p154 q154; cases e154; obtain ⟨ce154, hce154, hMe154, hcc154⟩ := Kd.S_get HO_6.out z62 (ji34) p154 (by first | exact q154 | exact of_decide_eq_true hE | (have e_ := (Kd.S_reads' HO_6.out).1; omega)); obtain ⟨ve154_2, rfl, ge154_2⟩ := k62_openM hMe154; have hv154_2 := hcc154 2 _ rfl; rw [add_field _ _ 2 (by omega)] at hv154_2; replace hv154_2 := Option.some.inj (hv154_2.symm.trans hx154_2); rw [hv154_2] at ge154_2; have HL154_2 := Aside0.mk (show Kd.R (Kd.int .u8) 5 _ _ _ _ ((rd_T62 x6_2 (ji34)).f2) from ge154_2); clear hv154_2 ge154_2; have HX154_2 := Aside0.mk hx154_2; (try clear hcc154); (try clear hce154); have HR154_2 := Aside0.mk hi154_2; have HC154_2 := Aside0.mk hl154_2; clear hi154_2 hl154_2; replace p154 := eq_true p154; replace q154 := eq_true q154) | ((with_reducible refine gate_builtin (b := .append) (xs := #[.tmp 52, .tmp 54]) rfl ?_); (try (refine gate_guard (by rfl) ?_; dsimp only)); at_builtin; refine Kd.S_append k62 (w0 := w) w.heap.size rfl (.tmp 52) (.tmp 54) 23 62 (.agg #[(.int .i64 0), (.int .i64 0), (.slice none 0 0)]) 40 rfl Try.underlying23 info62 rfl (by decide) (by omega) (.slice (some ad154) x6_2.length co45) x6_2 (⟨0, 0, ([] : List Int)⟩ : S62) [.int .i64 0, .int .i64 0, .slice none 0 0] (fun _ => True) (fun _ => False) rfl rfl ?aP (fun k_ hk_ => hk_.elim) ?aF ?aO ?aB ?aS ?aL ?_; (case aP => exact k62_mkM _ _ _ (⟨0, 0, ([] : List Int)⟩ : S62) (Kd.R_nil _ _ _ _ _)); (case aB => exact (lU)); (case aF => exact (fun _ _ => trivial)); (case aO => exact (by (with_reducible repeat (first | apply Kd.S_alloc | apply Kd.S_drewN | apply Kd.S_drew)); exact Kd.S_mono HO_6.out (fun k_ hk => ⟨trivial, fun e_ => e_⟩))); (case aS => exact (below_size (lU))); (case aL => have := LMc38.out; omega); intro v156 w46 ho hb hg hat; rw [← Ny155.out] at ho; replace HL154_2 := Aside0.mk (Kd.R_after (ok := (fun _ => True)) (rU HL154_2.out) hg hat); replace HB := Aside0.mk hb; have HO157 := Aside0.mk ho; clear HO_6; clear ho hb hg hat; obtain ⟨Ao47, co47, eo47⟩ := Kd.S_slice HO157.out; subst eo47; have p158 : 0 ≤ ((ji39) : Int) := of_decide_eq_true hE; have q158 : (ji39) < (y155.length : Int) := of_decide_eq_true hE; obtain ⟨ad158, A158_2, c158_2, e158, hx158_0, hx158_1, hx158_2, hl158_2, hi158_2⟩ := at_T62 (Kd.S_reads' HO157.out).2.2 (ji39) p158 q158; cases e158; obtain ⟨ce158, hce158, hMe158, hcc158⟩ := Kd.S_get HO157.out z62 (ji39) p158 (by first | exact q158 | exact of_decide_eq_true hE | (have e_ := (Kd.S_reads' HO157.out).1; omega)); obtain ⟨ve158_2, rfl, ge158_2⟩ := k62_openM hMe158; have hv158_2 := hcc158 2 _ rfl; rw [add_field _ _ 2 (by omega)] at hv158_2; replace hv158_2 := Option.some.inj (hv158_2.symm.trans hx158_2); rw [hv158_2] at ge158_2; have HL158_2 := Aside0.mk (show Kd.R (Kd.int .u8) 5 _ _ _ _ ((rd_T62 y155 (ji39)).f2) from ge158_2); clear hv158_2 ge158_2; have HX158_2 := Aside0.mk hx158_2; (try clear hcc158); (try clear hce158); have HR158_2 := Aside0.mk hi158_2; have HC158_2 := Aside0.mk hl158_2; clear hi158_2 hl158_2; replace p158 := eq_true p158; replace q158 := eq_true q158))
                  replace HL154_2 := Aside0.mk (Kd.R_drew HL154_2.out)
                  replace HO157 := Aside0.mk (Kd.S_drew HO157.out)
                  replace HL158_2 := Aside0.mk (Kd.R_drew HL158_2.out)
                  replace HR158_2 := Aside0.mk (Kd.C_drew HR158_2.out)
                  replace HB := Aside0.mk (below_drew1 HB.out)
                  have p159 : 0 ≤ ((ji39) : Int) := of_decide_eq_true hE
                  have q159 : (ji39) < (y155.length : Int) := of_decide_eq_true hE
                  obtain ⟨ad159, A159_2, c159_2, e159, hx159_0, hx159_1, hx159_2, hl159_2, hi159_2⟩ := at_T62 (Kd.S_reads' HO157.out).2.2 (ji39) p159 q159
                  obtain rfl : ad158 = ad159 := (by injection e159)
                  obtain ⟨ce159, hce159, hMe159, hcc159⟩ := Kd.S_get HO157.out z62 (ji39) p159 (by first | exact q159 | exact of_decide_eq_true hE | (have e_ := (Kd.S_reads' HO157.out).1; omega))
                  obtain ⟨ve159_2, rfl, ge159_2⟩ := k62_openM hMe159
                  have hv159_2 := hcc159 2 _ rfl
                  rw [add_field _ _ 2 (by omega)] at hv159_2
                  replace hv159_2 := Option.some.inj (hv159_2.symm.trans hx159_2)
                  rw [hv159_2] at ge159_2
                  have HL159_2 := Aside0.mk (show Kd.R (Kd.int .u8) 5 _ _ _ _ ((rd_T62 y155 (ji39)).f2) from ge159_2)
                  clear hv159_2 ge159_2
                  have HX159_2 := Aside0.mk hx159_2
                  (try clear hcc159)
                  (try clear hce159)
                  have HR159_2 := Aside0.mk hi159_2
                  have HC159_2 := Aside0.mk hl159_2
                  clear hi159_2 hl159_2
                  replace p159 := eq_true p159
                  replace q159 := eq_true q159
                  have p160 : 0 ≤ (0 : Int) := (by omega)
                  have q160 : 0 < (x1_2.length : Int) := of_decide_eq_true hE
                  obtain ⟨ad160, e160, hx160_0⟩ := Kd.at_int HR_1.out 0 p160 q160
                  have hw160_0 := hx160_0
                  (try rw [show ((0 : Int)).toNat = 0 from rfl] at hw160_0)
                  (try rw [show 0 * 1 = 0 from rfl] at hw160_0)
                  (try rw [Addr.add_zero'] at hw160_0)
                  cases e160
                  have qi160 : (0 < x1_2.length) = True := eq_true (by omega)
                  (try rw [show ((0 : Int)).toNat = 0 from rfl] at hx160_0)
                  (try rw [Addr.add_zero'] at hx160_0)
                  replace hx160_0 := (HB.out.cell (World.block_lt_of_cell? w _ hx160_0)).trans hx160_0
                  replace p160 := eq_true p160
                  replace q160 := eq_true q160
                  obtain ⟨go49, co49, eo49, gb49, gl49, cl49, HG49⟩ := Kd.S_form HO157.out (by have h_ : ((ji39) : Int) < ((y155.length : Int) : Int) := of_decide_eq_true hE; have h2_ : 0 ≤ ((ji39) : Int) := (of_decide_eq_true hE); omega)
                  (first | cases eo49 | (injection eo49 with ea_ en_ ec_; (first | subst ea_ | (injection ea_ with ea_; subst ea_)); subst ec_; clear en_))
                  have GB49 := Aside0.mk gb49
                  have GG49 := Aside0.mk HG49
                  clear gb49 gl49 HG49
                  (first | simp only [add_plain] at hx158_0 | skip)
                  (first | simp only [add_plain] at hx158_1 | skip)
                  (first | simp only [add_plain] at hx158_2 | skip)
                  (first | simp only [add_plain] at hx159_0 | skip)
                  (first | simp only [add_plain] at hx159_1 | skip)
                  (first | simp only [add_plain] at hx159_2 | skip)
                  obtain ⟨oki49, ce49, hcl49, hM49, hcc49, _, _, hH49⟩ := Kd.S_elem HO157.out z62 ((ji39) : Int) (of_decide_eq_true hE) (by have h_ : ((ji39) : Int) < ((y155.length : Int) : Int) := of_decide_eq_true hE; first | exact h_ | (have e_ := (Kd.S_reads' HO157.out).1; omega) | simpa using h_)
                  obtain ⟨ve49_2, rfl, ge49_2⟩ := k62_openM hM49
                  have hv49 := hcc49 2 _ rfl
                  have hX49 := HX159_2.out
                  (try simp only [add_plain] at hX49)
                  (try simp only [Nat.add_zero] at hv49)
                  replace hv49 := Option.some.inj (hv49.symm.trans hX49)
                  subst hv49
                  (try clear hX49)
                  (try clear hcc49)
                  (try clear hcl49)
                  have UU49 := Aside0.mk (show Kd.R (Kd.int .u8) 5 _ w.heap.size oki49 (.slice A159_2 ((rd_T62 y155 (ji39)).f2).length c159_2) ((rd_T62 y155 (ji39)).f2) from ge49_2)
                  have HH49 := Aside0.mk hH49
                  have HN49 := Aside0.mk (Kd.S_reads' HO157.out).1
                  clear hH49 ge49_2
                  refine start_ (n := 13) (S := fun w' => w'.cell? ⟨go49, (((ji39)).toNat * 3), none⟩ = some (.int .i64 ((rd_T62 y155 (ji39)).f0)) ∧ w'.cell? ⟨go49, (((ji39)).toNat * 3) + 1, none⟩ = some (.int .i64 ((rd_T62 y155 (ji39)).f1)) ∧ w'.cell? ⟨go49, (((ji39)).toNat * 3) + 2, none⟩ = some (.slice A159_2 ((rd_T62 y155 (ji39)).f2).length c159_2) ∧ w'.cell? ad160 = some (.int .u8 (rd x1_2 0))) (ds := [12]) #[false, false, false, false, false, false, false, false, false, false, false, false, false] (by kernel_rfl) rfl rfl ⟨hx159_0, hx159_1, hx159_2, ((HB.out.cell (World.block_lt_of_cell? w _ hw160_0)).trans hw160_0)⟩ (fun hHeld => ?_); refine with_tabW impl_PatchOf.tab12 impl_PatchOf.bits12 (fun HT_ HW_ => ?_)
                  generalize w46.drew = w48 at HL154_2 HO157 HL158_2 HR158_2 HB GG49 HH49 HL159_2 HR159_2 HX159_2 UU49 hx158_0 hx158_1 hx158_2 hx159_0 hx159_1 hx159_2 hx160_0 hHeld ⊢
                  refine pureA 0 61 (bz 13 1) rfl rfl (any_of HT_.out (by kernel_rfl)) ?_
                  refine pureA 1 62 (bz 13 3) rfl rfl (any_of HT_.out (by kernel_rfl)) ?_
                  refine pureA 2 63 (bz 13 7) rfl rfl (any_of HT_.out (by kernel_rfl)) ?_
                  refine pureA 3 64 (bz 13 15) rfl rfl (any_of HT_.out (by kernel_rfl)) ?_
                  refine pureA 5 66 (bz 13 47) rfl rfl (any_of HT_.out (by kernel_rfl)) ?_
                  refine pureA 6 67 (bz 13 111) rfl rfl (any_of HT_.out (by kernel_rfl)) ?_
                  refine takeA 4 65 (bz 13 127) rfl rfl (take_ofW HT_.out HW_.out (by kernel_rfl)) hHeld (by rintro w' ⟨s0, s1, s2, s3⟩; go_simp; with_reducible rfl) ?_
                  refine takeA 7 68 (bz 13 255) rfl rfl (take_ofW HT_.out HW_.out (by kernel_rfl)) hHeld (by rintro w' ⟨s0, s1, s2, s3⟩; go_simp; with_reducible rfl) ?_
                  refine one_ (i := 8) (N := some 69) (bz 13 511) rfl rfl (one_of HT_.out (by kernel_rfl)) (by decide) (fun K hK => ?_)
                  refine value_ (w1 := ?_) (v := ?_) (by rfl) rfl ?_ ?_
                  rotate_left 2
                  ·go_simp
                   constructor
                   ·rfl
                   ·rfl
                  refine hK.out _ _ ⟨(World.cell?_alloc_lt _ _ _ (World.block_lt_of_cell? _ _ (hHeld.1))).trans (hHeld.1), (World.cell?_alloc_lt _ _ _ (World.block_lt_of_cell? _ _ (hHeld.2.1))).trans (hHeld.2.1), (World.cell?_alloc_lt _ _ _ (World.block_lt_of_cell? _ _ (hHeld.2.2.1))).trans (hHeld.2.2.1), (World.cell?_alloc_lt _ _ _ (World.block_lt_of_cell? _ _ (((HB.out.cell (World.block_lt_of_cell? w _ hw160_0)).trans hw160_0)))).trans (((HB.out.cell (World.block_lt_of_cell? w _ hw160_0)).trans hw160_0))⟩ (fun hHeld => ?_)
                  clear hK K
                  refine norm_ (a' := ?_) ?_ ?_
                  rotate_left
                  ·show Act.put _ (some 69) _ = _
                   simp only [Act.put, List.setIfInBounds_toArray, List.set_cons_zero, List.set_cons_succ, i64_w, i32_w]
                   rfl
                  refine one_ (i := 9) (N := some 70) (bz 13 1023) rfl rfl (one_of HT_.out (by kernel_rfl)) (by decide) (fun K hK => ?_)
                  refine Kd.R_append_step (Kd.int .u8) (w0 := w) w.heap.size (by rfl) (.tmp 65) (.tmp 69) 22 5 (.int .u8 0) 1 rfl Try.underlying22 info5 rfl (by decide) (by omega) (.slice A159_2 ((rd_T62 y155 (ji39)).f2).length c159_2) ((rd_T62 y155 (ji39)).f2) (rd x1_2 0) [.int .u8 (rd x1_2 0)] (fun k_ => oki49 k_ ∨ ((fun _ => True)) k_ ∧ w48.heap.size ≤ k_) (fun _ => False) rfl rfl ?aP (fun _ hk => hk.elim) ?aF ?aO ?aB ?aS ?aL ?_
                  (case aP => exact rfl)
                  (case aB => exact (lU))
                  (case aF => exact (fun k_ hk => .inr ⟨trivial, hk⟩))
                  (case aO => exact (by (with_reducible repeat (first | apply Kd.R_alloc | apply Kd.R_drewN | apply Kd.R_drew)); exact Kd.R_mono UU49.out (fun _ hk => .inl hk)))
                  (case aS => exact (below_size (lU)))
                  (case aL => have := LMc43.out; omega)
                  intro v162 w50 ho hb hg hat
                  (first | have HS0_ := cell_grown hg (hHeld.1) (by first | (rw [add_block]; exact (fun e_ => ((HL159_2.out.1 _ e_.symm).2) rfl)) | (show some (Addr.add _ _).block ≠ _; rw [add_block]; exact (fun e_ => ((HL159_2.out.1 _ e_.symm).2) rfl)) | exact (fun e_ => ((HL159_2.out.1 _ e_.symm).2) rfl)) | have HS0_ := cell_grown hg (cell_unalloc (hHeld.1) (by first | (rw [add_block]; exact Kd.S_lt HO157.out _ rfl) | (show (Addr.add _ _).block < _; rw [add_block]; exact Kd.S_lt HO157.out _ rfl) | exact Kd.S_lt HO157.out _ rfl)) (by first | (rw [add_block]; exact (fun e_ => ((HL159_2.out.1 _ e_.symm).2) rfl)) | (show some (Addr.add _ _).block ≠ _; rw [add_block]; exact (fun e_ => ((HL159_2.out.1 _ e_.symm).2) rfl)) | exact (fun e_ => ((HL159_2.out.1 _ e_.symm).2) rfl)))
                  (first | have HS1_ := cell_grown hg (hHeld.2.1) (by first | (rw [add_block]; exact (fun e_ => ((HL159_2.out.1 _ e_.symm).2) rfl)) | (show some (Addr.add _ _).block ≠ _; rw [add_block]; exact (fun e_ => ((HL159_2.out.1 _ e_.symm).2) rfl)) | exact (fun e_ => ((HL159_2.out.1 _ e_.symm).2) rfl)) | have HS1_ := cell_grown hg (cell_unalloc (hHeld.2.1) (by first | (rw [add_block]; exact Kd.S_lt HO157.out _ rfl) | (show (Addr.add _ _).block < _; rw [add_block]; exact Kd.S_lt HO157.out _ rfl) | exact Kd.S_lt HO157.out _ rfl)) (by first | (rw [add_block]; exact (fun e_ => ((HL159_2.out.1 _ e_.symm).2) rfl)) | (show some (Addr.add _ _).block ≠ _; rw [add_block]; exact (fun e_ => ((HL159_2.out.1 _ e_.symm).2) rfl)) | exact (fun e_ => ((HL159_2.out.1 _ e_.symm).2) rfl)))
                  (first | have HS2_ := cell_grown hg (hHeld.2.2.1) (by first | (rw [add_block]; exact (fun e_ => ((HL159_2.out.1 _ e_.symm).2) rfl)) | (show some (Addr.add _ _).block ≠ _; rw [add_block]; exact (fun e_ => ((HL159_2.out.1 _ e_.symm).2) rfl)) | exact (fun e_ => ((HL159_2.out.1 _ e_.symm).2) rfl)) | have HS2_ := cell_grown hg (cell_unalloc (hHeld.2.2.1) (by first | (rw [add_block]; exact Kd.S_lt HO157.out _ rfl) | (show (Addr.add _ _).block < _; rw [add_block]; exact Kd.S_lt HO157.out _ rfl) | exact Kd.S_lt HO157.out _ rfl)) (by first | (rw [add_block]; exact (fun e_ => ((HL159_2.out.1 _ e_.symm).2) rfl)) | (show some (Addr.add _ _).block ≠ _; rw [add_block]; exact (fun e_ => ((HL159_2.out.1 _ e_.symm).2) rfl)) | exact (fun e_ => ((HL159_2.out.1 _ e_.symm).2) rfl)))
                  rw [← Ny161.out] at ho
                  replace HB := Aside0.mk hb
                  replace HH49 := Aside0.mk (Kd.H_grown (Kd.H_widen (by repeat (first | exact HH49.out | refine Kd.H_alloc ?_ _ | refine Kd.H_drewN ?_ _ | refine Kd.H_drew ?_))) hg (fun k_ e_ => .inl (UU49.out.1 k_ e_)))
                  have HO163 := Aside0.mk ho
                  clear HO157 UU49 HL154_2 HL158_2 HL159_2
                  clear ho hb hg hat
                  obtain ⟨Ao53, co53, eo53⟩ := Kd.R_slice HO163.out
                  (first | subst eo53 | (injection eo53 with f1_ f2_ f3_; have f4_ := f1_.symm; have f5_ := f3_.symm; clear f1_ f2_ f3_; subst f4_; subst f5_))
                  obtain ⟨_, _, hraw51, _, _, hcc51, _⟩ := Kd.H_raw HH49.out (of_decide_eq_true hE) (by have h_ : ((ji39) : Int) < ((y155.length : Int) : Int) := of_decide_eq_true hE; first | exact h_ | (have e_ := (HN49.out); omega) | simpa using h_)
                  obtain ⟨_, hfr51⟩ := Kd.H_at HH49.out (of_decide_eq_true hE) (by have h_ : ((ji39) : Int) < ((y155.length : Int) : Int) := of_decide_eq_true hE; first | exact h_ | (have e_ := (HN49.out); omega) | simpa using h_)
                  have hx51_0 := hcc51 2 _ rfl
                  have hf51_0 := hfr51 2
                  (try rw [show (k62).sz = 3 from rfl] at hx51_0)
                  (try rw [show (k62).sz = 3 from rfl] at hf51_0)
                  have HP51 := Kd.S_seg0 HH49.out (of_decide_eq_true hE) (by have h_ : ((ji39) : Int) < ((y155.length : Int) : Int) := of_decide_eq_true hE; first | exact h_ | (have e_ := (HN49.out); omega) | simpa using h_) (seg := [.slice Ao53 y161.length co53]) (j := 2) (show 3 ≤ 3 from by decide) (x' := (⟨(rd_T62 y155 (ji39)).f0, (rd_T62 y155 (ji39)).f1, y161⟩ : S62)) (k62_mkM _ _ _ (⟨(rd_T62 y155 (ji39)).f0, (rd_T62 y155 (ji39)).f1, y161⟩ : S62) HO163.out) (fun _ hk => hk)
                  (try clear hcc51)
                  (try clear hfr51)
                  have HS51 := HP51.1
                  rw [← Ny164.out] at HS51
                  have HQ51 := Aside0.mk HS51
                  obtain ⟨_, hgg51⟩ := Kd.R_typed hraw51 go49 rfl
                  have GG51_ := Aside0.mk hgg51
                  clear HP51 HS51 hgg51
                  refine hK.out _ _ ⟨HS0_, HS1_, HS2_, ((HB.out.cell (World.block_lt_of_cell? w _ hw160_0)).trans hw160_0)⟩ (fun hHeld => ?_)
                  clear hK K
                  refine norm_ (a' := ?_) ?_ ?_
                  rotate_left
                  ·show Act.put _ (some 70) _ = _
                   simp only [Act.put, List.setIfInBounds_toArray, List.set_cons_zero, List.set_cons_succ, i64_w, i32_w]
                   rfl
                  refine pureA 10 71 (bz 13 2047) rfl rfl (any_of HT_.out (by kernel_rfl)) ?_
                  refine pureA 11 72 (bz 13 4095) rfl rfl (any_of HT_.out (by kernel_rfl)) ?_
                  refine last_ (i := 12) (N := none) (bz 13 8191) rfl rfl (one_of HT_.out (by kernel_rfl)) (by decide) (fun K hK => ?_)
                  refine skip_ (w1 := ?_) (by rfl) rfl ?_ ?_
                  rotate_left
                  ·go_simp
                   rfl
                  refine hK.out _ _ ?_
                  clear hK K
                  refine done_ (done_of HT_.out (by kernel_rfl)) ?_
                  obtain ⟨i054, hi054, _, hsz54, _⟩ := info_parts info5
                  obtain ⟨A54, hcut54, hA54, hC54⟩ := print_drop_of (P := Try.prog) (Value.int .u8) 0 22 5 .i64 Try.underlying22 hi054 hsz54 (some ad160) c_1 x1_2 1 (by omega) (of_decide_eq_true hE) HC_1.out
                  have HR165 := Aside0.mk (Kd.C_of_reads (h1 := fun _ => rfl) (hA54 _ (Kd.reads_of_C HR_1.out)))
                  have HC165 := Aside0.mk hC54
                  (try clear hA54)
                  (try clear hC54)
                  (try clear hi054)
                  (try clear hsz54)
                  try go_wp2
                  go_roundg k2
                  case measure => have := HJ2.out; have := HK2.out; omega
                  case rel => exact ⟨(x1_2.drop 1), (y164), _, _, (by first | rfl | (rw [List.length_drop]; done) | (rw [List.length_drop]; rfl) | (simp only [List.length_drop]; rfl)), H', ⟨by have := HJ2.out; have := HK2.out; omega⟩, ⟨HR165.out⟩, ⟨HC165.out⟩, ⟨by (with_reducible repeat (first | apply Kd.S_alloc | apply Kd.S_drewN | apply Kd.S_drew)); exact HQ51.out⟩, ⟨by repeat (first | (with_reducible first | exact HB.out | apply below_alloc | apply pw_below_drewN | apply below_drew1 | refine below_set ?_ GB49.out) | exact HB.out)⟩⟩
                 ·rw [if_neg c44] at H
                  exact absurd H (by simp)
                ·rw [if_neg c43] at H
                 exact absurd H (by simp)
               ·rw [if_neg c42] at H
                exact absurd H (by simp)
              ·rw [if_neg c41] at H
               exact absurd H (by simp)
             ·rw [if_neg c40] at H
              exact absurd H (by simp)
            ·rw [if_neg c38] at H
             exact absurd H (by simp)
           ·rw [if_neg c37] at H
            have c37b0 : decide (0 < ((rd_T62 x6_2 (ji34)).f1)) = false := decide_eq_false c37
            clear c37
            by_cases c55 : 0 < (x1_2.length : Int)
            ·rw [if_pos c55] at H
             have c55b0 : decide (0 < (x1_2.length : Int)) = true := decide_eq_true c55
             have c55b1 : decide (0 < x1_2.length) = true := decide_eq_true (by omega)
             clear c55
             by_cases c56 : ((rd_T62 x6_2 (ji34)).f2).length < 140737488355328
             ·rw [if_pos c56] at H
              have LMc56 := Aside0.mk c56
              clear c56
              obtain ⟨y169, hy169⟩ : ∃ y_ : List Int, y_ = (((rd_T62 x6_2 (ji34)).f2) ++ [rd x1_2 0]) := ⟨_, rfl⟩
              replace H : (if 1 ≤ (x1_2.length : Int) then (impl_PatchOf.l0 k2 l0 (x1_2.drop 1) (x6_2.set ((ji34) : Int).toNat (⟨(rd_T62 x6_2 (ji34)).f0, (rd_T62 x6_2 (ji34)).f1, y169⟩ : S62))) else (none)) = some (r1, r2) := by first | (rw [hy169]; with_reducible exact H) | (have H2_ := (Option.bind_some _ _).symm.trans H; rw [hy169]; with_reducible exact H2_) | (have H2_ := (Option.bind_some _ _).symm.trans H; with_reducible exact H2_) | with_reducible exact H | (rw [hy169]; exact H) | exact H
              have Ny169 := Aside0.mk hy169
              clear hy169
              obtain ⟨y172, hy172⟩ : ∃ y_ : List (S62), y_ = (x6_2.set ((ji34) : Int).toNat (⟨(rd_T62 x6_2 (ji34)).f0, (rd_T62 x6_2 (ji34)).f1, y169⟩ : S62)) := ⟨_, rfl⟩
              replace H : (if 1 ≤ (x1_2.length : Int) then (impl_PatchOf.l0 k2 l0 (x1_2.drop 1) y172) else (none)) = some (r1, r2) := by first | (rw [hy172]; with_reducible exact H) | (have H2_ := (Option.bind_some _ _).symm.trans H; rw [hy172]; with_reducible exact H2_) | (have H2_ := (Option.bind_some _ _).symm.trans H; with_reducible exact H2_) | with_reducible exact H | (rw [hy172]; exact H) | exact H
              have Ny172 := Aside0.mk hy172
              clear hy172
              by_cases c57 : 1 ≤ (x1_2.length : Int)
              ·rw [if_pos c57] at H
               have c57b0 := eq_true c57
               have c57b1 : decide (1 ≤ (x1_2.length : Int)) = true := decide_eq_true c57
               clear c57
               have H' := Aside0.mk H
               clear H
               try go_wp2_with (first | ((with_reducible refine gate_callee (f := 32) rfl ?_); refine goesL_ (some 25) rfl rfl Try.func32 (by kernel_rfl) rfl #[.slice A0 l0.length c0, .slice A_1 x1_2.length c_1] rfl aE ?_; (with_reducible refine (impl_longest.calls k2 _ _ l0 _ _ x1_2 t137 t138 _ ?side1 ?side2 ?side3 ?side4 A9.out).mono ?_); (case side1 => exact cU (Kd.C_below HR0.out HB.out)); (case side2 => exact HC0.out); (case side3 => exact cU (Kd.C_below HR_1.out HB.out)); (case side4 => exact HC_1.out); rintro e w' ⟨rfl, ⟨nd, rfl⟩⟩; refine ⟨_, rfl, ?_⟩; (try (rw [drewN_self wr]; generalize hq_ : World.drewN wr _ = wr; replace HO_6 : Aside0 (Kd.S k62 62 wr w.heap.size (fun _ => True) u6 x6_2) := ⟨by rw [← hq_]; exact (by (with_reducible repeat (first | apply Kd.S_alloc | apply Kd.S_drewN | apply Kd.S_drew)); exact HO_6.out)⟩; replace HB : Aside0 (Below w.heap.size w wr) := ⟨by rw [← hq_]; exact (lU)⟩; clear hq_)); obtain ⟨Ao58, co58, eo58⟩ := Kd.S_slice HO_6.out; subst eo58; have p154 : 0 ≤ ((ji34) : Int) := of_decide_eq_true hE; have q154 : (ji34) < (x6_2.length : Int) := of_decide_eq_true hE; obtain ⟨ad154, A154_2, c154_2, e154, hx154_0, hx154_1, hx154_2, hl154_2, hi154_2⟩ := at_T62 (Kd.S_reads' HO_6.out).2.2 (ji34) p154 q154; cases e154; obtain ⟨ce154, hce154, hMe154, hcc154⟩ := Kd.S_get HO_6.out z62 (ji34) p154 (by first | exact q154 | exact of_decide_eq_true hE | (have e_ := (Kd.S_reads' HO_6.out).1; omega)); obtain ⟨ve154_2, rfl, ge154_2⟩ := k62_openM hMe154; have hv154_2 := hcc154 2 _ rfl; rw [add_field _ _ 2 (by omega)] at hv154_2; replace hv154_2 := Option.some.inj (hv154_2.symm.trans hx154_2); rw [hv154_2] at ge154_2; have HL154_2 := Aside0.mk (show Kd.R (Kd.int .u8) 5 _ _ _ _ ((rd_T62 x6_2 (ji34)).f2) from ge154_2); clear hv154_2 ge154_2; have HX154_2 := Aside0.mk hx154_2; (try clear hcc154); (try clear hce154); have HR154_2 := Aside0.mk hi154_2; have HC154_2 := Aside0.mk hl154_2; clear hi154_2 hl154_2; replace p154 := eq_true p154; replace q154 := eq_true q154; have p166 : 0 ≤ ((ji34) : Int) := of_decide_eq_true hE; have q166 : (ji34) < (x6_2.length : Int) := of_decide_eq_true hE; obtain ⟨ad166, A166_2, c166_2, e166, hx166_0, hx166_1, hx166_2, hl166_2, hi166_2⟩ := at_T62 (Kd.S_reads' HO_6.out).2.2 (ji34) p166 q166; obtain rfl : ad154 = ad166 := (by injection e166); obtain ⟨ce166, hce166, hMe166, hcc166⟩ := Kd.S_get HO_6.out z62 (ji34) p166 (by first | exact q166 | exact of_decide_eq_true hE | (have e_ := (Kd.S_reads' HO_6.out).1; omega)); obtain ⟨ve166_2, rfl, ge166_2⟩ := k62_openM hMe166; have hv166_2 := hcc166 2 _ rfl; rw [add_field _ _ 2 (by omega)] at hv166_2; replace hv166_2 := Option.some.inj (hv166_2.symm.trans hx166_2); rw [hv166_2] at ge166_2; have HL166_2 := Aside0.mk (show Kd.R (Kd.int .u8) 5 _ _ _ _ ((rd_T62 x6_2 (ji34)).f2) from ge166_2); clear hv166_2 ge166_2; have HX166_2 := Aside0.mk hx166_2; (try clear hcc166); (try clear hce166); have HR166_2 := Aside0.mk hi166_2; have HC166_2 := Aside0.mk hl166_2; clear hi166_2 hl166_2; replace p166 := eq_true p166; replace q166 := eq_true q166; have ea_ := Option.some.inj (hx154_2.symm.trans hx166_2); injection ea_ with ea_ en_ ec_; subst ea_; subst ec_; clear en_))
               replace HO_6 := Aside0.mk (Kd.S_drew HO_6.out)
               replace HL154_2 := Aside0.mk (Kd.R_drew HL154_2.out)
               replace HL166_2 := Aside0.mk (Kd.R_drew HL166_2.out)
               replace HR154_2 := Aside0.mk (Kd.C_drew HR154_2.out)
               replace HR166_2 := Aside0.mk (Kd.C_drew HR166_2.out)
               replace HB := Aside0.mk (below_drew1 HB.out)
               have p167 : 0 ≤ ((ji34) : Int) := of_decide_eq_true hE
               have q167 : (ji34) < (x6_2.length : Int) := of_decide_eq_true hE
               obtain ⟨ad167, A167_2, c167_2, e167, hx167_0, hx167_1, hx167_2, hl167_2, hi167_2⟩ := at_T62 (Kd.S_reads' HO_6.out).2.2 (ji34) p167 q167
               obtain rfl : ad154 = ad167 := (by injection e167)
               obtain ⟨ce167, hce167, hMe167, hcc167⟩ := Kd.S_get HO_6.out z62 (ji34) p167 (by first | exact q167 | exact of_decide_eq_true hE | (have e_ := (Kd.S_reads' HO_6.out).1; omega))
               obtain ⟨ve167_2, rfl, ge167_2⟩ := k62_openM hMe167
               have hv167_2 := hcc167 2 _ rfl
               rw [add_field _ _ 2 (by omega)] at hv167_2
               replace hv167_2 := Option.some.inj (hv167_2.symm.trans hx167_2)
               rw [hv167_2] at ge167_2
               have HL167_2 := Aside0.mk (show Kd.R (Kd.int .u8) 5 _ _ _ _ ((rd_T62 x6_2 (ji34)).f2) from ge167_2)
               clear hv167_2 ge167_2
               have HX167_2 := Aside0.mk hx167_2
               (try clear hcc167)
               (try clear hce167)
               have HR167_2 := Aside0.mk hi167_2
               have HC167_2 := Aside0.mk hl167_2
               clear hi167_2 hl167_2
               replace p167 := eq_true p167
               replace q167 := eq_true q167
               have p168 : 0 ≤ (0 : Int) := (by omega)
               have q168 : 0 < (x1_2.length : Int) := of_decide_eq_true hE
               obtain ⟨ad168, e168, hx168_0⟩ := Kd.at_int HR_1.out 0 p168 q168
               have hw168_0 := hx168_0
               (try rw [show ((0 : Int)).toNat = 0 from rfl] at hw168_0)
               (try rw [show 0 * 1 = 0 from rfl] at hw168_0)
               (try rw [Addr.add_zero'] at hw168_0)
               cases e168
               have qi168 : (0 < x1_2.length) = True := eq_true (by omega)
               (try rw [show ((0 : Int)).toNat = 0 from rfl] at hx168_0)
               (try rw [Addr.add_zero'] at hx168_0)
               replace hx168_0 := (HB.out.cell (World.block_lt_of_cell? w _ hx168_0)).trans hx168_0
               replace p168 := eq_true p168
               replace q168 := eq_true q168
               obtain ⟨go60, co60, eo60, gb60, gl60, cl60, HG60⟩ := Kd.S_form HO_6.out (by have h_ : ((ji34) : Int) < ((x6_2.length : Int) : Int) := of_decide_eq_true hE; have h2_ : 0 ≤ ((ji34) : Int) := (of_decide_eq_true hE); omega)
               (first | cases eo60 | (injection eo60 with ea_ en_ ec_; (first | subst ea_ | (injection ea_ with ea_; subst ea_)); subst ec_; clear en_))
               have GB60 := Aside0.mk gb60
               have GG60 := Aside0.mk HG60
               clear gb60 gl60 HG60
               (first | simp only [add_plain] at hx154_0 | skip)
               (first | simp only [add_plain] at hx154_1 | skip)
               (first | simp only [add_plain] at hx154_2 | skip)
               (first | simp only [add_plain] at hx166_0 | skip)
               (first | simp only [add_plain] at hx166_1 | skip)
               (first | simp only [add_plain] at hx166_2 | skip)
               (first | simp only [add_plain] at hx167_0 | skip)
               (first | simp only [add_plain] at hx167_1 | skip)
               (first | simp only [add_plain] at hx167_2 | skip)
               obtain ⟨oki60, ce60, hcl60, hM60, hcc60, _, _, hH60⟩ := Kd.S_elem HO_6.out z62 ((ji34) : Int) (of_decide_eq_true hE) (by have h_ : ((ji34) : Int) < ((x6_2.length : Int) : Int) := of_decide_eq_true hE; first | exact h_ | (have e_ := (Kd.S_reads' HO_6.out).1; omega) | simpa using h_)
               obtain ⟨ve60_2, rfl, ge60_2⟩ := k62_openM hM60
               have hv60 := hcc60 2 _ rfl
               have hX60 := HX167_2.out
               (try simp only [add_plain] at hX60)
               (try simp only [Nat.add_zero] at hv60)
               replace hv60 := Option.some.inj (hv60.symm.trans hX60)
               subst hv60
               (try clear hX60)
               (try clear hcc60)
               (try clear hcl60)
               have UU60 := Aside0.mk (show Kd.R (Kd.int .u8) 5 _ w.heap.size oki60 (.slice A167_2 ((rd_T62 x6_2 (ji34)).f2).length c167_2) ((rd_T62 x6_2 (ji34)).f2) from ge60_2)
               have HH60 := Aside0.mk hH60
               have HN60 := Aside0.mk (Kd.S_reads' HO_6.out).1
               clear hH60 ge60_2
               refine start_ (n := 13) (S := fun w' => w'.cell? ⟨go60, (((ji34)).toNat * 3), none⟩ = some (.int .i64 ((rd_T62 x6_2 (ji34)).f0)) ∧ w'.cell? ⟨go60, (((ji34)).toNat * 3) + 1, none⟩ = some (.int .i64 ((rd_T62 x6_2 (ji34)).f1)) ∧ w'.cell? ⟨go60, (((ji34)).toNat * 3) + 2, none⟩ = some (.slice A167_2 ((rd_T62 x6_2 (ji34)).f2).length c167_2) ∧ w'.cell? ad168 = some (.int .u8 (rd x1_2 0))) (ds := [12]) #[false, false, false, false, false, false, false, false, false, false, false, false, false] (by kernel_rfl) rfl rfl ⟨hx167_0, hx167_1, hx167_2, ((HB.out.cell (World.block_lt_of_cell? w _ hw168_0)).trans hw168_0)⟩ (fun hHeld => ?_); refine with_tabW impl_PatchOf.tab12 impl_PatchOf.bits12 (fun HT_ HW_ => ?_)
               generalize wr.drew = w59 at HO_6 HL154_2 HL166_2 HR154_2 HR166_2 HB GG60 HH60 HL167_2 HR167_2 HX167_2 UU60 hx154_0 hx154_1 hx154_2 hx166_0 hx166_1 hx166_2 hx167_0 hx167_1 hx167_2 hx168_0 hHeld ⊢
               refine pureA 0 61 (bz 13 1) rfl rfl (any_of HT_.out (by kernel_rfl)) ?_
               refine pureA 1 62 (bz 13 3) rfl rfl (any_of HT_.out (by kernel_rfl)) ?_
               refine pureA 2 63 (bz 13 7) rfl rfl (any_of HT_.out (by kernel_rfl)) ?_
               refine pureA 3 64 (bz 13 15) rfl rfl (any_of HT_.out (by kernel_rfl)) ?_
               refine pureA 5 66 (bz 13 47) rfl rfl (any_of HT_.out (by kernel_rfl)) ?_
               refine pureA 6 67 (bz 13 111) rfl rfl (any_of HT_.out (by kernel_rfl)) ?_
               refine takeA 4 65 (bz 13 127) rfl rfl (take_ofW HT_.out HW_.out (by kernel_rfl)) hHeld (by rintro w' ⟨s0, s1, s2, s3⟩; go_simp; with_reducible rfl) ?_
               refine takeA 7 68 (bz 13 255) rfl rfl (take_ofW HT_.out HW_.out (by kernel_rfl)) hHeld (by rintro w' ⟨s0, s1, s2, s3⟩; go_simp; with_reducible rfl) ?_
               refine one_ (i := 8) (N := some 69) (bz 13 511) rfl rfl (one_of HT_.out (by kernel_rfl)) (by decide) (fun K hK => ?_)
               refine value_ (w1 := ?_) (v := ?_) (by rfl) rfl ?_ ?_
               rotate_left 2
               ·go_simp
                constructor
                ·rfl
                ·rfl
               refine hK.out _ _ ⟨(World.cell?_alloc_lt _ _ _ (World.block_lt_of_cell? _ _ (hHeld.1))).trans (hHeld.1), (World.cell?_alloc_lt _ _ _ (World.block_lt_of_cell? _ _ (hHeld.2.1))).trans (hHeld.2.1), (World.cell?_alloc_lt _ _ _ (World.block_lt_of_cell? _ _ (hHeld.2.2.1))).trans (hHeld.2.2.1), (World.cell?_alloc_lt _ _ _ (World.block_lt_of_cell? _ _ (((HB.out.cell (World.block_lt_of_cell? w _ hw168_0)).trans hw168_0)))).trans (((HB.out.cell (World.block_lt_of_cell? w _ hw168_0)).trans hw168_0))⟩ (fun hHeld => ?_)
               clear hK K
               refine norm_ (a' := ?_) ?_ ?_
               rotate_left
               ·show Act.put _ (some 69) _ = _
                simp only [Act.put, List.setIfInBounds_toArray, List.set_cons_zero, List.set_cons_succ, i64_w, i32_w]
                rfl
               refine one_ (i := 9) (N := some 70) (bz 13 1023) rfl rfl (one_of HT_.out (by kernel_rfl)) (by decide) (fun K hK => ?_)
               refine Kd.R_append_step (Kd.int .u8) (w0 := w) w.heap.size (by rfl) (.tmp 65) (.tmp 69) 22 5 (.int .u8 0) 1 rfl Try.underlying22 info5 rfl (by decide) (by omega) (.slice A167_2 ((rd_T62 x6_2 (ji34)).f2).length c167_2) ((rd_T62 x6_2 (ji34)).f2) (rd x1_2 0) [.int .u8 (rd x1_2 0)] (fun k_ => oki60 k_ ∨ ((fun _ => True)) k_ ∧ w59.heap.size ≤ k_) (fun _ => False) rfl rfl ?aP (fun _ hk => hk.elim) ?aF ?aO ?aB ?aS ?aL ?_
               (case aP => exact rfl)
               (case aB => exact (lU))
               (case aF => exact (fun k_ hk => .inr ⟨trivial, hk⟩))
               (case aO => exact (by (with_reducible repeat (first | apply Kd.R_alloc | apply Kd.R_drewN | apply Kd.R_drew)); exact Kd.R_mono UU60.out (fun _ hk => .inl hk)))
               (case aS => exact (below_size (lU)))
               (case aL => have := LMc56.out; omega)
               intro v170 w61 ho hb hg hat
               (first | have HS0_ := cell_grown hg (hHeld.1) (by first | (rw [add_block]; exact (fun e_ => ((HL167_2.out.1 _ e_.symm).2) rfl)) | (show some (Addr.add _ _).block ≠ _; rw [add_block]; exact (fun e_ => ((HL167_2.out.1 _ e_.symm).2) rfl)) | exact (fun e_ => ((HL167_2.out.1 _ e_.symm).2) rfl)) | have HS0_ := cell_grown hg (cell_unalloc (hHeld.1) (by first | (rw [add_block]; exact Kd.S_lt HO_6.out _ rfl) | (show (Addr.add _ _).block < _; rw [add_block]; exact Kd.S_lt HO_6.out _ rfl) | exact Kd.S_lt HO_6.out _ rfl)) (by first | (rw [add_block]; exact (fun e_ => ((HL167_2.out.1 _ e_.symm).2) rfl)) | (show some (Addr.add _ _).block ≠ _; rw [add_block]; exact (fun e_ => ((HL167_2.out.1 _ e_.symm).2) rfl)) | exact (fun e_ => ((HL167_2.out.1 _ e_.symm).2) rfl)))
               (first | have HS1_ := cell_grown hg (hHeld.2.1) (by first | (rw [add_block]; exact (fun e_ => ((HL167_2.out.1 _ e_.symm).2) rfl)) | (show some (Addr.add _ _).block ≠ _; rw [add_block]; exact (fun e_ => ((HL167_2.out.1 _ e_.symm).2) rfl)) | exact (fun e_ => ((HL167_2.out.1 _ e_.symm).2) rfl)) | have HS1_ := cell_grown hg (cell_unalloc (hHeld.2.1) (by first | (rw [add_block]; exact Kd.S_lt HO_6.out _ rfl) | (show (Addr.add _ _).block < _; rw [add_block]; exact Kd.S_lt HO_6.out _ rfl) | exact Kd.S_lt HO_6.out _ rfl)) (by first | (rw [add_block]; exact (fun e_ => ((HL167_2.out.1 _ e_.symm).2) rfl)) | (show some (Addr.add _ _).block ≠ _; rw [add_block]; exact (fun e_ => ((HL167_2.out.1 _ e_.symm).2) rfl)) | exact (fun e_ => ((HL167_2.out.1 _ e_.symm).2) rfl)))
               (first | have HS2_ := cell_grown hg (hHeld.2.2.1) (by first | (rw [add_block]; exact (fun e_ => ((HL167_2.out.1 _ e_.symm).2) rfl)) | (show some (Addr.add _ _).block ≠ _; rw [add_block]; exact (fun e_ => ((HL167_2.out.1 _ e_.symm).2) rfl)) | exact (fun e_ => ((HL167_2.out.1 _ e_.symm).2) rfl)) | have HS2_ := cell_grown hg (cell_unalloc (hHeld.2.2.1) (by first | (rw [add_block]; exact Kd.S_lt HO_6.out _ rfl) | (show (Addr.add _ _).block < _; rw [add_block]; exact Kd.S_lt HO_6.out _ rfl) | exact Kd.S_lt HO_6.out _ rfl)) (by first | (rw [add_block]; exact (fun e_ => ((HL167_2.out.1 _ e_.symm).2) rfl)) | (show some (Addr.add _ _).block ≠ _; rw [add_block]; exact (fun e_ => ((HL167_2.out.1 _ e_.symm).2) rfl)) | exact (fun e_ => ((HL167_2.out.1 _ e_.symm).2) rfl)))
               rw [← Ny169.out] at ho
               replace HB := Aside0.mk hb
               replace HH60 := Aside0.mk (Kd.H_grown (Kd.H_widen (by repeat (first | exact HH60.out | refine Kd.H_alloc ?_ _ | refine Kd.H_drewN ?_ _ | refine Kd.H_drew ?_))) hg (fun k_ e_ => .inl (UU60.out.1 k_ e_)))
               have HO171 := Aside0.mk ho
               clear HO_6 UU60 HL154_2 HL166_2 HL167_2
               clear ho hb hg hat
               obtain ⟨Ao64, co64, eo64⟩ := Kd.R_slice HO171.out
               (first | subst eo64 | (injection eo64 with f1_ f2_ f3_; have f4_ := f1_.symm; have f5_ := f3_.symm; clear f1_ f2_ f3_; subst f4_; subst f5_))
               obtain ⟨_, _, hraw62, _, _, hcc62, _⟩ := Kd.H_raw HH60.out (of_decide_eq_true hE) (by have h_ : ((ji34) : Int) < ((x6_2.length : Int) : Int) := of_decide_eq_true hE; first | exact h_ | (have e_ := (HN60.out); omega) | simpa using h_)
               obtain ⟨_, hfr62⟩ := Kd.H_at HH60.out (of_decide_eq_true hE) (by have h_ : ((ji34) : Int) < ((x6_2.length : Int) : Int) := of_decide_eq_true hE; first | exact h_ | (have e_ := (HN60.out); omega) | simpa using h_)
               have hx62_0 := hcc62 2 _ rfl
               have hf62_0 := hfr62 2
               (try rw [show (k62).sz = 3 from rfl] at hx62_0)
               (try rw [show (k62).sz = 3 from rfl] at hf62_0)
               have HP62 := Kd.S_seg0 HH60.out (of_decide_eq_true hE) (by have h_ : ((ji34) : Int) < ((x6_2.length : Int) : Int) := of_decide_eq_true hE; first | exact h_ | (have e_ := (HN60.out); omega) | simpa using h_) (seg := [.slice Ao64 y169.length co64]) (j := 2) (show 3 ≤ 3 from by decide) (x' := (⟨(rd_T62 x6_2 (ji34)).f0, (rd_T62 x6_2 (ji34)).f1, y169⟩ : S62)) (k62_mkM _ _ _ (⟨(rd_T62 x6_2 (ji34)).f0, (rd_T62 x6_2 (ji34)).f1, y169⟩ : S62) HO171.out) (fun _ hk => hk)
               (try clear hcc62)
               (try clear hfr62)
               have HS62 := HP62.1
               rw [← Ny172.out] at HS62
               have HQ62 := Aside0.mk HS62
               obtain ⟨_, hgg62⟩ := Kd.R_typed hraw62 go60 rfl
               have GG62_ := Aside0.mk hgg62
               clear HP62 HS62 hgg62
               refine hK.out _ _ ⟨HS0_, HS1_, HS2_, ((HB.out.cell (World.block_lt_of_cell? w _ hw168_0)).trans hw168_0)⟩ (fun hHeld => ?_)
               clear hK K
               refine norm_ (a' := ?_) ?_ ?_
               rotate_left
               ·show Act.put _ (some 70) _ = _
                simp only [Act.put, List.setIfInBounds_toArray, List.set_cons_zero, List.set_cons_succ, i64_w, i32_w]
                rfl
               refine pureA 10 71 (bz 13 2047) rfl rfl (any_of HT_.out (by kernel_rfl)) ?_
               refine pureA 11 72 (bz 13 4095) rfl rfl (any_of HT_.out (by kernel_rfl)) ?_
               refine last_ (i := 12) (N := none) (bz 13 8191) rfl rfl (one_of HT_.out (by kernel_rfl)) (by decide) (fun K hK => ?_)
               refine skip_ (w1 := ?_) (by rfl) rfl ?_ ?_
               rotate_left
               ·go_simp
                rfl
               refine hK.out _ _ ?_
               clear hK K
               refine done_ (done_of HT_.out (by kernel_rfl)) ?_
               obtain ⟨i065, hi065, _, hsz65, _⟩ := info_parts info5
               obtain ⟨A65, hcut65, hA65, hC65⟩ := print_drop_of (P := Try.prog) (Value.int .u8) 0 22 5 .i64 Try.underlying22 hi065 hsz65 (some ad168) c_1 x1_2 1 (by omega) (of_decide_eq_true hE) HC_1.out
               have HR173 := Aside0.mk (Kd.C_of_reads (h1 := fun _ => rfl) (hA65 _ (Kd.reads_of_C HR_1.out)))
               have HC173 := Aside0.mk hC65
               (try clear hA65)
               (try clear hC65)
               (try clear hi065)
               (try clear hsz65)
               try go_wp2
               go_roundg k2
               case measure => have := HJ2.out; have := HK2.out; omega
               case rel => exact ⟨(x1_2.drop 1), (y172), _, _, (by first | rfl | (rw [List.length_drop]; done) | (rw [List.length_drop]; rfl) | (simp only [List.length_drop]; rfl)), H', ⟨by have := HJ2.out; have := HK2.out; omega⟩, ⟨HR173.out⟩, ⟨HC173.out⟩, ⟨by (with_reducible repeat (first | apply Kd.S_alloc | apply Kd.S_drewN | apply Kd.S_drew)); exact HQ62.out⟩, ⟨by repeat (first | (with_reducible first | exact HB.out | apply below_alloc | apply pw_below_drewN | apply below_drew1 | refine below_set ?_ GB60.out) | exact HB.out)⟩⟩
              ·rw [if_neg c57] at H
               exact absurd H (by simp)
             ·rw [if_neg c56] at H
              exact absurd H (by simp)
            ·rw [if_neg c55] at H
             exact absurd H (by simp)
          ·rw [if_neg c36] at H
           exact absurd H (by simp)
         ·rw [if_neg c35] at H
          exact absurd H (by simp)
      ·rw [if_neg c8] at H
       have c8b0 : decide (0 < (x1_2.length : Int)) = false := decide_eq_false c8
       have c8b1 : decide (0 < x1_2.length) = false := decide_eq_false (by omega)
       clear c8
       simp only [Option.some.injEq, Prod.mk.injEq] at H
       obtain ⟨rfl, rfl⟩ := H
       go_wp2
       go_ret2
       exact ⟨_, eE, by (with_reducible repeat (first | apply Kd.S_alloc | apply Kd.S_drewN | apply Kd.S_drew)); exact HO_6.out, lU⟩
end Go.Proofs.Ytcpodjegdpbalaa.PFnExactPatchOf
namespace Go.Proofs.Ytcpodjegdpbalaa.PFnExactPatchOf
open Go.RowKit Go.Proofs.YtcpodjegdpbalaaW.PrintWords Go.Proofs.YtcpodjegdpbalaaW.PrintLast Go.Proofs.YtcpodjegdpbalaaW.PrintMore
attribute [local go_sem] max2_int min2_int max_two min_two max_three min_three max_four min_four   -- for this text's walks alone
set_option linter.unusedVariables false
set_option linter.unusedSimpArgs false
def laws_eqByteS.l0 : Nat → List Int → List Int → Int → Option (Bool)
 | 0, _, _, _ => none
 | k + 1, x0, x1, x5 => if x5 < (x0.length : Int) then (if 0 ≤ x5 then (if x5 < (x1.length : Int) then (if (rd x0 x5) = (rd x1 x5) then (laws_eqByteS.l0 k x0 x1 (wrap64 (x5 + 1))) else (some false)) else (none)) else (none)) else (some true)
def laws_eqByteS.f (k : Nat) (l0 : List Int) (l1 : List Int) : Option (Bool) := if (l0.length : Int) = (l1.length : Int) then (laws_eqByteS.l0 k l0 l1 0) else (some false)
theorem laws_eqByteS.mono_l : ∀ k, (∀ y0 y1 y2, LeO (laws_eqByteS.l0 k y0 y1 y2) (laws_eqByteS.l0 (k + 1) y0 y1 y2))
 | 0 => fun _ _ _ r h => by simp [laws_eqByteS.l0] at h
 | k + 1 => by
  have ih0 := laws_eqByteS.mono_l k
  ·intro y0 y1 y2
   unfold laws_eqByteS.l0
   repeat' first
   | (with_reducible exact ih0 _ _ _)
   | (with_reducible exact LeO.refl _)
   | (with_reducible exact LeO.none _)
   | (with_reducible refine LeO.ite ?_ ?_)
   | (with_reducible refine LeO.bind ?_ (fun _ => ?_))
   | exact ih0 _ _ _
   | exact LeO.none _
   | refine LeO.ite ?_ ?_
   | refine LeO.bind ?_ (fun _ => ?_)
theorem laws_eqByteS.mono : ∀ a0 a1 k, LeO (laws_eqByteS.f k a0 a1) (laws_eqByteS.f (k + 1) a0 a1) := by
 intro a0 a1 k
 have ih0 := laws_eqByteS.mono_l k
 unfold laws_eqByteS.f
 repeat' first
   | (with_reducible exact ih0 _ _ _)
   | (with_reducible exact LeO.refl _)
   | (with_reducible exact LeO.none _)
   | (with_reducible refine LeO.ite ?_ ?_)
   | (with_reducible refine LeO.bind ?_ (fun _ => ?_))
   | exact ih0 _ _ _
   | exact LeO.none _
   | refine LeO.ite ?_ ?_
   | refine LeO.bind ?_ (fun _ => ?_)
set_option maxHeartbeats 8000000 in
set_option maxRecDepth 100000 in
theorem laws_eqByteS.calls (k : Nat) (A0 : Option Addr) (c0 : Nat) (l0 : List Int) (A1 : Option Addr) (c1 : Nat) (l1 : List Int) (r : Bool) (w : World) (hr0 : Kd.C (Kd.int .u8) w A0 l0.length l0) (hc0 : l0.length ≤ c0) (hr1 : Kd.C (Kd.int .u8) w A1 l1.length l1) (hc1 : l1.length ≤ c1) (h : laws_eqByteS.f k l0 l1 = some r) :
  Calls Try.prog 10 #[.slice A0 l0.length c0, .slice A1 l1.length c1] w fun e w' => e = .returned (.bool r) ∧ Drawn0 w w' := by
 have HR0 := Aside0.mk hr0
 have HC0 := Aside0.mk hc0
 clear hr0 hc0
 have HR1 := Aside0.mk hr1
 have HC1 := Aside0.mk hc1
 clear hr1 hc1
 have H : (if (l0.length : Int) = (l1.length : Int) then (laws_eqByteS.l0 k l0 l1 0) else (some false)) = some r := h
 clear h
 by_cases c3 : (l0.length : Int) = (l1.length : Int)
 ·rw [if_pos c3] at H
  have c3b0 : ((l0.length : Int) == (l1.length : Int)) = true := beq_iff_eq.mpr c3
  have c3b1 : ((l0.length : Int) != (l1.length : Int)) = false := bne_eq_false_iff_eq.mpr c3
  have c3b2 : (l0.length == l1.length) = true := by first | simpa using c3 | (simp at c3 ⊢; omega)
  clear c3
  have H' := Aside0.mk H
  clear H
  go_enter Try.func10, Try.ntmps10
  go_wp2
  repeat (go_quiet (fail); try go_wp2)
  go_loopg [5] k (fun kq v5 w' => ∃ (x5_1 : Int), v5 = .int .i64 x5_1 ∧ Aside0 (laws_eqByteS.l0 kq l0 l1 x5_1 = some r) ∧ Aside0 (kq ≤ k) ∧ Drawn0 w w')
  case atStart => exact ⟨(0), tE, H', ⟨Nat.le_refl _⟩, by repeat (first | exact Drawn0.refl _ | apply Drawn0.step)⟩
  case round =>
   clear H'
   try clear c1
   try clear p2
   try clear c3
   try clear c3b0
   try clear c3b1
   try clear c3b2
   obtain ⟨x5_1, rfl, HA, HK1, ⟨m1, rfl⟩⟩ := hrel
   cases gk with
   | zero => exact absurd HA.out (by simp [laws_eqByteS.l0])
   | succ k1 =>
    have H := HA.out
    clear HA
    simp only [laws_eqByteS.l0] at H
    by_cases c4 : x5_1 < (l0.length : Int)
    ·rw [if_pos c4] at H
     have c4b0 : decide (x5_1 < (l0.length : Int)) = true := decide_eq_true c4
     clear c4
     by_cases c5 : 0 ≤ x5_1
     ·rw [if_pos c5] at H
      have c5b0 : decide (0 ≤ x5_1) = true := decide_eq_true c5
      clear c5
      by_cases c6 : x5_1 < (l1.length : Int)
      ·rw [if_pos c6] at H
       have c6b0 : decide (x5_1 < (l1.length : Int)) = true := decide_eq_true c6
       clear c6
       by_cases c7 : (rd l0 x5_1) = (rd l1 x5_1)
       ·rw [if_pos c7] at H
        have c7b0 : ((rd l0 x5_1) == (rd l1 x5_1)) = true := beq_iff_eq.mpr c7
        have c7b1 : ((rd l0 x5_1) != (rd l1 x5_1)) = false := bne_eq_false_iff_eq.mpr c7
        clear c7
        have H' := Aside0.mk H
        clear H
        have p174 : 0 ≤ (x5_1 : Int) := of_decide_eq_true hE
        have q174 : x5_1 < (l0.length : Int) := of_decide_eq_true hE
        obtain ⟨ad174, e174, hx174_0⟩ := Kd.at_int HR0.out x5_1 p174 q174
        cases e174
        replace p174 := eq_true p174
        replace q174 := eq_true q174
        have p175 : 0 ≤ (x5_1 : Int) := of_decide_eq_true hE
        have q175 : x5_1 < (l1.length : Int) := of_decide_eq_true hE
        obtain ⟨ad175, e175, hx175_0⟩ := Kd.at_int HR1.out x5_1 p175 q175
        cases e175
        replace p175 := eq_true p175
        replace q175 := eq_true q175
        go_wp2
        repeat (go_quiet (fail); try go_wp2)
        go_roundg k1
        case measure => have := HK1.out; omega
        case rel => exact ⟨(wrap64 (x5_1 + 1)), tE, H', ⟨by have := HK1.out; omega⟩, by repeat (first | exact Drawn0.refl _ | apply Drawn0.step)⟩
       ·rw [if_neg c7] at H
        have c7b0 : ((rd l0 x5_1) == (rd l1 x5_1)) = false := beq_eq_false_iff_ne.mpr c7
        have c7b1 : ((rd l0 x5_1) != (rd l1 x5_1)) = true := bne_iff_ne.mpr c7
        obtain rfl := Option.some.inj H
        have p174 : 0 ≤ (x5_1 : Int) := of_decide_eq_true hE
        have q174 : x5_1 < (l0.length : Int) := of_decide_eq_true hE
        obtain ⟨ad174, e174, hx174_0⟩ := Kd.at_int HR0.out x5_1 p174 q174
        cases e174
        replace p174 := eq_true p174
        replace q174 := eq_true q174
        have p175 : 0 ≤ (x5_1 : Int) := of_decide_eq_true hE
        have q175 : x5_1 < (l1.length : Int) := of_decide_eq_true hE
        obtain ⟨ad175, e175, hx175_0⟩ := Kd.at_int HR1.out x5_1 p175 q175
        cases e175
        replace p175 := eq_true p175
        replace q175 := eq_true q175
        go_wp2
        repeat (go_quiet (fail); try go_wp2)
        go_ret
        exact ⟨by first | rfl | (simp; done) | (simp [*]; done) | exact not_isEmpty _ | exact (not_isEmpty _).symm | exact is_empty _ | exact (is_empty _).symm, by repeat (first | exact Drawn0.refl _ | apply Drawn0.step)⟩
      ·rw [if_neg c6] at H
       exact absurd H (by simp)
     ·rw [if_neg c5] at H
      exact absurd H (by simp)
    ·rw [if_neg c4] at H
     have c4b0 : decide (x5_1 < (l0.length : Int)) = false := decide_eq_false c4
     clear c4
     obtain rfl := Option.some.inj H
     go_wp2
     repeat (go_quiet (fail); try go_wp2)
     go_ret
     exact ⟨by first | rfl | (simp; done) | (simp [*]; done) | exact not_isEmpty _ | exact (not_isEmpty _).symm | exact is_empty _ | exact (is_empty _).symm, by repeat (first | exact Drawn0.refl _ | apply Drawn0.step)⟩
 ·rw [if_neg c3] at H
  have c3b0 : ((l0.length : Int) == (l1.length : Int)) = false := beq_eq_false_iff_ne.mpr c3
  have c3b1 : ((l0.length : Int) != (l1.length : Int)) = true := bne_iff_ne.mpr c3
  have c3b2 : (l0.length == l1.length) = false := by first | simpa using c3 | (simp at c3 ⊢; omega)
  obtain rfl := Option.some.inj H
  go_enter Try.func10, Try.ntmps10
  go_wp2
  repeat (go_quiet (fail); try go_wp2)
  go_ret
  exact ⟨by first | rfl | (simp; done) | (simp [*]; done) | exact not_isEmpty _ | exact (not_isEmpty _).symm | exact is_empty _ | exact (is_empty _).symm, by repeat (first | exact Drawn0.refl _ | apply Drawn0.step)⟩
def laws_eqChunk.f (k : Nat) (a0_0 : Int) (a0_1 : Int) (l0_2 : List Int) (a1_0 : Int) (a1_1 : Int) (l1_2 : List Int) : Option (Bool) := if a0_0 = a1_0 then (if a0_1 = a1_1 then ((laws_eqByteS.f k l0_2 l1_2).bind fun t178 => (if t178 = true then (some true) else (some false))) else (some false)) else (some false)
theorem laws_eqChunk.mono : ∀ a0 a1 a2 a3 a4 a5 k, LeO (laws_eqChunk.f k a0 a1 a2 a3 a4 a5) (laws_eqChunk.f (k + 1) a0 a1 a2 a3 a4 a5) := by
 intro a0 a1 a2 a3 a4 a5 k
 unfold laws_eqChunk.f
 repeat' first
   | (with_reducible exact laws_eqByteS.mono _ _ _)
   | (with_reducible exact LeO.refl _)
   | (with_reducible exact LeO.none _)
   | (with_reducible refine LeO.ite ?_ ?_)
   | (with_reducible refine LeO.bind ?_ (fun _ => ?_))
   | exact laws_eqByteS.mono _ _ _
   | exact LeO.none _
   | refine LeO.ite ?_ ?_
   | refine LeO.bind ?_ (fun _ => ?_)
set_option maxHeartbeats 8000000 in
set_option maxRecDepth 100000 in
theorem laws_eqChunk.calls (k : Nat) (a0_0 : Int) (a0_1 : Int) (A0_2 : Option Addr) (c0_2 : Nat) (l0_2 : List Int) (a1_0 : Int) (a1_1 : Int) (A1_2 : Option Addr) (c1_2 : Nat) (l1_2 : List Int) (r : Bool) (w : World) (hr0_2 : Kd.C (Kd.int .u8) w A0_2 l0_2.length l0_2) (hc0_2 : l0_2.length ≤ c0_2) (hr1_2 : Kd.C (Kd.int .u8) w A1_2 l1_2.length l1_2) (hc1_2 : l1_2.length ≤ c1_2) (h : laws_eqChunk.f k a0_0 a0_1 l0_2 a1_0 a1_1 l1_2 = some r) :
  Calls Try.prog 33 #[.agg #[.int .i64 a0_0, .int .i64 a0_1, .slice A0_2 l0_2.length c0_2], .agg #[.int .i64 a1_0, .int .i64 a1_1, .slice A1_2 l1_2.length c1_2]] w fun e w' => e = .returned (.bool r) ∧ Below w.heap.size w w' := by
 have hu62 := Try.underlying62
 have HR0_2 := Aside0.mk hr0_2
 have HC0_2 := Aside0.mk hc0_2
 clear hr0_2 hc0_2
 have HR1_2 := Aside0.mk hr1_2
 have HC1_2 := Aside0.mk hc1_2
 clear hr1_2 hc1_2
 have HB := Aside0.mk (Below.refl w.heap.size w)
 have H : (if a0_0 = a1_0 then (if a0_1 = a1_1 then ((laws_eqByteS.f k l0_2 l1_2).bind fun t178 => (if t178 = true then (some true) else (some false))) else (some false)) else (some false)) = some r := h
 clear h
 by_cases c3 : a0_0 = a1_0
 ·rw [if_pos c3] at H
  have c3b0 : (a0_0 == a1_0) = true := beq_iff_eq.mpr c3
  have c3b1 : (a0_0 != a1_0) = false := bne_eq_false_iff_eq.mpr c3
  clear c3
  by_cases c4 : a0_1 = a1_1
  ·rw [if_pos c4] at H
   have c4b0 : (a0_1 == a1_1) = true := beq_iff_eq.mpr c4
   have c4b1 : (a0_1 != a1_1) = false := bne_eq_false_iff_eq.mpr c4
   clear c4
   replace H := Option.bind_eq_some_iff.mp H
   obtain ⟨t178, A50, H⟩ := H
   replace H : (if t178 = true then (some true) else (some false)) = some r := H
   have A5 := Aside0.mk A50
   clear A50
   by_cases c6 : t178 = true
   ·subst c6
    have H1 : (some true) = some r := by rw [if_pos rfl] at H; exact H
    clear H
    have H := H1
    clear H1
    obtain rfl := Option.some.inj H
    go_enter Try.func33, Try.ntmps33
    go_wp2_with (first | ((with_reducible refine gate_dst (N := 2) rfl ?_); refine box_event rfl (N := 2) rfl (cs := #[.int .i64 a0_0, .int .i64 a0_1, .slice A0_2 l0_2.length c0_2]) (t := 62) sE ?_; intro gb176 hg w7 hbox hb; have BK176 := Aside0.mk hbox; have GW176 := gS w hg (lU); have GE176 := gS w hg (lU); replace HB := bH (lU) hb; clear hb hbox hg) | ((with_reducible refine gate_dst (N := 3) rfl ?_); refine box_event rfl (N := 3) rfl (cs := #[.int .i64 a1_0, .int .i64 a1_1, .slice A1_2 l1_2.length c1_2]) (t := 62) sE ?_; intro gb177 hg w8 hbox hb; have BK177 := Aside0.mk hbox; have GW177 := gS w hg (lV1 GE176); have GE177 := gS w hg (lV1 GE176); replace HB := bH (lV1 GE176) hb; have NB176_177 := nL hg (bV BK176); have NB177_176 := nG hg (bV BK176); replace BK176 := bB (bV BK176) hb; clear hb hbox hg; have hnb9 := NB176_177.out; have hnc9 := NB177_176.out; have hcz10_0 := cz BK176 0 (.int .i64 a0_0); have hcz10_1 := cz BK176 1 (.int .i64 a0_1); have hcz10_2 := cz BK176 2 (.slice A0_2 l0_2.length c0_2); have hfz10_0 := fz BK176 0; have hfz10_1 := fz BK176 1; have hfz10_2 := fz BK176 2; have hcz11_0 := cz BK177 0 (.int .i64 a1_0); have hcz11_1 := cz BK177 1 (.int .i64 a1_1); have hcz11_2 := cz BK177 2 (.slice A1_2 l1_2.length c1_2); have hfz11_0 := fz BK177 0; have hfz11_1 := fz BK177 1; have hfz11_2 := fz BK177 2) | ((with_reducible refine gate_callee (f := 10) rfl ?_); refine goesL_ (some 19) rfl rfl Try.func10 (by kernel_rfl) rfl #[.slice A0_2 l0_2.length c0_2, .slice A1_2 l1_2.length c1_2] rfl aE ?_; (with_reducible refine (laws_eqByteS.calls k _ _ l0_2 _ _ l1_2 true _ ?side1 ?side2 ?side3 ?side4 A5.out).mono ?_); (case side1 => exact cU (Kd.C_below HR0_2.out HB.out)); (case side2 => exact HC0_2.out); (case side3 => exact cU (Kd.C_below HR1_2.out HB.out)); (case side4 => exact HC1_2.out); rintro e w' ⟨rfl, ⟨nd, rfl⟩⟩; refine ⟨_, rfl, ?_⟩))
    go_ret
    exact ⟨eE, lV2 GE176 GE177⟩
   ·replace c6 := Bool.eq_false_iff.mpr c6
    subst c6
    have H1 : (some false) = some r := by rw [if_neg (show ¬ (false = true) by decide)] at H; exact H
    clear H
    have H := H1
    clear H1
    obtain rfl := Option.some.inj H
    go_enter Try.func33, Try.ntmps33
    go_wp2_with (first | ((with_reducible refine gate_dst (N := 2) rfl ?_); refine box_event rfl (N := 2) rfl (cs := #[.int .i64 a0_0, .int .i64 a0_1, .slice A0_2 l0_2.length c0_2]) (t := 62) sE ?_; intro gb176 hg w12 hbox hb; have BK176 := Aside0.mk hbox; have GW176 := gS w hg (lU); have GE176 := gS w hg (lU); replace HB := bH (lU) hb; clear hb hbox hg) | ((with_reducible refine gate_dst (N := 3) rfl ?_); refine box_event rfl (N := 3) rfl (cs := #[.int .i64 a1_0, .int .i64 a1_1, .slice A1_2 l1_2.length c1_2]) (t := 62) sE ?_; intro gb177 hg w13 hbox hb; have BK177 := Aside0.mk hbox; have GW177 := gS w hg (lV1 GE176); have GE177 := gS w hg (lV1 GE176); replace HB := bH (lV1 GE176) hb; have NB176_177 := nL hg (bV BK176); have NB177_176 := nG hg (bV BK176); replace BK176 := bB (bV BK176) hb; clear hb hbox hg; have hnb14 := NB176_177.out; have hnc14 := NB177_176.out; have hcz15_0 := cz BK176 0 (.int .i64 a0_0); have hcz15_1 := cz BK176 1 (.int .i64 a0_1); have hcz15_2 := cz BK176 2 (.slice A0_2 l0_2.length c0_2); have hfz15_0 := fz BK176 0; have hfz15_1 := fz BK176 1; have hfz15_2 := fz BK176 2; have hcz16_0 := cz BK177 0 (.int .i64 a1_0); have hcz16_1 := cz BK177 1 (.int .i64 a1_1); have hcz16_2 := cz BK177 2 (.slice A1_2 l1_2.length c1_2); have hfz16_0 := fz BK177 0; have hfz16_1 := fz BK177 1; have hfz16_2 := fz BK177 2) | ((with_reducible refine gate_callee (f := 10) rfl ?_); refine goesL_ (some 19) rfl rfl Try.func10 (by kernel_rfl) rfl #[.slice A0_2 l0_2.length c0_2, .slice A1_2 l1_2.length c1_2] rfl aE ?_; (with_reducible refine (laws_eqByteS.calls k _ _ l0_2 _ _ l1_2 false _ ?side1 ?side2 ?side3 ?side4 A5.out).mono ?_); (case side1 => exact cU (Kd.C_below HR0_2.out HB.out)); (case side2 => exact HC0_2.out); (case side3 => exact cU (Kd.C_below HR1_2.out HB.out)); (case side4 => exact HC1_2.out); rintro e w' ⟨rfl, ⟨nd, rfl⟩⟩; refine ⟨_, rfl, ?_⟩))
    go_ret
    exact ⟨eE, lV2 GE176 GE177⟩
  ·rw [if_neg c4] at H
   have c4b0 : (a0_1 == a1_1) = false := beq_eq_false_iff_ne.mpr c4
   have c4b1 : (a0_1 != a1_1) = true := bne_iff_ne.mpr c4
   obtain rfl := Option.some.inj H
   go_enter Try.func33, Try.ntmps33
   go_wp2_with (first | ((with_reducible refine gate_dst (N := 2) rfl ?_); refine box_event rfl (N := 2) rfl (cs := #[.int .i64 a0_0, .int .i64 a0_1, .slice A0_2 l0_2.length c0_2]) (t := 62) sE ?_; intro gb176 hg w17 hbox hb; have BK176 := Aside0.mk hbox; have GW176 := gS w hg (lU); have GE176 := gS w hg (lU); replace HB := bH (lU) hb; clear hb hbox hg) | ((with_reducible refine gate_dst (N := 3) rfl ?_); refine box_event rfl (N := 3) rfl (cs := #[.int .i64 a1_0, .int .i64 a1_1, .slice A1_2 l1_2.length c1_2]) (t := 62) sE ?_; intro gb177 hg w18 hbox hb; have BK177 := Aside0.mk hbox; have GW177 := gS w hg (lV1 GE176); have GE177 := gS w hg (lV1 GE176); replace HB := bH (lV1 GE176) hb; have NB176_177 := nL hg (bV BK176); have NB177_176 := nG hg (bV BK176); replace BK176 := bB (bV BK176) hb; clear hb hbox hg; have hnb19 := NB176_177.out; have hnc19 := NB177_176.out; have hcz20_0 := cz BK176 0 (.int .i64 a0_0); have hcz20_1 := cz BK176 1 (.int .i64 a0_1); have hcz20_2 := cz BK176 2 (.slice A0_2 l0_2.length c0_2); have hfz20_0 := fz BK176 0; have hfz20_1 := fz BK176 1; have hfz20_2 := fz BK176 2; have hcz21_0 := cz BK177 0 (.int .i64 a1_0); have hcz21_1 := cz BK177 1 (.int .i64 a1_1); have hcz21_2 := cz BK177 2 (.slice A1_2 l1_2.length c1_2); have hfz21_0 := fz BK177 0; have hfz21_1 := fz BK177 1; have hfz21_2 := fz BK177 2))
   go_ret
   exact ⟨eE, lV2 GE176 GE177⟩
 ·rw [if_neg c3] at H
  have c3b0 : (a0_0 == a1_0) = false := beq_eq_false_iff_ne.mpr c3
  have c3b1 : (a0_0 != a1_0) = true := bne_iff_ne.mpr c3
  obtain rfl := Option.some.inj H
  go_enter Try.func33, Try.ntmps33
  go_wp2_with (first | ((with_reducible refine gate_dst (N := 2) rfl ?_); refine box_event rfl (N := 2) rfl (cs := #[.int .i64 a0_0, .int .i64 a0_1, .slice A0_2 l0_2.length c0_2]) (t := 62) sE ?_; intro gb176 hg w22 hbox hb; have BK176 := Aside0.mk hbox; have GW176 := gS w hg (lU); have GE176 := gS w hg (lU); replace HB := bH (lU) hb; clear hb hbox hg) | ((with_reducible refine gate_dst (N := 3) rfl ?_); refine box_event rfl (N := 3) rfl (cs := #[.int .i64 a1_0, .int .i64 a1_1, .slice A1_2 l1_2.length c1_2]) (t := 62) sE ?_; intro gb177 hg w23 hbox hb; have BK177 := Aside0.mk hbox; have GW177 := gS w hg (lV1 GE176); have GE177 := gS w hg (lV1 GE176); replace HB := bH (lV1 GE176) hb; have NB176_177 := nL hg (bV BK176); have NB177_176 := nG hg (bV BK176); replace BK176 := bB (bV BK176) hb; clear hb hbox hg; have hnb24 := NB176_177.out; have hnc24 := NB177_176.out; have hcz25_0 := cz BK176 0 (.int .i64 a0_0); have hcz25_1 := cz BK176 1 (.int .i64 a0_1); have hcz25_2 := cz BK176 2 (.slice A0_2 l0_2.length c0_2); have hfz25_0 := fz BK176 0; have hfz25_1 := fz BK176 1; have hfz25_2 := fz BK176 2; have hcz26_0 := cz BK177 0 (.int .i64 a1_0); have hcz26_1 := cz BK177 1 (.int .i64 a1_1); have hcz26_2 := cz BK177 2 (.slice A1_2 l1_2.length c1_2); have hfz26_0 := fz BK177 0; have hfz26_1 := fz BK177 1; have hfz26_2 := fz BK177 2))
  go_ret
  exact ⟨eE, lV2 GE176 GE177⟩
def laws_eqChunkS.l0 : Nat → List (S62) → List (S62) → Int → Option (Bool)
 | 0, _, _, _ => none
 | k + 1, x0, x1, x5 => if x5 < (x0.length : Int) then (if 0 ≤ x5 then (if x5 < (x1.length : Int) then ((laws_eqChunk.f k ((rd_T62 x0 x5).f0) ((rd_T62 x0 x5).f1) ((rd_T62 x0 x5).f2) ((rd_T62 x1 x5).f0) ((rd_T62 x1 x5).f1) ((rd_T62 x1 x5).f2)).bind fun t181 => (if t181 = true then (laws_eqChunkS.l0 k x0 x1 (wrap64 (x5 + 1))) else (some false))) else (none)) else (none)) else (some true)
def laws_eqChunkS.f (k : Nat) (l0 : List (S62)) (l1 : List (S62)) : Option (Bool) := if (l0.length : Int) = (l1.length : Int) then (laws_eqChunkS.l0 k l0 l1 0) else (some false)
theorem laws_eqChunkS.mono_l : ∀ k, (∀ y0 y1 y2, LeO (laws_eqChunkS.l0 k y0 y1 y2) (laws_eqChunkS.l0 (k + 1) y0 y1 y2))
 | 0 => fun _ _ _ r h => by simp [laws_eqChunkS.l0] at h
 | k + 1 => by
  have ih0 := laws_eqChunkS.mono_l k
  ·intro y0 y1 y2
   unfold laws_eqChunkS.l0
   repeat' first
   | (with_reducible exact ih0 _ _ _)
   | (with_reducible exact laws_eqChunk.mono _ _ _ _ _ _ _)
   | (with_reducible exact LeO.refl _)
   | (with_reducible exact LeO.none _)
   | (with_reducible refine LeO.ite ?_ ?_)
   | (with_reducible refine LeO.bind ?_ (fun _ => ?_))
   | exact ih0 _ _ _
   | exact laws_eqChunk.mono _ _ _ _ _ _ _
   | exact LeO.none _
   | refine LeO.ite ?_ ?_
   | refine LeO.bind ?_ (fun _ => ?_)
theorem laws_eqChunkS.mono : ∀ a0 a1 k, LeO (laws_eqChunkS.f k a0 a1) (laws_eqChunkS.f (k + 1) a0 a1) := by
 intro a0 a1 k
 have ih0 := laws_eqChunkS.mono_l k
 unfold laws_eqChunkS.f
 repeat' first
   | (with_reducible exact ih0 _ _ _)
   | (with_reducible exact laws_eqChunk.mono _ _ _ _ _ _ _)
   | (with_reducible exact LeO.refl _)
   | (with_reducible exact LeO.none _)
   | (with_reducible refine LeO.ite ?_ ?_)
   | (with_reducible refine LeO.bind ?_ (fun _ => ?_))
   | exact ih0 _ _ _
   | exact laws_eqChunk.mono _ _ _ _ _ _ _
   | exact LeO.none _
   | refine LeO.ite ?_ ?_
   | refine LeO.bind ?_ (fun _ => ?_)
def laws_eqChunkS.T6 : Bool × List (List Nat × List Nat) := (true, [([], []), ([], []), ([0, 1], [0, 1]), ([2], [2]), ([], []), ([], []), ([4, 5], [4, 5]), ([6], [6]), ([3, 7], [3, 7]), ([8], [8])])
def laws_eqChunkS.B6 : List Nat := [0, 0, 3, 7, 0, 0, 48, 112, 255, 511]
theorem laws_eqChunkS.tab6 : rtab .any (opsOf Try.f9 6) = laws_eqChunkS.T6 := by kernel_rfl
theorem laws_eqChunkS.bits6 : waitsOk laws_eqChunkS.T6.2 laws_eqChunkS.B6 = true := by kernel_rfl
set_option maxHeartbeats 8000000 in
set_option maxRecDepth 100000 in
theorem laws_eqChunkS.calls (k : Nat) (A0 : Option Addr) (c0 : Nat) (l0 : List (S62)) (A1 : Option Addr) (c1 : Nat) (l1 : List (S62)) (r : Bool) (w : World) (hr0 : Kd.C k62 w A0 l0.length l0) (hc0 : l0.length ≤ c0) (hr1 : Kd.C k62 w A1 l1.length l1) (hc1 : l1.length ≤ c1) (h : laws_eqChunkS.f k l0 l1 = some r) :
  Calls Try.prog 9 #[.slice A0 l0.length c0, .slice A1 l1.length c1] w fun e w' => e = .returned (.bool r) ∧ Below w.heap.size w w' := by
 have hu62 := Try.underlying62
 have HR0 := Aside0.mk hr0
 have HC0 := Aside0.mk hc0
 clear hr0 hc0
 have HR1 := Aside0.mk hr1
 have HC1 := Aside0.mk hc1
 clear hr1 hc1
 have HB := Aside0.mk (Below.refl w.heap.size w)
 have H : (if (l0.length : Int) = (l1.length : Int) then (laws_eqChunkS.l0 k l0 l1 0) else (some false)) = some r := h
 clear h
 by_cases c3 : (l0.length : Int) = (l1.length : Int)
 ·rw [if_pos c3] at H
  have c3b0 : ((l0.length : Int) == (l1.length : Int)) = true := beq_iff_eq.mpr c3
  have c3b1 : ((l0.length : Int) != (l1.length : Int)) = false := bne_eq_false_iff_eq.mpr c3
  have c3b2 : (l0.length == l1.length) = true := by first | simpa using c3 | (simp at c3 ⊢; omega)
  clear c3
  have H' := Aside0.mk H
  clear H
  go_enter Try.func9, Try.ntmps9
  go_wp2
  go_loopg [5] k (fun kq v5 w' => ∃ (x5_1 : Int), v5 = .int .i64 x5_1 ∧ Aside0 (laws_eqChunkS.l0 kq l0 l1 x5_1 = some r) ∧ Aside0 (kq ≤ k) ∧ Aside0 (Below w.heap.size w w'))
  case atStart => exact ⟨(0), tE, H', ⟨Nat.le_refl _⟩, ⟨by repeat (first | (with_reducible first | exact HB.out | apply below_alloc | apply pw_below_drewN | apply below_drew1) | exact HB.out)⟩⟩
  case round =>
   clear H'
   try clear c1
   try clear p2
   try clear c3
   try clear c3b0
   try clear c3b1
   try clear c3b2
   obtain ⟨x5_1, rfl, HA, HK1, HB⟩ := hrel
   cases gk with
   | zero => exact absurd HA.out (by simp [laws_eqChunkS.l0])
   | succ k1 =>
    have H := HA.out
    clear HA
    simp only [laws_eqChunkS.l0] at H
    by_cases c4 : x5_1 < (l0.length : Int)
    ·rw [if_pos c4] at H
     have c4b0 : decide (x5_1 < (l0.length : Int)) = true := decide_eq_true c4
     clear c4
     by_cases c5 : 0 ≤ x5_1
     ·rw [if_pos c5] at H
      have c5b0 : decide (0 ≤ x5_1) = true := decide_eq_true c5
      clear c5
      by_cases c6 : x5_1 < (l1.length : Int)
      ·rw [if_pos c6] at H
       have c6b0 : decide (x5_1 < (l1.length : Int)) = true := decide_eq_true c6
       clear c6
       replace H := Option.bind_eq_some_iff.mp H
       obtain ⟨t181, A70, H⟩ := H
       replace H : (if t181 = true then (laws_eqChunkS.l0 k1 l0 l1 (wrap64 (x5_1 + 1))) else (some false)) = some r := H
       have A7 := Aside0.mk A70
       clear A70
       by_cases c8 : t181 = true
       ·subst c8
        have H1 : (laws_eqChunkS.l0 k1 l0 l1 (wrap64 (x5_1 + 1))) = some r := by rw [if_pos rfl] at H; exact H
        clear H
        have H := H1
        clear H1
        have H' := Aside0.mk H
        clear H
        try go_wp2
        replace HB := Aside0.mk (below_drew1 HB.out)
        have p179 : 0 ≤ (x5_1 : Int) := of_decide_eq_true hE
        have q179 : x5_1 < (l0.length : Int) := of_decide_eq_true hE
        obtain ⟨ad179, A179_2, c179_2, e179, hx179_0, hx179_1, hx179_2, hl179_2, hi179_2⟩ := at_T62 HR0.out x5_1 p179 q179
        have hw179_2 := hx179_2
        have hw179_1 := hx179_1
        have hw179_0 := hx179_0
        cases e179
        replace hx179_0 := (HB.out.cell (World.block_lt_of_cell? w _ hx179_0)).trans hx179_0
        replace hx179_1 := (HB.out.cell (World.block_lt_of_cell? w _ hx179_1)).trans hx179_1
        replace hx179_2 := (HB.out.cell (World.block_lt_of_cell? w _ hx179_2)).trans hx179_2
        have HR179_2 := Aside0.mk hi179_2
        have HC179_2 := Aside0.mk hl179_2
        clear hi179_2 hl179_2
        replace p179 := eq_true p179
        replace q179 := eq_true q179
        have p180 : 0 ≤ (x5_1 : Int) := of_decide_eq_true hE
        have q180 : x5_1 < (l1.length : Int) := of_decide_eq_true hE
        obtain ⟨ad180, A180_2, c180_2, e180, hx180_0, hx180_1, hx180_2, hl180_2, hi180_2⟩ := at_T62 HR1.out x5_1 p180 q180
        have hw180_2 := hx180_2
        have hw180_1 := hx180_1
        have hw180_0 := hx180_0
        cases e180
        replace hx180_0 := (HB.out.cell (World.block_lt_of_cell? w _ hx180_0)).trans hx180_0
        replace hx180_1 := (HB.out.cell (World.block_lt_of_cell? w _ hx180_1)).trans hx180_1
        replace hx180_2 := (HB.out.cell (World.block_lt_of_cell? w _ hx180_2)).trans hx180_2
        have HR180_2 := Aside0.mk hi180_2
        have HC180_2 := Aside0.mk hl180_2
        clear hi180_2 hl180_2
        replace p180 := eq_true p180
        replace q180 := eq_true q180
        refine start_ (n := 10) (S := fun w' => w'.cell? (ad179.add ((x5_1).toNat * 3)) = some (.int .i64 ((rd_T62 l0 x5_1).f0)) ∧ w'.cell? ⟨(ad179.add ((x5_1).toNat * 3)).block, (ad179.add ((x5_1).toNat * 3)).off + 1, none⟩ = some (.int .i64 ((rd_T62 l0 x5_1).f1)) ∧ w'.cell? ⟨(ad179.add ((x5_1).toNat * 3)).block, (ad179.add ((x5_1).toNat * 3)).off + 2, none⟩ = some (.slice A179_2 ((rd_T62 l0 x5_1).f2).length c179_2) ∧ w'.cell? (ad180.add ((x5_1).toNat * 3)) = some (.int .i64 ((rd_T62 l1 x5_1).f0)) ∧ w'.cell? ⟨(ad180.add ((x5_1).toNat * 3)).block, (ad180.add ((x5_1).toNat * 3)).off + 1, none⟩ = some (.int .i64 ((rd_T62 l1 x5_1).f1)) ∧ w'.cell? ⟨(ad180.add ((x5_1).toNat * 3)).block, (ad180.add ((x5_1).toNat * 3)).off + 2, none⟩ = some (.slice A180_2 ((rd_T62 l1 x5_1).f2).length c180_2)) (ds := []) #[false, false, false, false, false, false, false, false, false, false] (by kernel_rfl) rfl rfl ⟨((HB.out.cell (World.block_lt_of_cell? w _ hw179_0)).trans hw179_0), ((HB.out.cell (World.block_lt_of_cell? w _ hw179_1)).trans hw179_1), ((HB.out.cell (World.block_lt_of_cell? w _ hw179_2)).trans hw179_2), ((HB.out.cell (World.block_lt_of_cell? w _ hw180_0)).trans hw180_0), ((HB.out.cell (World.block_lt_of_cell? w _ hw180_1)).trans hw180_1), ((HB.out.cell (World.block_lt_of_cell? w _ hw180_2)).trans hw180_2)⟩ (fun hHeld => ?_); refine with_tabW laws_eqChunkS.tab6 laws_eqChunkS.bits6 (fun HT_ HW_ => ?_)
        generalize wr.drew = w9 at HB HR179_2 HR180_2 hx179_0 hx179_1 hx179_2 hx180_0 hx180_1 hx180_2 hHeld ⊢
        refine pureA 0 17 (bz 10 1) rfl rfl (any_of HT_.out (by kernel_rfl)) ?_
        refine pureA 1 18 (bz 10 3) rfl rfl (any_of HT_.out (by kernel_rfl)) ?_
        refine pureA 2 19 (bz 10 7) rfl rfl (any_of HT_.out (by kernel_rfl)) ?_
        refine pureA 4 21 (bz 10 23) rfl rfl (any_of HT_.out (by kernel_rfl)) ?_
        refine pureA 5 22 (bz 10 55) rfl rfl (any_of HT_.out (by kernel_rfl)) ?_
        refine pureA 6 23 (bz 10 119) rfl rfl (any_of HT_.out (by kernel_rfl)) ?_
        refine takeA 3 20 (bz 10 127) rfl rfl (take_ofW HT_.out HW_.out (by kernel_rfl)) hHeld (by rintro w' ⟨s0, s1, s2, s3, s4, s5⟩; go_simp; with_reducible rfl) ?_
        refine takeA 7 24 (bz 10 255) rfl rfl (take_ofW HT_.out HW_.out (by kernel_rfl)) hHeld (by rintro w' ⟨s0, s1, s2, s3, s4, s5⟩; go_simp; with_reducible rfl) ?_
        refine one_ (i := 8) (N := some 25) (bz 10 511) rfl rfl (one_of HT_.out (by kernel_rfl)) (by decide) (fun K hK => ?_)
        refine goes_ Try.func33 (by kernel_rfl) rfl #[.agg #[.int .i64 ((rd_T62 l0 x5_1).f0), .int .i64 ((rd_T62 l0 x5_1).f1), .slice A179_2 ((rd_T62 l0 x5_1).f2).length c179_2], .agg #[.int .i64 ((rd_T62 l1 x5_1).f0), .int .i64 ((rd_T62 l1 x5_1).f1), .slice A180_2 ((rd_T62 l1 x5_1).f2).length c180_2]] (by rfl) rfl rfl aE ?_
        with_reducible refine (laws_eqChunk.calls k1 ((rd_T62 l0 x5_1).f0) ((rd_T62 l0 x5_1).f1) _ _ ((rd_T62 l0 x5_1).f2) ((rd_T62 l1 x5_1).f0) ((rd_T62 l1 x5_1).f1) _ _ ((rd_T62 l1 x5_1).f2) true _ ?side1 ?side2 ?side3 ?side4 A7.out).mono ?_
        (case side1 => exact cU (Kd.C_below HR179_2.out HB.out))
        (case side2 => exact HC179_2.out)
        (case side3 => exact cU (Kd.C_below HR180_2.out HB.out))
        (case side4 => exact HC180_2.out)
        rintro e w10 ⟨rfl, hb⟩
        refine ⟨_, rfl, ?_⟩
        replace HB := bH (lU) hb
        (try clear hb)
        (try clear hb2)
        (try clear hk)
        (try clear hi)
        refine hK.out _ _ ⟨((HB.out.cell (World.block_lt_of_cell? w _ hw179_0)).trans hw179_0), ((HB.out.cell (World.block_lt_of_cell? w _ hw179_1)).trans hw179_1), ((HB.out.cell (World.block_lt_of_cell? w _ hw179_2)).trans hw179_2), ((HB.out.cell (World.block_lt_of_cell? w _ hw180_0)).trans hw180_0), ((HB.out.cell (World.block_lt_of_cell? w _ hw180_1)).trans hw180_1), ((HB.out.cell (World.block_lt_of_cell? w _ hw180_2)).trans hw180_2)⟩ (fun hHeld => ?_)
        clear hK K
        refine norm_ (a' := ?_) ?_ ?_
        rotate_left
        ·show Act.put _ (some 25) _ = _
         simp only [Act.put, List.setIfInBounds_toArray, List.set_cons_zero, List.set_cons_succ, i64_w, i32_w]
         rfl
        refine pureA 9 26 (bz 10 1023) rfl rfl (any_of HT_.out (by kernel_rfl)) ?_
        refine done_ (done_of HT_.out (by kernel_rfl)) ?_
        try go_wp2
        go_roundg k1
        case measure => have := HK1.out; omega
        case rel => exact ⟨(wrap64 (x5_1 + 1)), tE, H', ⟨by have := HK1.out; omega⟩, ⟨by repeat (first | (with_reducible first | exact HB.out | apply below_alloc | apply pw_below_drewN | apply below_drew1) | exact HB.out)⟩⟩
       ·replace c8 := Bool.eq_false_iff.mpr c8
        subst c8
        have H1 : (some false) = some r := by rw [if_neg (show ¬ (false = true) by decide)] at H; exact H
        clear H
        have H := H1
        clear H1
        obtain rfl := Option.some.inj H
        try go_wp2
        replace HB := Aside0.mk (below_drew1 HB.out)
        have p179 : 0 ≤ (x5_1 : Int) := of_decide_eq_true hE
        have q179 : x5_1 < (l0.length : Int) := of_decide_eq_true hE
        obtain ⟨ad179, A179_2, c179_2, e179, hx179_0, hx179_1, hx179_2, hl179_2, hi179_2⟩ := at_T62 HR0.out x5_1 p179 q179
        have hw179_2 := hx179_2
        have hw179_1 := hx179_1
        have hw179_0 := hx179_0
        cases e179
        replace hx179_0 := (HB.out.cell (World.block_lt_of_cell? w _ hx179_0)).trans hx179_0
        replace hx179_1 := (HB.out.cell (World.block_lt_of_cell? w _ hx179_1)).trans hx179_1
        replace hx179_2 := (HB.out.cell (World.block_lt_of_cell? w _ hx179_2)).trans hx179_2
        have HR179_2 := Aside0.mk hi179_2
        have HC179_2 := Aside0.mk hl179_2
        clear hi179_2 hl179_2
        replace p179 := eq_true p179
        replace q179 := eq_true q179
        have p180 : 0 ≤ (x5_1 : Int) := of_decide_eq_true hE
        have q180 : x5_1 < (l1.length : Int) := of_decide_eq_true hE
        obtain ⟨ad180, A180_2, c180_2, e180, hx180_0, hx180_1, hx180_2, hl180_2, hi180_2⟩ := at_T62 HR1.out x5_1 p180 q180
        have hw180_2 := hx180_2
        have hw180_1 := hx180_1
        have hw180_0 := hx180_0
        cases e180
        replace hx180_0 := (HB.out.cell (World.block_lt_of_cell? w _ hx180_0)).trans hx180_0
        replace hx180_1 := (HB.out.cell (World.block_lt_of_cell? w _ hx180_1)).trans hx180_1
        replace hx180_2 := (HB.out.cell (World.block_lt_of_cell? w _ hx180_2)).trans hx180_2
        have HR180_2 := Aside0.mk hi180_2
        have HC180_2 := Aside0.mk hl180_2
        clear hi180_2 hl180_2
        replace p180 := eq_true p180
        replace q180 := eq_true q180
        refine start_ (n := 10) (S := fun w' => w'.cell? (ad179.add ((x5_1).toNat * 3)) = some (.int .i64 ((rd_T62 l0 x5_1).f0)) ∧ w'.cell? ⟨(ad179.add ((x5_1).toNat * 3)).block, (ad179.add ((x5_1).toNat * 3)).off + 1, none⟩ = some (.int .i64 ((rd_T62 l0 x5_1).f1)) ∧ w'.cell? ⟨(ad179.add ((x5_1).toNat * 3)).block, (ad179.add ((x5_1).toNat * 3)).off + 2, none⟩ = some (.slice A179_2 ((rd_T62 l0 x5_1).f2).length c179_2) ∧ w'.cell? (ad180.add ((x5_1).toNat * 3)) = some (.int .i64 ((rd_T62 l1 x5_1).f0)) ∧ w'.cell? ⟨(ad180.add ((x5_1).toNat * 3)).block, (ad180.add ((x5_1).toNat * 3)).off + 1, none⟩ = some (.int .i64 ((rd_T62 l1 x5_1).f1)) ∧ w'.cell? ⟨(ad180.add ((x5_1).toNat * 3)).block, (ad180.add ((x5_1).toNat * 3)).off + 2, none⟩ = some (.slice A180_2 ((rd_T62 l1 x5_1).f2).length c180_2)) (ds := []) #[false, false, false, false, false, false, false, false, false, false] (by kernel_rfl) rfl rfl ⟨((HB.out.cell (World.block_lt_of_cell? w _ hw179_0)).trans hw179_0), ((HB.out.cell (World.block_lt_of_cell? w _ hw179_1)).trans hw179_1), ((HB.out.cell (World.block_lt_of_cell? w _ hw179_2)).trans hw179_2), ((HB.out.cell (World.block_lt_of_cell? w _ hw180_0)).trans hw180_0), ((HB.out.cell (World.block_lt_of_cell? w _ hw180_1)).trans hw180_1), ((HB.out.cell (World.block_lt_of_cell? w _ hw180_2)).trans hw180_2)⟩ (fun hHeld => ?_); refine with_tabW laws_eqChunkS.tab6 laws_eqChunkS.bits6 (fun HT_ HW_ => ?_)
        generalize wr.drew = w11 at HB HR179_2 HR180_2 hx179_0 hx179_1 hx179_2 hx180_0 hx180_1 hx180_2 hHeld ⊢
        refine pureA 0 17 (bz 10 1) rfl rfl (any_of HT_.out (by kernel_rfl)) ?_
        refine pureA 1 18 (bz 10 3) rfl rfl (any_of HT_.out (by kernel_rfl)) ?_
        refine pureA 2 19 (bz 10 7) rfl rfl (any_of HT_.out (by kernel_rfl)) ?_
        refine pureA 4 21 (bz 10 23) rfl rfl (any_of HT_.out (by kernel_rfl)) ?_
        refine pureA 5 22 (bz 10 55) rfl rfl (any_of HT_.out (by kernel_rfl)) ?_
        refine pureA 6 23 (bz 10 119) rfl rfl (any_of HT_.out (by kernel_rfl)) ?_
        refine takeA 3 20 (bz 10 127) rfl rfl (take_ofW HT_.out HW_.out (by kernel_rfl)) hHeld (by rintro w' ⟨s0, s1, s2, s3, s4, s5⟩; go_simp; with_reducible rfl) ?_
        refine takeA 7 24 (bz 10 255) rfl rfl (take_ofW HT_.out HW_.out (by kernel_rfl)) hHeld (by rintro w' ⟨s0, s1, s2, s3, s4, s5⟩; go_simp; with_reducible rfl) ?_
        refine one_ (i := 8) (N := some 25) (bz 10 511) rfl rfl (one_of HT_.out (by kernel_rfl)) (by decide) (fun K hK => ?_)
        refine goes_ Try.func33 (by kernel_rfl) rfl #[.agg #[.int .i64 ((rd_T62 l0 x5_1).f0), .int .i64 ((rd_T62 l0 x5_1).f1), .slice A179_2 ((rd_T62 l0 x5_1).f2).length c179_2], .agg #[.int .i64 ((rd_T62 l1 x5_1).f0), .int .i64 ((rd_T62 l1 x5_1).f1), .slice A180_2 ((rd_T62 l1 x5_1).f2).length c180_2]] (by rfl) rfl rfl aE ?_
        with_reducible refine (laws_eqChunk.calls k1 ((rd_T62 l0 x5_1).f0) ((rd_T62 l0 x5_1).f1) _ _ ((rd_T62 l0 x5_1).f2) ((rd_T62 l1 x5_1).f0) ((rd_T62 l1 x5_1).f1) _ _ ((rd_T62 l1 x5_1).f2) false _ ?side1 ?side2 ?side3 ?side4 A7.out).mono ?_
        (case side1 => exact cU (Kd.C_below HR179_2.out HB.out))
        (case side2 => exact HC179_2.out)
        (case side3 => exact cU (Kd.C_below HR180_2.out HB.out))
        (case side4 => exact HC180_2.out)
        rintro e w12 ⟨rfl, hb⟩
        refine ⟨_, rfl, ?_⟩
        replace HB := bH (lU) hb
        (try clear hb)
        (try clear hb2)
        (try clear hk)
        (try clear hi)
        refine hK.out _ _ ⟨((HB.out.cell (World.block_lt_of_cell? w _ hw179_0)).trans hw179_0), ((HB.out.cell (World.block_lt_of_cell? w _ hw179_1)).trans hw179_1), ((HB.out.cell (World.block_lt_of_cell? w _ hw179_2)).trans hw179_2), ((HB.out.cell (World.block_lt_of_cell? w _ hw180_0)).trans hw180_0), ((HB.out.cell (World.block_lt_of_cell? w _ hw180_1)).trans hw180_1), ((HB.out.cell (World.block_lt_of_cell? w _ hw180_2)).trans hw180_2)⟩ (fun hHeld => ?_)
        clear hK K
        refine norm_ (a' := ?_) ?_ ?_
        rotate_left
        ·show Act.put _ (some 25) _ = _
         simp only [Act.put, List.setIfInBounds_toArray, List.set_cons_zero, List.set_cons_succ, i64_w, i32_w]
         rfl
        refine pureA 9 26 (bz 10 1023) rfl rfl (any_of HT_.out (by kernel_rfl)) ?_
        refine done_ (done_of HT_.out (by kernel_rfl)) ?_
        try go_wp2
        go_ret
        exact ⟨eE, lU⟩
      ·rw [if_neg c6] at H
       exact absurd H (by simp)
     ·rw [if_neg c5] at H
      exact absurd H (by simp)
    ·rw [if_neg c4] at H
     have c4b0 : decide (x5_1 < (l0.length : Int)) = false := decide_eq_false c4
     clear c4
     obtain rfl := Option.some.inj H
     go_wp2
     go_ret
     exact ⟨eE, lU⟩
 ·rw [if_neg c3] at H
  have c3b0 : ((l0.length : Int) == (l1.length : Int)) = false := beq_eq_false_iff_ne.mpr c3
  have c3b1 : ((l0.length : Int) != (l1.length : Int)) = true := bne_iff_ne.mpr c3
  have c3b2 : (l0.length == l1.length) = false := by first | simpa using c3 | (simp at c3 ⊢; omega)
  obtain rfl := Option.some.inj H
  go_enter Try.func9, Try.ntmps9
  go_wp2
  go_ret
  exact ⟨eE, lU⟩
def laws_markByteS.l0 : Nat → List Int → Int → Int → Option (Int × List Int)
 | 0, _, _, _ => none
 | k + 1, x0, x1, x5 => if x5 < (x0.length : Int) then (if 0 ≤ x5 then (laws_markByteS.l0 k (x0.set (x5 : Int).toNat ((x1) % 256)) (wrap64 (x1 + 1)) (wrap64 (x5 + 1))) else (none)) else (some (x1, x0))
def laws_markByteS.f (k : Nat) (l0 : List Int) (a1 : Int) : Option (Int × List Int) := laws_markByteS.l0 k l0 a1 0
theorem laws_markByteS.mono_l : ∀ k, (∀ y0 y1 y2, LeO (laws_markByteS.l0 k y0 y1 y2) (laws_markByteS.l0 (k + 1) y0 y1 y2))
 | 0 => fun _ _ _ r h => by simp [laws_markByteS.l0] at h
 | k + 1 => by
  have ih0 := laws_markByteS.mono_l k
  ·intro y0 y1 y2
   unfold laws_markByteS.l0
   repeat' first
   | (with_reducible exact ih0 _ _ _)
   | (with_reducible exact LeO.refl _)
   | (with_reducible exact LeO.none _)
   | (with_reducible refine LeO.ite ?_ ?_)
   | (with_reducible refine LeO.bind ?_ (fun _ => ?_))
   | exact ih0 _ _ _
   | exact LeO.none _
   | refine LeO.ite ?_ ?_
   | refine LeO.bind ?_ (fun _ => ?_)
theorem laws_markByteS.mono : ∀ a0 a1 k, LeO (laws_markByteS.f k a0 a1) (laws_markByteS.f (k + 1) a0 a1) := by
 intro a0 a1 k
 have ih0 := laws_markByteS.mono_l k
 unfold laws_markByteS.f
 repeat' first
   | (with_reducible exact ih0 _ _ _)
   | (with_reducible exact LeO.refl _)
   | (with_reducible exact LeO.none _)
   | (with_reducible refine LeO.ite ?_ ?_)
   | (with_reducible refine LeO.bind ?_ (fun _ => ?_))
   | exact ih0 _ _ _
   | exact LeO.none _
   | refine LeO.ite ?_ ?_
   | refine LeO.bind ?_ (fun _ => ?_)
set_option maxHeartbeats 8000000 in
set_option maxRecDepth 100000 in
theorem laws_markByteS.calls (k : Nat) (P0_ : Nat → Prop) (u9000_ : Value) (l0 : List Int) (a1 : Int) (r1 : Int) (r2 : List Int) (w0 w : World) (hB : Below w0.heap.size w0 w) (ho0 : Kd.R (Kd.int .u8) 5 w w0.heap.size P0_ u9000_ l0) (h : laws_markByteS.f k l0 a1 = some (r1, r2)) :
  Calls Try.prog 11 #[u9000_, .int .i64 a1] w fun e w' => e = .returned (.int .i64 r1) ∧ Kd.R (Kd.int .u8) 5 w' w0.heap.size (fun k_ => (P0_ k_ ∨ w.heap.size ≤ k_)) u9000_ r2 ∧ Below w0.heap.size w0 w' ∧ Kept w w' (fun k_ => P0_ k_) := by
 have HO0 := Aside0.mk (show Kd.R (Kd.int .u8) 5 w w0.heap.size (fun k_ => (P0_ k_ ∨ w.heap.size ≤ k_)) u9000_ l0 from Kd.R_mono ho0 (fun k_ hk => (.inl hk)))
 have HK := Aside0.mk (Kept.refl w (fun k_ => P0_ k_))
 have HW0 := Aside0.mk hB.size
 have HB := Aside0.mk hB
 clear hB
 have H : (laws_markByteS.l0 k l0 a1 0) = some (r1, r2) := h
 clear h
 have H' := Aside0.mk H
 clear H
 go_enter Try.func11, Try.ntmps11
 go_wp2
 go_loopg [1, 5] k (fun kq v1 v5 w' => ∃ (x0_1 : List Int) (x1_1 : Int) (x5_1 : Int), v1 = .int .i64 x1_1 ∧ v5 = .int .i64 x5_1 ∧ Aside0 (laws_markByteS.l0 kq x0_1 x1_1 x5_1 = some (r1, r2)) ∧ Aside0 (kq ≤ k) ∧ Aside0 (Kd.R (Kd.int .u8) 5 w' w0.heap.size (fun k_ => (P0_ k_ ∨ w.heap.size ≤ k_)) u9000_ x0_1) ∧ Aside0 (Kept w w' (fun k_ => P0_ k_)) ∧ Aside0 (Below w0.heap.size w0 w'))
 case atStart => exact ⟨(l0), (a1), (0), tE, tE, H', ⟨Nat.le_refl _⟩, ⟨by (with_reducible repeat (first | apply Kd.R_alloc | apply Kd.R_drewN | apply Kd.R_drew)); exact HO0.out⟩, ⟨by repeat (first | (with_reducible first | exact HK.out | apply Kept.alloc | apply Kept.drewN | apply Kept.drew) | exact HK.out)⟩, ⟨by repeat (first | (with_reducible first | exact HB.out | apply below_alloc | apply pw_below_drewN | apply below_drew1) | exact HB.out)⟩⟩
 case round =>
  clear H'
  try clear c1
  try clear p2
  obtain ⟨x0_1, x1_1, x5_1, rfl, rfl, HA, HK1, HO_0, HK, HB⟩ := hrel
  cases gk with
  | zero => exact absurd HA.out (by simp [laws_markByteS.l0])
  | succ k1 =>
   have H := HA.out
   clear HA
   simp only [laws_markByteS.l0] at H
   by_cases c3 : x5_1 < (x0_1.length : Int)
   ·rw [if_pos c3] at H
    have c3b0 : decide (x5_1 < (x0_1.length : Int)) = true := decide_eq_true c3
    clear c3
    by_cases c4 : 0 ≤ x5_1
    ·rw [if_pos c4] at H
     have c4b0 : decide (0 ≤ x5_1) = true := decide_eq_true c4
     clear c4
     obtain ⟨y182, hy182⟩ : ∃ y_ : List Int, y_ = (x0_1.set (x5_1 : Int).toNat ((x1_1) % 256)) := ⟨_, rfl⟩
     replace H : (laws_markByteS.l0 k1 y182 (wrap64 (x1_1 + 1)) (wrap64 (x5_1 + 1))) = some (r1, r2) := by first | (rw [hy182]; with_reducible exact H) | (have H2_ := (Option.bind_some _ _).symm.trans H; rw [hy182]; with_reducible exact H2_) | (have H2_ := (Option.bind_some _ _).symm.trans H; with_reducible exact H2_) | with_reducible exact H | (rw [hy182]; exact H) | exact H
     have Ny182 := Aside0.mk hy182
     clear hy182
     have H' := Aside0.mk H
     clear H
     obtain ⟨Ao6, co6, eo6⟩ := Kd.R_slice HO_0.out
     subst eo6
     have p5 : 0 ≤ (x5_1 : Int) := of_decide_eq_true hE
     have q5 : (x5_1 : Int) < ((x0_1.length : Int) : Int) := of_decide_eq_true hE
     obtain ⟨go5, co5, eo5, gb5, gl5, cl5, HG5⟩ := Kd.R_form HO_0.out (by omega)
     (first | cases eo5 | (injection eo5 with ea_ en_ ec_; (first | subst ea_ | (injection ea_ with ea_; subst ea_)); subst ec_; clear en_))
     have GB5 := Aside0.mk gb5
     have GG5 := Aside0.mk HG5
     clear gb5 gl5 HG5
     have HMgo5 := Aside0.mk (show (P0_ go5 ∨ w.heap.size ≤ go5) from (HO_0.out.1 _ rfl))
     obtain ⟨hx5_0, hf5_0⟩ := Kd.R_celln 0 HO_0.out (x5_1 : Int) p5 q5
     replace p5 := eq_true p5
     replace q5 := eq_true q5
     have HP7 := Kd.R_putg HO_0.out (x5_1 : Int) ((x1_1) % 256)
     go_wp2_with (first | ((with_reducible refine gate_store (t := 5) (p := 16) rfl ?_); refine store_event (t := 5) (p := 16) (v := ?vo_w8) (w1 := (wr.setCell ⟨go5, (x5_1 : Int).toNat, none⟩ (.int .u8 ((x1_1) % 256)))) ?hg ?ho ?hn ?hr ?_; (case ho => rfl); (case hg => rfl); (case hn => rfl); (case hr => exact sE); intro w8 hw; have hg : wr.grownBy w8 (some go5) := (by rw [hw]; exact HP7.2); have hp_ : Kd.R (Kd.int .u8) 5 w8 w0.heap.size (fun k_ => (P0_ k_ ∨ w.heap.size ≤ k_)) (.slice (some ⟨go5, 0, none⟩) x0_1.length co6) y182 := (by rw [hw, Ny182.out]; exact HP7.1); clear HP7; replace HB := Aside0.mk ((by rw [hw]; exact below_set (HB.out) GB5.out : Below w0.heap.size w0 w8)); replace HK := Aside0.mk (Kept.of_grown (S := (fun k_ => P0_ k_)) hg (by repeat (first | (with_reducible first | exact HK.out | apply Kept.alloc | apply Kept.drewN | apply Kept.drew) | exact HK.out)) (fun k_ e_ => (HO_0.out.1 k_ e_))); replace HO_0 := Aside0.mk hp_; clear hg hw hp_))
     go_roundg k1
     case measure => have := HK1.out; omega
     case rel => exact ⟨(y182), (wrap64 (x1_1 + 1)), (wrap64 (x5_1 + 1)), tE, tE, H', ⟨by have := HK1.out; omega⟩, ⟨by (with_reducible repeat (first | apply Kd.R_alloc | apply Kd.R_drewN | apply Kd.R_drew)); exact HO_0.out⟩, ⟨by repeat (first | (with_reducible first | exact HK.out | apply Kept.alloc | apply Kept.drewN | apply Kept.drew) | exact HK.out)⟩, ⟨by repeat (first | (with_reducible first | exact HB.out | apply below_alloc | apply pw_below_drewN | apply below_drew1) | exact HB.out)⟩⟩
    ·rw [if_neg c4] at H
     exact absurd H (by simp)
   ·rw [if_neg c3] at H
    have c3b0 : decide (x5_1 < (x0_1.length : Int)) = false := decide_eq_false c3
    clear c3
    simp only [Option.some.injEq, Prod.mk.injEq] at H
    obtain ⟨rfl, rfl⟩ := H
    obtain ⟨Ao9, co9, eo9⟩ := Kd.R_slice HO_0.out
    subst eo9
    go_wp2
    go_ret
    exact ⟨eE, by (with_reducible repeat (first | apply Kd.R_alloc | apply Kd.R_drewN | apply Kd.R_drew)); exact HO_0.out, lU, by repeat (first | (with_reducible first | exact HK.out | apply Kept.alloc | apply Kept.drewN | apply Kept.drew) | exact HK.out)⟩
end Go.Proofs.Ytcpodjegdpbalaa.PFnExactPatchOf
