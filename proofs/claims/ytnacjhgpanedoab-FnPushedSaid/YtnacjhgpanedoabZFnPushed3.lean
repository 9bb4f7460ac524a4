/- Texts of a row. -/
import Derived.Test.YtnacjhgpanedoabZFnPushed0
import Derived.Lib.Bytealg
import Derived.Laws.Externs
import Derived.Laws.CopyOwn
import Derived.Lib.Overlaps
import Derived.Lib.AppendZerosOnto
import Derived.Laws.AppendOwn
import Derived.Test.YtnacjhgpanedoabZFnPushed1
import Derived.Test.YtnacjhgpanedoabProg
import Derived.Below
import Derived.Deep.Draws
import Derived.Deep.AppendLies
import Derived.Maps.AppendAt
import Derived.OwnWalk
import Derived.Laws.BytesArg
import Derived.Laws.MakeOwn
import Derived.Laws.OwnMore
import Derived.Deep.OwnRows
import Derived.Tactics
import Derived.Lib.ConvBytes
import Derived.Laws.Slices
import Derived.WalkKit
import Derived.KernelRfl
import Derived.RowKit3
import Derived.Deep.LoopGhost
import Derived.Deep.QuietTactic
import Derived.BigQuiet
import Derived.WideLaws
import Derived.Deep.DeepCutAuto
import Derived.Deep.CutBlock
import Derived.Deep.RegionHeld3
import Derived.Laws.Rows
import Derived.Lib.AppendStr
import Derived.ArgAppend
import Derived.Laws.IdiomCopy
import Derived.OrdersHeld
import Derived.Laws.BitsLemmas
import Derived.RowKit
import Derived.Laws.Cover1
import Derived.Test.YtnacjhgpanedoabZFnPushed2
namespace Go.Proofs.YtnacjhgpanedoabW.PrintWords
open Go.RowKit
namespace Kd
section
variable {α : Type} {d : Kd α} {e base : Nat} {ok : Nat → Prop} {W : World} {u : Value} {xs : List α} {PS : Nat → Prop} {L : List Nat}
end
end Kd
end Go.Proofs.YtnacjhgpanedoabW.PrintWords
namespace Go.Proofs.YtnacjhgpanedoabW.PrintWords
open Go.RowKit
end Go.Proofs.YtnacjhgpanedoabW.PrintWords
set_option linter.unusedSimpArgs false
set_option linter.unusedVariables false
namespace Go
end Go
namespace Go.Proofs.YtnacjhgpanedoabW.PrintWords
open Go.RowKit
namespace Kd
section
variable {P : Program} {α : Type}
def T (d : Kd α) (e : Nat) (W : World) (base : Nat) (ok : Nat → Prop) (g c : Nat) (pre : List α) : Prop :=
 ok g ∧ ∃ inner cur, base ≤ g ∧ W.heap[g]? = some (.cells cur e (0, 0)) ∧ cur.size = c * d.sz ∧ pre.length ≤ c ∧ c ≤ maxLen ∧ cur.toList.take (pre.length * d.sz) = inner ∧ Reps (d.M W base (fun k' => ok k' ∧ some k' ≠ some g)) d.sz pre inner
end
end Kd
end Go.Proofs.YtnacjhgpanedoabW.PrintWords
namespace Go.Proofs.YtnacjhgpanedoabW.PrintLast
section
variable {P : Program} {ops : Array Oper} {Q : Exit → Act → World → Prop} {md : Region.Mode} {S T : World → Prop} {ds : List Nat}
end
end Go.Proofs.YtnacjhgpanedoabW.PrintLast
namespace Go.Proofs.Ytnacjhgpanedoab.PFnPushed
open Go.RowKit Go.Proofs.YtnacjhgpanedoabW.PrintWords Go.Proofs.YtnacjhgpanedoabW.PrintLast Go.Proofs.YtnacjhgpanedoabW.PrintMore
attribute [local go_sem] max2_int min2_int max_two min_two max_three min_three max_four min_four   -- for this text's walks alone
set_option linter.unusedVariables false
set_option linter.unusedSimpArgs false
def errW : Option Int → Value
 | none => .nilIface
 | some c => .iface 0 (.int .i64 c)
theorem errW_none : errW none = .nilIface := rfl
theorem errW_some (c : Int) : errW (some c) = .iface 0 (.int .i64 c) := rfl
theorem info23 : (Try.prog.info? 23).map (fun i => (i.zero, i.size, i.bytes)) = some (some (.slice none 0 0), 1, 24) := by kernel_rfl
theorem info33 : (Try.prog.info? 33).map (fun i => (i.zero, i.size, i.bytes)) = some (some (.agg #[(.int .i64 0), (.int .i64 0), (.int .i64 0), (.int .i64 0)]), 4, 32) := by kernel_rfl
structure S33 where
 f0 : Int
 f1 : Int
 f2 : Int
 f3 : Int
def z33 : S33 := ⟨(0 : Int), (0 : Int), (0 : Int), (0 : Int)⟩
def k33 : Kd S33 := Kd.iso (Kd.pair (Kd.int .i64) (Kd.pair (Kd.int .i64) (Kd.pair (Kd.int .i64) (Kd.int .i64)))) (fun x : S33 => (x.f0, x.f1, x.f2, x.f3))
theorem k33_open {w : World} {x : S33} {cs : List Value} (h : k33.K w x cs) : cs = [.int .i64 x.f0, .int .i64 x.f1, .int .i64 x.f2, .int .i64 x.f3] := by
 obtain ⟨_, _, rfl, rfl, ⟨_, _, rfl, rfl, ⟨_, _, rfl, rfl, rfl⟩⟩⟩ := h
 exact rfl
theorem k33_openM {w : World} {base : Nat} {ok : Nat → Prop} {x : S33} {cs : List Value} (h : k33.M w base ok x cs) : cs = [.int .i64 x.f0, .int .i64 x.f1, .int .i64 x.f2, .int .i64 x.f3] := by
 obtain ⟨_, _, rfl, rfl, ⟨_, _, rfl, rfl, ⟨_, _, rfl, rfl, rfl⟩⟩⟩ := h
 exact rfl
theorem k33_mkM (w : World) (base : Nat) (ok : Nat → Prop) (x : S33)  : k33.M w base ok x [.int .i64 x.f0, .int .i64 x.f1, .int .i64 x.f2, .int .i64 x.f3] := ⟨[.int .i64 x.f0], [.int .i64 x.f1, .int .i64 x.f2, .int .i64 x.f3], rfl, rfl, ⟨[.int .i64 x.f1], [.int .i64 x.f2, .int .i64 x.f3], rfl, rfl, ⟨[.int .i64 x.f2], [.int .i64 x.f3], rfl, rfl, rfl⟩⟩⟩
def rd_T33 (xs : List S33) (i : Int) : S33 := xs.getD i.toNat z33
theorem at_T33 {w : World} {A : Option Addr} {n : Nat} {xs : List S33} (h : Kd.C k33 w A n xs) (i : Int) (h0 : 0 ≤ i) (h1 : i < n) : ∃ ad , A = some ad ∧ w.cell? (ad.add (i.toNat * 4)) = some (.int .i64 (rd_T33 xs i).f0) ∧ w.cell? ⟨(ad.add (i.toNat * 4)).block, (ad.add (i.toNat * 4)).off + 1, none⟩ = some (.int .i64 (rd_T33 xs i).f1) ∧ w.cell? ⟨(ad.add (i.toNat * 4)).block, (ad.add (i.toNat * 4)).off + 2, none⟩ = some (.int .i64 (rd_T33 xs i).f2) ∧ w.cell? ⟨(ad.add (i.toNat * 4)).block, (ad.add (i.toNat * 4)).off + 3, none⟩ = some (.int .i64 (rd_T33 xs i).f3) := by
 obtain ⟨ad, c, e, _, hK, hc0⟩ := Kd.C_get h z33 i h0 h1
 have hc : ∀ j u, c[j]? = some u → w.cell? (ad.add (i.toNat * 4 + j)) = some u := hc0
 obtain rfl := k33_open hK
 exact ⟨ad, e, hc 0 _ rfl, by rw [← add_field _ _ 1 (by omega)]; exact hc 1 _ rfl, by rw [← add_field _ _ 2 (by omega)]; exact hc 2 _ rfl, by rw [← add_field _ _ 3 (by omega)]; exact hc 3 _ rfl⟩
def rd_L3 (xs : List (List S33)) (i : Int) : (List S33) := xs.getD i.toNat ([] : List S33)
theorem at_L3 {w : World} {A : Option Addr} {n : Nat} {xs : List (List S33)} (h : Kd.C (Kd.slice 33 k33) w A n xs) (i : Int) (h0 : 0 ≤ i) (h1 : i < n) : ∃ ad A0 c0, A = some ad ∧ w.cell? (ad.add i.toNat) = some (.slice A0 (rd_L3 xs i).length c0) ∧ (rd_L3 xs i).length ≤ c0 ∧ k33.C w A0 (rd_L3 xs i).length (rd_L3 xs i) := by
 obtain ⟨ad, c, e, _, hK, hc0⟩ := Kd.C_get h ([] : List S33) i h0 h1
 have hc : ∀ j u, c[j]? = some u → w.cell? (ad.add (i.toNat * 1 + j)) = some u := hc0
 obtain ⟨A0, c0, rfl, l0, g0⟩ := hK
 exact ⟨ad, A0, c0, e, by have hq := hc 0 _ rfl; rwa [Nat.mul_one, Nat.add_zero] at hq, l0, g0⟩
end Go.Proofs.Ytnacjhgpanedoab.PFnPushed
namespace Go.Proofs.Ytnacjhgpanedoab.PFnPushed
open Go.RowKit Go.Proofs.YtnacjhgpanedoabW.PrintWords Go.Proofs.YtnacjhgpanedoabW.PrintLast Go.Proofs.YtnacjhgpanedoabW.PrintMore
attribute [local go_sem] max2_int min2_int max_two min_two max_three min_three max_four min_four   -- for this text's walks alone
set_option linter.unusedVariables false
set_option linter.unusedSimpArgs false
theorem eqA33 (d : Nat) (w : World) (x0 y0 : Int) (x1 y1 : Int) (x2 y2 : Int) (x3 y3 : Int) :
  (Op.equalIn (d + 2) 33 (.agg #[.int .i64 x0, .int .i64 x1, .int .i64 x2, .int .i64 x3]) (.agg #[.int .i64 y0, .int .i64 y1, .int .i64 y2, .int .i64 y3])).run Try.prog w = .ok (x0 == y0 && (x1 == y1 && (x2 == y2 && (x3 == y3)))) w := by
 refine eqA_of Try.underlying33 (by kernel_rfl) ?_
 refine eqf_cons (by rfl) (by go_simp; rfl) (by go_simp; rfl) (by go_simp) ?_
 refine eqf_cons (by rfl) (by go_simp; rfl) (by go_simp; rfl) (by go_simp) ?_
 refine eqf_cons (by rfl) (by go_simp; rfl) (by go_simp; rfl) (by go_simp) ?_
 exact eqf_last (by rfl) (by go_simp; rfl) (by go_simp; rfl) (by go_simp)
end Go.Proofs.Ytnacjhgpanedoab.PFnPushed
namespace Go.Proofs.Ytnacjhgpanedoab.PFnPushed
open Go.RowKit Go.Proofs.YtnacjhgpanedoabW.PrintWords Go.Proofs.YtnacjhgpanedoabW.PrintLast Go.Proofs.YtnacjhgpanedoabW.PrintMore
attribute [local go_sem] max2_int min2_int max_two min_two max_three min_three max_four min_four   -- for this text's walks alone
set_option linter.unusedVariables false
set_option linter.unusedSimpArgs false
def IsS45 (w0 W : World) (g : Nat) (f0 : List Int) (f1 : Int) (f2 : Int) : Prop := ∃ A0 c0, W.heap[g]? = some (.cells #[.slice A0 f0.length c0, .int .i64 f1, .int .u64 f2] 45 (0, 0)) ∧ w0.heap.size ≤ g ∧ Kd.C (Kd.int .u8) w0 A0 f0.length f0
theorem IsS45.grown {w0 W : World} {g : Nat} {f0 : List Int} {f1 : Int} {f2 : Int} {W1 : World} {row : Option Nat} (h : IsS45 w0 W g f0 f1 f2) (hw : W.grownBy W1 row) (hne : some g ≠ row) : IsS45 w0 W1 g f0 f1 f2 := by
 obtain ⟨A0, c0, hb, hg, hr0⟩ := h
 exact ⟨A0, c0, blk_grown hb hw hne, hg, hr0⟩
theorem IsS45.kept {w0 W : World} {g : Nat} {f0 : List Int} {f1 : Int} {f2 : Int} {W1 : World} {S : Nat → Prop} (h : IsS45 w0 W g f0 f1 f2) (hk : Kept W W1 S) (hne : ¬ S g) : IsS45 w0 W1 g f0 f1 f2 := by
 obtain ⟨A0, c0, hb, hg, hr0⟩ := h
 exact ⟨A0, c0, blk_kept hb hk hne, hg, hr0⟩
theorem IsS45.below {w0 W : World} {g : Nat} {f0 : List Int} {f1 : Int} {f2 : Int} {W1 : World} (h : IsS45 w0 W g f0 f1 f2) (hw : Below W.heap.size W W1) : IsS45 w0 W1 g f0 f1 f2 := h.grown (grown_of_below hw none) (by simp)
theorem IsS45.alloc {w0 W : World} {g : Nat} {f0 : List Int} {f1 : Int} {f2 : Int} (h : IsS45 w0 W g f0 f1 f2) (o : Obj) : IsS45 w0 (W.alloc o) g f0 f1 f2 := h.below (below_alloc (Below.refl _ _) o)
theorem IsS45.drewN {w0 W : World} {g : Nat} {f0 : List Int} {f1 : Int} {f2 : Int} (h : IsS45 w0 W g f0 f1 f2) (m : Nat) : IsS45 w0 (W.drewN m) g f0 f1 f2 := h
theorem IsS45.drew {w0 W : World} {g : Nat} {f0 : List Int} {f1 : Int} {f2 : Int} (h : IsS45 w0 W g f0 f1 f2) : IsS45 w0 W.drew g f0 f1 f2 := h
theorem IsS45.at_ {w0 W : World} {g : Nat} {f0 : List Int} {f1 : Int} {f2 : Int} {w' : World} {m : Nat} (hq : W.drewN m = w') (h : IsS45 w0 W g f0 f1 f2) : IsS45 w0 w' g f0 f1 f2 := by subst hq; exact IsS45.drewN h m
theorem IsS45.apart {w0 W : World} {g : Nat} {f0 : List Int} {f1 : Int} {f2 : Int} {α : Type} {d : Kd α} {e : Nat} {base : Nat} {ok : Nat → Prop} {v : Value} {xs : List α} (h : IsS45 w0 W g f0 f1 f2) (ho : d.R e W base ok v xs) (ht : ∀ q, q ∈ e :: d.E → q ≠ 45) : d.R e W base (fun k => ok k ∧ k ≠ g) v xs := by
 obtain ⟨A0, c0, hb, hg, hr0⟩ := h
 exact Kd.R_types ho hb ht
theorem IsS45.own_ne {w0 W : World} {g : Nat} {f0 : List Int} {f1 : Int} {f2 : Int} {α : Type} {d : Kd α} {e : Nat} {base : Nat} {ok : Nat → Prop} {v : Value} {xs : List α} (h : IsS45 w0 W g f0 f1 f2) (ho : d.R e W base ok v xs) (ht : e ≠ 45) : some g ≠ v.ownBlock := by
 obtain ⟨A0, c0, hb, hg, hr0⟩ := h
 exact Kd.R_ne ho hb ht
theorem IsS45.apartS {w0 W : World} {g : Nat} {f0 : List Int} {f1 : Int} {f2 : Int} {α : Type} {d : Kd α} {e : Nat} {base : Nat} {ok : Nat → Prop} {v : Value} {xs : List α} (h : IsS45 w0 W g f0 f1 f2) (ho : d.S e W base ok v xs) (ht : ∀ q, q ∈ e :: d.E → q ≠ 45) : d.S e W base (fun k => ok k ∧ k ≠ g) v xs := by
 obtain ⟨A0, c0, hb, hg, hr0⟩ := h
 exact Kd.S_types ho hb ht
theorem IsS45.own_neS {w0 W : World} {g : Nat} {f0 : List Int} {f1 : Int} {f2 : Int} {α : Type} {d : Kd α} {e : Nat} {base : Nat} {ok : Nat → Prop} {v : Value} {xs : List α} (h : IsS45 w0 W g f0 f1 f2) (ho : d.S e W base ok v xs) (ht : e ≠ 45) : some g ≠ v.ownBlock := by
 obtain ⟨A0, c0, hb, hg, hr0⟩ := h
 exact Kd.S_ne ho hb ht
theorem IsS45.lt {w0 W : World} {g : Nat} {f0 : List Int} {f1 : Int} {f2 : Int} (h : IsS45 w0 W g f0 f1 f2) : g < W.heap.size := by
 obtain ⟨A0, c0, hb, hg, hr0⟩ := h
 exact blk_lt hb
theorem IsS45.ge {w0 W : World} {g : Nat} {f0 : List Int} {f1 : Int} {f2 : Int} (h : IsS45 w0 W g f0 f1 f2) : w0.heap.size ≤ g := by
 obtain ⟨A0, c0, hb, hg, hr0⟩ := h
 exact hg
theorem IsS45.far {w0 W : World} {g : Nat} {f0 : List Int} {f1 : Int} {f2 : Int} {p : Addr} (h : IsS45 w0 W g f0 f1 f2) (hne : g ≠ p.block) (u : Value) : IsS45 w0 (W.setCell p u) g f0 f1 f2 := by
 obtain ⟨A0, c0, hb, hg, hr0⟩ := h
 exact ⟨A0, c0, blk_far hb hne u, hg, hr0⟩
theorem cellS45_0 {W : World} {g : Nat} {A0 : Option Addr} {c0 : Nat} {f0 : List Int} {f1 : Int} {f2 : Int} (h : W.heap[g]? = some (.cells #[.slice A0 f0.length c0, .int .i64 f1, .int .u64 f2] 45 (0, 0))) : W.cell? ⟨g, 0, none⟩ = some (.slice A0 f0.length c0) := (blk_cell h 0).trans rfl
theorem cellS45_1 {W : World} {g : Nat} {A0 : Option Addr} {c0 : Nat} {f0 : List Int} {f1 : Int} {f2 : Int} (h : W.heap[g]? = some (.cells #[.slice A0 f0.length c0, .int .i64 f1, .int .u64 f2] 45 (0, 0))) : W.cell? ⟨g, 1, none⟩ = some (.int .i64 f1) := (blk_cell h 1).trans rfl
theorem IsS45.set_1 {w0 W : World} {g : Nat} {f0 : List Int} {f1 : Int} {f2 : Int} (h : IsS45 w0 W g f0 f1 f2) (x : Int) : IsS45 w0 (W.setCell ⟨g, 1, none⟩ (.int .i64 x)) g f0 x f2 := by
 obtain ⟨A0, c0, hb, hg, hr0⟩ := h
 exact ⟨A0, c0, by simpa using blk_set hb 1 (.int .i64 x), hg, hr0⟩
theorem cellS45_2 {W : World} {g : Nat} {A0 : Option Addr} {c0 : Nat} {f0 : List Int} {f1 : Int} {f2 : Int} (h : W.heap[g]? = some (.cells #[.slice A0 f0.length c0, .int .i64 f1, .int .u64 f2] 45 (0, 0))) : W.cell? ⟨g, 2, none⟩ = some (.int .u64 f2) := (blk_cell h 2).trans rfl
theorem IsS45.set_2 {w0 W : World} {g : Nat} {f0 : List Int} {f1 : Int} {f2 : Int} (h : IsS45 w0 W g f0 f1 f2) (x : Int) : IsS45 w0 (W.setCell ⟨g, 2, none⟩ (.int .u64 x)) g f0 f1 x := by
 obtain ⟨A0, c0, hb, hg, hr0⟩ := h
 exact ⟨A0, c0, by simpa using blk_set hb 2 (.int .u64 x), hg, hr0⟩
def spec_l1Cur_next.f (s0_0 : List Int) (s0_1 : Int) (s0_2 : Int) : Option (Int × Int × Int) := if s0_1 < (s0_0.length : Int) then (if 0 ≤ s0_1 then (if (wrap64 (s0_1 + 1)) ≤ (s0_0.length : Int) then (some (wrap64 (rd s0_0 s0_1), wrap64 (s0_1 + 1), IntKind.u64.wrap ((IntKind.u64.wrap ((IntKind.u64.wrap (s0_2 * 6364136223846793005)) + (IntKind.u64.wrap (wrap64 (rd s0_0 s0_1))))) + 1442695040888963407))) else (some (wrap64 (Go.bits .and .u64 ((IntKind.u64.wrap ((IntKind.u64.wrap ((IntKind.u64.wrap (s0_2 * 6364136223846793005)) + (IntKind.u64.wrap (wrap64 (rd s0_0 s0_1))))) + 1442695040888963407)) / 1099511627776) 255), wrap64 (s0_1 + 1), IntKind.u64.wrap ((IntKind.u64.wrap ((IntKind.u64.wrap (s0_2 * 6364136223846793005)) + (IntKind.u64.wrap (wrap64 (rd s0_0 s0_1))))) + 1442695040888963407)))) else (none)) else (if (wrap64 (s0_1 + 1)) ≤ (s0_0.length : Int) then (some (0, wrap64 (s0_1 + 1), IntKind.u64.wrap ((IntKind.u64.wrap ((IntKind.u64.wrap (s0_2 * 6364136223846793005)))) + 1442695040888963407))) else (some (wrap64 (Go.bits .and .u64 ((IntKind.u64.wrap ((IntKind.u64.wrap ((IntKind.u64.wrap (s0_2 * 6364136223846793005)))) + 1442695040888963407)) / 1099511627776) 255), wrap64 (s0_1 + 1), IntKind.u64.wrap ((IntKind.u64.wrap ((IntKind.u64.wrap (s0_2 * 6364136223846793005)))) + 1442695040888963407))))
set_option maxHeartbeats 8000000 in
set_option maxRecDepth 100000 in
theorem spec_l1Cur_next.calls (g : Nat) (s0_0 : List Int) (s0_1 : Int) (s0_2 : Int) (r1 : Int) (r2 : Int) (r3 : Int) (w0 w : World) (hI : IsS45 w0 w g s0_0 s0_1 s0_2) (hB : Below w0.heap.size w0 w) (h : spec_l1Cur_next.f s0_0 s0_1 s0_2 = some (r1, r2, r3)) :
  Calls Try.prog 28 #[.pointer (some ⟨g, 0, none⟩)] w fun e w' => e = .returned (.int .i64 r1) ∧ IsS45 w0 w' g s0_0 r2 r3 ∧ Below w0.heap.size w0 w' ∧ KeepBut w w' g none := by
 have HI0 := Aside0.mk hI
 have HK := Aside0.mk (KeepBut.refl w g none)
 have HL := Aside0.mk hB.size
 clear hI
 have HW0 := Aside0.mk hB.size
 have HB := Aside0.mk hB
 clear hB
 have H : (if s0_1 < (s0_0.length : Int) then (if 0 ≤ s0_1 then (if (wrap64 (s0_1 + 1)) ≤ (s0_0.length : Int) then (some (wrap64 (rd s0_0 s0_1), wrap64 (s0_1 + 1), IntKind.u64.wrap ((IntKind.u64.wrap ((IntKind.u64.wrap (s0_2 * 6364136223846793005)) + (IntKind.u64.wrap (wrap64 (rd s0_0 s0_1))))) + 1442695040888963407))) else (some (wrap64 (Go.bits .and .u64 ((IntKind.u64.wrap ((IntKind.u64.wrap ((IntKind.u64.wrap (s0_2 * 6364136223846793005)) + (IntKind.u64.wrap (wrap64 (rd s0_0 s0_1))))) + 1442695040888963407)) / 1099511627776) 255), wrap64 (s0_1 + 1), IntKind.u64.wrap ((IntKind.u64.wrap ((IntKind.u64.wrap (s0_2 * 6364136223846793005)) + (IntKind.u64.wrap (wrap64 (rd s0_0 s0_1))))) + 1442695040888963407)))) else (none)) else (if (wrap64 (s0_1 + 1)) ≤ (s0_0.length : Int) then (some (0, wrap64 (s0_1 + 1), IntKind.u64.wrap ((IntKind.u64.wrap ((IntKind.u64.wrap (s0_2 * 6364136223846793005)))) + 1442695040888963407))) else (some (wrap64 (Go.bits .and .u64 ((IntKind.u64.wrap ((IntKind.u64.wrap ((IntKind.u64.wrap (s0_2 * 6364136223846793005)))) + 1442695040888963407)) / 1099511627776) 255), wrap64 (s0_1 + 1), IntKind.u64.wrap ((IntKind.u64.wrap ((IntKind.u64.wrap (s0_2 * 6364136223846793005)))) + 1442695040888963407))))) = some (r1, r2, r3) := h
 clear h
 by_cases c2 : s0_1 < (s0_0.length : Int)
 ·rw [if_pos c2] at H
  have c2b0 : decide (s0_1 < (s0_0.length : Int)) = true := decide_eq_true c2
  clear c2
  by_cases c3 : 0 ≤ s0_1
  ·rw [if_pos c3] at H
   have c3b0 : decide (0 ≤ s0_1) = true := decide_eq_true c3
   clear c3
   by_cases c4 : (wrap64 (s0_1 + 1)) ≤ (s0_0.length : Int)
   ·rw [if_pos c4] at H
    have c4b0 : decide ((wrap64 (s0_1 + 1)) ≤ (s0_0.length : Int)) = true := decide_eq_true c4
    clear c4
    simp only [Option.some.injEq, Prod.mk.injEq] at H
    obtain ⟨rfl, rfl, rfl⟩ := H
    obtain ⟨ASz5_0, cSz5_0, HGz5, hgz5, HSz5_0⟩ := HI0.out
    have hcz5_0 := cellS45_0 HGz5
    have hcz5_1 := cellS45_1 HGz5
    have hcz5_2 := cellS45_2 HGz5
    have hfz5_1 := blk_frozen HGz5 1
    have hfz5_2 := blk_frozen HGz5 2
    clear HGz5 hgz5
    have p101 : 0 ≤ (s0_1 : Int) := of_decide_eq_true hE
    have q101 : s0_1 < (s0_0.length : Int) := of_decide_eq_true hE
    obtain ⟨ad101, e101, hx101_0⟩ := Kd.at_int HSz5_0 s0_1 p101 q101
    cases e101
    replace hx101_0 := pw_cell_below HB.out hx101_0
    replace p101 := eq_true p101
    replace q101 := eq_true q101
    go_enter Try.func28, Try.ntmps28
    go_wp2
    repeat (go_quiet (fail); try go_wp2)
    go_ret
    exact ⟨eE, iI45_0_12_0, lI45_0_0, kI0⟩
   ·rw [if_neg c4] at H
    have c4b0 : decide ((wrap64 (s0_1 + 1)) ≤ (s0_0.length : Int)) = false := decide_eq_false c4
    clear c4
    simp only [Option.some.injEq, Prod.mk.injEq] at H
    obtain ⟨rfl, rfl, rfl⟩ := H
    obtain ⟨ASz6_0, cSz6_0, HGz6, hgz6, HSz6_0⟩ := HI0.out
    have hcz6_0 := cellS45_0 HGz6
    have hcz6_1 := cellS45_1 HGz6
    have hcz6_2 := cellS45_2 HGz6
    have hfz6_1 := blk_frozen HGz6 1
    have hfz6_2 := blk_frozen HGz6 2
    clear HGz6 hgz6
    have p101 : 0 ≤ (s0_1 : Int) := of_decide_eq_true hE
    have q101 : s0_1 < (s0_0.length : Int) := of_decide_eq_true hE
    obtain ⟨ad101, e101, hx101_0⟩ := Kd.at_int HSz6_0 s0_1 p101 q101
    cases e101
    replace hx101_0 := pw_cell_below HB.out hx101_0
    replace p101 := eq_true p101
    replace q101 := eq_true q101
    go_enter Try.func28, Try.ntmps28
    go_wp2
    repeat (go_quiet (fail); try go_wp2)
    go_ret
    exact ⟨eE, iI45_0_12_0, lI45_0_0, kI0⟩
  ·rw [if_neg c3] at H
   exact absurd H (by simp)
 ·rw [if_neg c2] at H
  have c2b0 : decide (s0_1 < (s0_0.length : Int)) = false := decide_eq_false c2
  clear c2
  by_cases c7 : (wrap64 (s0_1 + 1)) ≤ (s0_0.length : Int)
  ·rw [if_pos c7] at H
   have c7b0 : decide ((wrap64 (s0_1 + 1)) ≤ (s0_0.length : Int)) = true := decide_eq_true c7
   clear c7
   simp only [Option.some.injEq, Prod.mk.injEq] at H
   obtain ⟨rfl, rfl, rfl⟩ := H
   obtain ⟨ASz8_0, cSz8_0, HGz8, hgz8, HSz8_0⟩ := HI0.out
   have hcz8_0 := cellS45_0 HGz8
   have hcz8_1 := cellS45_1 HGz8
   have hcz8_2 := cellS45_2 HGz8
   have hfz8_1 := blk_frozen HGz8 1
   have hfz8_2 := blk_frozen HGz8 2
   clear HGz8 hgz8
   go_enter Try.func28, Try.ntmps28
   go_wp2
   repeat (go_quiet (fail); try go_wp2)
   go_ret
   exact ⟨eE, iI45_0_12_0, lI45_0_0, kI0⟩
  ·rw [if_neg c7] at H
   have c7b0 : decide ((wrap64 (s0_1 + 1)) ≤ (s0_0.length : Int)) = false := decide_eq_false c7
   clear c7
   simp only [Option.some.injEq, Prod.mk.injEq] at H
   obtain ⟨rfl, rfl, rfl⟩ := H
   obtain ⟨ASz9_0, cSz9_0, HGz9, hgz9, HSz9_0⟩ := HI0.out
   have hcz9_0 := cellS45_0 HGz9
   have hcz9_1 := cellS45_1 HGz9
   have hcz9_2 := cellS45_2 HGz9
   have hfz9_1 := blk_frozen HGz9 1
   have hfz9_2 := blk_frozen HGz9 2
   clear HGz9 hgz9
   go_enter Try.func28, Try.ntmps28
   go_wp2
   repeat (go_quiet (fail); try go_wp2)
   go_ret
   exact ⟨eE, iI45_0_12_0, lI45_0_0, kI0⟩
def spec_l1Cur_pick.f (s0_0 : List Int) (s0_1 : Int) (s0_2 : Int) (a1 : Int) : Option (Int × Int × Int) := if a1 ≤ 1 then (some (0, s0_1, s0_2)) else ((spec_l1Cur_next.f s0_0 s0_1 s0_2).bind fun bt102 => (if a1 > 200 then ((spec_l1Cur_next.f s0_0 bt102.2.1 bt102.2.2).bind fun bt105 => (if a1 = 0 then (none) else (some (Int.tmod (wrap64 ((wrap64 (bt102.1 * 256)) + bt105.1)) a1, bt105.2.1, bt105.2.2)))) else (if a1 = 0 then (none) else (some (Int.tmod bt102.1 a1, bt102.2.1, bt102.2.2)))))
set_option maxHeartbeats 8000000 in
set_option maxRecDepth 100000 in
theorem spec_l1Cur_pick.calls (g : Nat) (s0_0 : List Int) (s0_1 : Int) (s0_2 : Int) (a1 : Int) (r1 : Int) (r2 : Int) (r3 : Int) (w0 w : World) (hI : IsS45 w0 w g s0_0 s0_1 s0_2) (hB : Below w0.heap.size w0 w) (h : spec_l1Cur_pick.f s0_0 s0_1 s0_2 a1 = some (r1, r2, r3)) :
  Calls Try.prog 14 #[.pointer (some ⟨g, 0, none⟩), .int .i64 a1] w fun e w' => e = .returned (.int .i64 r1) ∧ IsS45 w0 w' g s0_0 r2 r3 ∧ Below w0.heap.size w0 w' ∧ KeepBut w w' g none := by
 have HI0 := Aside0.mk hI
 have HK := Aside0.mk (KeepBut.refl w g none)
 have HL := Aside0.mk hB.size
 clear hI
 have HW0 := Aside0.mk hB.size
 have HB := Aside0.mk hB
 clear hB
 have H : (if a1 ≤ 1 then (some (0, s0_1, s0_2)) else ((spec_l1Cur_next.f s0_0 s0_1 s0_2).bind fun bt102 => (if a1 > 200 then ((spec_l1Cur_next.f s0_0 bt102.2.1 bt102.2.2).bind fun bt105 => (if a1 = 0 then (none) else (some (Int.tmod (wrap64 ((wrap64 (bt102.1 * 256)) + bt105.1)) a1, bt105.2.1, bt105.2.2)))) else (if a1 = 0 then (none) else (some (Int.tmod bt102.1 a1, bt102.2.1, bt102.2.2)))))) = some (r1, r2, r3) := h
 clear h
 by_cases c3 : a1 ≤ 1
 ·rw [if_pos c3] at H
  have c3b0 : decide (a1 ≤ 1) = true := decide_eq_true c3
  clear c3
  simp only [Option.some.injEq, Prod.mk.injEq] at H
  obtain ⟨rfl, rfl, rfl⟩ := H
  go_enter Try.func14, Try.ntmps14
  go_wp2
  go_ret
  exact ⟨eE, iI45_0_12_0, lI45_0_0, kI0⟩
 ·rw [if_neg c3] at H
  have c3b0 : decide (a1 ≤ 1) = false := decide_eq_false c3
  clear c3
  replace H := Option.bind_eq_some_iff.mp H
  obtain ⟨⟨t102, t103, t104⟩, A40, H⟩ := H
  replace H : (if a1 > 200 then ((spec_l1Cur_next.f s0_0 t103 t104).bind fun bt105 => (if a1 = 0 then (none) else (some (Int.tmod (wrap64 ((wrap64 (t102 * 256)) + bt105.1)) a1, bt105.2.1, bt105.2.2)))) else (if a1 = 0 then (none) else (some (Int.tmod t102 a1, t103, t104)))) = some (r1, r2, r3) := H
  have A4 := Aside0.mk A40
  clear A40
  by_cases c5 : a1 > 200
  ·rw [if_pos c5] at H
   have c5b0 : decide (200 < a1) = true := decide_eq_true c5
   clear c5
   replace H := Option.bind_eq_some_iff.mp H
   obtain ⟨⟨t105, t106, t107⟩, A60, H⟩ := H
   replace H : (if a1 = 0 then (none) else (some (Int.tmod (wrap64 ((wrap64 (t102 * 256)) + t105)) a1, t106, t107))) = some (r1, r2, r3) := H
   have A6 := Aside0.mk A60
   clear A60
   by_cases c7 : a1 = 0
   ·rw [if_pos c7] at H
    exact absurd H (by simp)
   ·rw [if_neg c7] at H
    have c7b0 : (a1 == 0) = false := beq_eq_false_iff_ne.mpr c7
    have c7b1 : (a1 != 0) = true := bne_iff_ne.mpr c7
    simp only [Option.some.injEq, Prod.mk.injEq] at H
    obtain ⟨rfl, rfl, rfl⟩ := H
    go_enter Try.func14, Try.ntmps14
    go_wp2_with (first | ((with_reducible refine gate_callee (f := 28) rfl ?_); refine goesL_ (some 9) rfl rfl Try.func28 (by kernel_rfl) rfl #[.pointer (some ⟨g, 0, none⟩)] rfl aE ?_; (with_reducible refine (spec_l1Cur_next.calls g s0_0 s0_1 s0_2 t102 t103 t104 w0 _ ?side1 ?side2 A4.out).mono ?_); (case side1 => exact iI45_0_12_0); (case side2 => exact lI45_0_0); rintro e w8 ⟨rfl, hi, hb, hk⟩; refine ⟨_, rfl, ?_⟩; replace HK := Aside0.mk (KeepBut.trans (kI0) hk (.inl rfl)); replace HB := Aside0.mk hb; replace HI0 := Aside0.mk hi; (try clear hb); (try clear hk); (try clear hi)) | ((with_reducible refine gate_callee (f := 28) rfl ?_); refine goesL_ (some 15) rfl rfl Try.func28 (by kernel_rfl) rfl #[.pointer (some ⟨g, 0, none⟩)] rfl aE ?_; (with_reducible refine (spec_l1Cur_next.calls g s0_0 t103 t104 t105 t106 t107 w0 _ ?side1 ?side2 A6.out).mono ?_); (case side1 => exact iI45_0_12_0); (case side2 => exact lI45_0_0); rintro e w9 ⟨rfl, hi, hb, hk⟩; refine ⟨_, rfl, ?_⟩; replace HK := Aside0.mk (KeepBut.trans (kI0) hk (.inl rfl)); replace HB := Aside0.mk hb; replace HI0 := Aside0.mk hi; (try clear hb); (try clear hk); (try clear hi)))
    go_ret
    exact ⟨eE, iI45_0_12_0, lI45_0_0, kI0⟩
  ·rw [if_neg c5] at H
   have c5b0 : decide (200 < a1) = false := decide_eq_false c5
   clear c5
   by_cases c10 : a1 = 0
   ·rw [if_pos c10] at H
    exact absurd H (by simp)
   ·rw [if_neg c10] at H
    have c10b0 : (a1 == 0) = false := beq_eq_false_iff_ne.mpr c10
    have c10b1 : (a1 != 0) = true := bne_iff_ne.mpr c10
    simp only [Option.some.injEq, Prod.mk.injEq] at H
    obtain ⟨rfl, rfl, rfl⟩ := H
    go_enter Try.func14, Try.ntmps14
    go_wp2_with (first | ((with_reducible refine gate_callee (f := 28) rfl ?_); refine goesL_ (some 9) rfl rfl Try.func28 (by kernel_rfl) rfl #[.pointer (some ⟨g, 0, none⟩)] rfl aE ?_; (with_reducible refine (spec_l1Cur_next.calls g s0_0 s0_1 s0_2 t102 t103 t104 w0 _ ?side1 ?side2 A4.out).mono ?_); (case side1 => exact iI45_0_12_0); (case side2 => exact lI45_0_0); rintro e w11 ⟨rfl, hi, hb, hk⟩; refine ⟨_, rfl, ?_⟩; replace HK := Aside0.mk (KeepBut.trans (kI0) hk (.inl rfl)); replace HB := Aside0.mk hb; replace HI0 := Aside0.mk hi; (try clear hb); (try clear hk); (try clear hi)))
    go_ret
    exact ⟨eE, iI45_0_12_0, lI45_0_0, kI0⟩
def spec_l1Cur_one.f (s0_0 : List Int) (s0_1 : Int) (s0_2 : Int) (a1 : Int) : Option (Bool × Int × Int) := (spec_l1Cur_pick.f s0_0 s0_1 s0_2 a1).bind fun bt108 => (some ((bt108.1 == 0), bt108.2.1, bt108.2.2))
set_option maxHeartbeats 8000000 in
set_option maxRecDepth 100000 in
theorem spec_l1Cur_one.calls (g : Nat) (s0_0 : List Int) (s0_1 : Int) (s0_2 : Int) (a1 : Int) (r1 : Bool) (r2 : Int) (r3 : Int) (w0 w : World) (hI : IsS45 w0 w g s0_0 s0_1 s0_2) (hB : Below w0.heap.size w0 w) (h : spec_l1Cur_one.f s0_0 s0_1 s0_2 a1 = some (r1, r2, r3)) :
  Calls Try.prog 15 #[.pointer (some ⟨g, 0, none⟩), .int .i64 a1] w fun e w' => e = .returned (.bool r1) ∧ IsS45 w0 w' g s0_0 r2 r3 ∧ Below w0.heap.size w0 w' ∧ KeepBut w w' g none := by
 have HI0 := Aside0.mk hI
 have HK := Aside0.mk (KeepBut.refl w g none)
 have HL := Aside0.mk hB.size
 clear hI
 have HW0 := Aside0.mk hB.size
 have HB := Aside0.mk hB
 clear hB
 have H : ((spec_l1Cur_pick.f s0_0 s0_1 s0_2 a1).bind fun bt108 => (some ((bt108.1 == 0), bt108.2.1, bt108.2.2))) = some (r1, r2, r3) := h
 clear h
 replace H := Option.bind_eq_some_iff.mp H
 obtain ⟨⟨t108, t109, t110⟩, A30, H⟩ := H
 replace H : (some ((t108 == 0), t109, t110)) = some (r1, r2, r3) := H
 have A3 := Aside0.mk A30
 clear A30
 simp only [Option.some.injEq, Prod.mk.injEq] at H
 obtain ⟨rfl, rfl, rfl⟩ := H
 go_enter Try.func15, Try.ntmps15
 go_wp2_with (first | ((with_reducible refine gate_callee (f := 14) rfl ?_); refine goesL_ (some 7) rfl rfl Try.func14 (by kernel_rfl) rfl #[.pointer (some ⟨g, 0, none⟩), .int .i64 a1] rfl aE ?_; (with_reducible refine (spec_l1Cur_pick.calls g s0_0 s0_1 s0_2 a1 t108 t109 t110 w0 _ ?side1 ?side2 A3.out).mono ?_); (case side1 => exact iI45_0_12_0); (case side2 => exact lI45_0_0); rintro e w4 ⟨rfl, hi, hb, hk⟩; refine ⟨_, rfl, ?_⟩; replace HK := Aside0.mk (KeepBut.trans (kI0) hk (.inl rfl)); replace HB := Aside0.mk hb; replace HI0 := Aside0.mk hi; (try clear hb); (try clear hk); (try clear hi)))
 go_ret
 exact ⟨eE, iI45_0_12_0, lI45_0_0, kI0⟩
def spec_l1Cur_among.f (s0_0 : List Int) (s0_1 : Int) (s0_2 : Int) (l1 : List Int) : Option (Int × Int × Int) := (spec_l1Cur_pick.f s0_0 s0_1 s0_2 (l1.length : Int)).bind fun bt111 => (if 0 ≤ bt111.1 then (if bt111.1 < (l1.length : Int) then (some (rd l1 bt111.1, bt111.2.1, bt111.2.2)) else (none)) else (none))
set_option maxHeartbeats 8000000 in
set_option maxRecDepth 100000 in
theorem spec_l1Cur_among.calls (g : Nat) (s0_0 : List Int) (s0_1 : Int) (s0_2 : Int) (A1 : Option Addr) (c1 : Nat) (l1 : List Int) (r1 : Int) (r2 : Int) (r3 : Int) (w0 w : World) (hI : IsS45 w0 w g s0_0 s0_1 s0_2) (hB : Below w0.heap.size w0 w) (hr1 : Kd.C (Kd.int .i64) w A1 l1.length l1) (hc1 : l1.length ≤ c1) (hf1 : ∀ ad, A1 = some ad → 0 < l1.length → ad.block ≠ g) (h : spec_l1Cur_among.f s0_0 s0_1 s0_2 l1 = some (r1, r2, r3)) :
  Calls Try.prog 16 #[.pointer (some ⟨g, 0, none⟩), .slice A1 l1.length c1] w fun e w' => e = .returned (.int .i64 r1) ∧ IsS45 w0 w' g s0_0 r2 r3 ∧ Below w0.heap.size w0 w' ∧ KeepBut w w' g none := by
 have HR1 := Aside0.mk hr1
 have HC1 := Aside0.mk hc1
 clear hr1 hc1
 have HI0 := Aside0.mk hI
 have HK := Aside0.mk (KeepBut.refl w g none)
 have HL := Aside0.mk hB.size
 clear hI
 have HW0 := Aside0.mk hB.size
 have HB := Aside0.mk hB
 clear hB
 have H : ((spec_l1Cur_pick.f s0_0 s0_1 s0_2 (l1.length : Int)).bind fun bt111 => (if 0 ≤ bt111.1 then (if bt111.1 < (l1.length : Int) then (some (rd l1 bt111.1, bt111.2.1, bt111.2.2)) else (none)) else (none))) = some (r1, r2, r3) := h
 clear h
 replace H := Option.bind_eq_some_iff.mp H
 obtain ⟨⟨t111, t112, t113⟩, A30, H⟩ := H
 replace H : (if 0 ≤ t111 then (if t111 < (l1.length : Int) then (some (rd l1 t111, t112, t113)) else (none)) else (none)) = some (r1, r2, r3) := H
 have A3 := Aside0.mk A30
 clear A30
 by_cases c4 : 0 ≤ t111
 ·rw [if_pos c4] at H
  have c4b0 : decide (0 ≤ t111) = true := decide_eq_true c4
  clear c4
  by_cases c5 : t111 < (l1.length : Int)
  ·rw [if_pos c5] at H
   have c5b0 : decide (t111 < (l1.length : Int)) = true := decide_eq_true c5
   clear c5
   simp only [Option.some.injEq, Prod.mk.injEq] at H
   obtain ⟨rfl, rfl, rfl⟩ := H
   go_enter Try.func16, Try.ntmps16
   go_wp2_with (first | ((with_reducible refine gate_callee (f := 14) rfl ?_); refine goesL_ (some 9) rfl rfl Try.func14 (by kernel_rfl) rfl #[.pointer (some ⟨g, 0, none⟩), .int .i64 (l1.length : Int)] rfl aE ?_; (with_reducible refine (spec_l1Cur_pick.calls g s0_0 s0_1 s0_2 (l1.length : Int) t111 t112 t113 w0 _ ?side1 ?side2 A3.out).mono ?_); (case side1 => exact iI45_0_12_0); (case side2 => exact lI45_0_0); rintro e w6 ⟨rfl, hi, hb, hk⟩; refine ⟨_, rfl, ?_⟩; replace HK := Aside0.mk (KeepBut.trans (kI0) hk (.inl rfl)); replace HB := Aside0.mk hb; replace HI0 := Aside0.mk hi; (try clear hb); (try clear hk); (try clear hi); have p114 : 0 ≤ (t111 : Int) := of_decide_eq_true hE; have q114 : t111 < (l1.length : Int) := of_decide_eq_true hE; obtain ⟨ad114, e114, hx114_0⟩ := Kd.at_int HR1.out t111 p114 q114; cases e114; replace hx114_0 := keep_cell HK.out hx114_0 (by first | (rw [add_block]; exact hf1 _ rfl (by omega)) | exact hf1 _ rfl (by omega) | exact hf1 ad114 rfl (by omega)); replace p114 := eq_true p114; replace q114 := eq_true q114))
   go_ret
   exact ⟨eE, iI45_0_12_0, lI45_0_0, kI0⟩
  ·rw [if_neg c5] at H
   exact absurd H (by simp)
 ·rw [if_neg c4] at H
  exact absurd H (by simp)
end Go.Proofs.Ytnacjhgpanedoab.PFnPushed
namespace Go.Proofs.Ytnacjhgpanedoab.PFnPushed
open Go.RowKit Go.Proofs.YtnacjhgpanedoabW.PrintWords Go.Proofs.YtnacjhgpanedoabW.PrintLast Go.Proofs.YtnacjhgpanedoabW.PrintMore
attribute [local go_sem] max2_int min2_int max_two min_two max_three min_three max_four min_four   -- for this text's walks alone
set_option linter.unusedVariables false
set_option linter.unusedSimpArgs false
mutual
def spec_l1Cur_line10.j0 : Nat → List (S33) → Int → List Int → Int → Int → Option ((List (S33)) × Int × Int)
 | 0, _, _, _, _, _ => none
 | k + 1, x3, x4, x1000, x1001, x1002 => (spec_l1Cur_pick.f x1000 x1001 x1002 200).bind fun bt124 => (spec_l1Cur_line10.l0 k x3 x4 (wrap64 (bt124.1 - 100)) x1000 bt124.2.1 bt124.2.2)
def spec_l1Cur_line10.l0 : Nat → List (S33) → Int → Int → List Int → Int → Int → Option ((List (S33)) × Int × Int)
 | 0, _, _, _, _, _, _ => none
 | k + 1, x3, x4, x5, x1000, x1001, x1002 => if x4 > 0 then ((spec_l1Cur_pick.f x1000 x1001 x1002 9).bind fun bt127 => ((spec_l1Cur_pick.f x1000 bt127.2.1 bt127.2.2 5).bind fun bt130 => ((spec_l1Cur_pick.f x1000 bt130.2.1 bt130.2.2 2001).bind fun bt133 => ((spec_l1Cur_one.f x1000 bt133.2.1 bt133.2.2 6).bind fun bt137 => (if bt137.1 = true then (spec_l1Cur_line10.j2 k x3 x4 x5 x1000 bt137.2.1 bt137.2.2 0 0 0 (wrap64 (1 + bt130.1))) else (spec_l1Cur_line10.j2 k x3 x4 x5 x1000 bt137.2.1 bt137.2.2 0 (wrap64 (bt133.1 - 1000)) (wrap64 (1 + bt127.1)) (wrap64 (1 + bt130.1)))))))) else (some (x3, x1001, x1002))
def spec_l1Cur_line10.j2 : Nat → List (S33) → Int → Int → List Int → Int → Int → Int → Int → Int → Int → Option ((List (S33)) × Int × Int)
 | 0, _, _, _, _, _, _, _, _, _, _ => none
 | k + 1, x3, x4, x5, x1000, x1001, x1002, x137000, x137001, x137002, x137003 => (spec_l1Cur_one.f x1000 x1001 x1002 2).bind fun bt140 => (if bt140.1 = true then ((spec_l1Cur_pick.f x1000 bt140.2.1 bt140.2.2 20).bind fun bt143 => (spec_l1Cur_line10.j3 k x3 x4 (wrap64 ((wrap64 ((wrap64 (x5 + x137003)) + x137003)) + bt143.1)) x1000 bt143.2.1 bt143.2.2 (wrap64 (x5 + x137003)) x137001 x137002 x137003)) else (spec_l1Cur_line10.j3 k x3 x4 (wrap64 ((wrap64 (x5 + x137003)) + x137003)) x1000 bt140.2.1 bt140.2.2 (wrap64 (x5 + x137003)) x137001 x137002 x137003))
def spec_l1Cur_line10.j3 : Nat → List (S33) → Int → Int → List Int → Int → Int → Int → Int → Int → Int → Option ((List (S33)) × Int × Int)
 | 0, _, _, _, _, _, _, _, _, _, _ => none
 | k + 1, x3, x4, x5, x1000, x1001, x1002, x137000, x137001, x137002, x137003 => (spec_l1Cur_pick.f x1000 x1001 x1002 120).bind fun bt146 => (if bt146.1 = 0 then ((spec_l1Cur_among.f x1000 bt146.2.1 bt146.2.2 (([1000000, (-1000000), 1000001] : List Int))).bind fun bt152 => (if x3.length < 4398046511104 then (spec_l1Cur_line10.l0 k (x3 ++ [(⟨x137000, bt152.1, x137002, x137003⟩ : S33)]) (wrap64 (x4 - 1)) x5 x1000 bt152.2.1 bt152.2.2) else (none))) else (if bt146.1 = 1 then ((spec_l1Cur_among.f x1000 bt146.2.1 bt146.2.2 (([1000000000, 1000000001, 9223372036854775807] : List Int))).bind fun bt161 => (if x3.length < 4398046511104 then (spec_l1Cur_line10.l0 k (x3 ++ [(⟨bt161.1, x137001, x137002, x137003⟩ : S33)]) (wrap64 (x4 - 1)) x5 x1000 bt161.2.1 bt161.2.2) else (none))) else (if bt146.1 = 2 then ((spec_l1Cur_among.f x1000 bt146.2.1 bt146.2.2 (([(-1), 12, 13] : List Int))).bind fun bt170 => (if x3.length < 4398046511104 then (spec_l1Cur_line10.l0 k (x3 ++ [(⟨x137000, x137001, bt170.1, x137003⟩ : S33)]) (wrap64 (x4 - 1)) x5 x1000 bt170.2.1 bt170.2.2) else (none))) else (if bt146.1 = 3 then ((spec_l1Cur_among.f x1000 bt146.2.1 bt146.2.2 (([0, 1000, 1001] : List Int))).bind fun bt179 => (if x3.length < 4398046511104 then (spec_l1Cur_line10.l0 k (x3 ++ [(⟨x137000, x137001, x137002, bt179.1⟩ : S33)]) (wrap64 (x4 - 1)) x5 x1000 bt179.2.1 bt179.2.2) else (none))) else (if x3.length < 4398046511104 then (spec_l1Cur_line10.l0 k (x3 ++ [(⟨x137000, x137001, x137002, x137003⟩ : S33)]) (wrap64 (x4 - 1)) x5 x1000 bt146.2.1 bt146.2.2) else (none))))))
end
def spec_l1Cur_line10.f (k : Nat) (s0_0 : List Int) (s0_1 : Int) (s0_2 : Int) : Option ((List (S33)) × Int × Int) := (spec_l1Cur_pick.f s0_0 s0_1 s0_2 6).bind fun bt115 => ((spec_l1Cur_one.f s0_0 bt115.2.1 bt115.2.2 20).bind fun bt118 => (if bt118.1 = true then ((spec_l1Cur_pick.f s0_0 bt118.2.1 bt118.2.2 2).bind fun bt121 => (spec_l1Cur_line10.j0 k ([] : List (S33)) (wrap64 (20 + bt121.1)) s0_0 bt121.2.1 bt121.2.2)) else (spec_l1Cur_line10.j0 k ([] : List (S33)) bt115.1 s0_0 bt118.2.1 bt118.2.2)))
theorem spec_l1Cur_line10.mono_l : ∀ k, (∀ y0 y1 y2 y3 y4, LeO (spec_l1Cur_line10.j0 k y0 y1 y2 y3 y4) (spec_l1Cur_line10.j0 (k + 1) y0 y1 y2 y3 y4)) ∧ (∀ y0 y1 y2 y3 y4 y5, LeO (spec_l1Cur_line10.l0 k y0 y1 y2 y3 y4 y5) (spec_l1Cur_line10.l0 (k + 1) y0 y1 y2 y3 y4 y5)) ∧ (∀ y0 y1 y2 y3 y4 y5 y6 y7 y8 y9, LeO (spec_l1Cur_line10.j2 k y0 y1 y2 y3 y4 y5 y6 y7 y8 y9) (spec_l1Cur_line10.j2 (k + 1) y0 y1 y2 y3 y4 y5 y6 y7 y8 y9)) ∧ (∀ y0 y1 y2 y3 y4 y5 y6 y7 y8 y9, LeO (spec_l1Cur_line10.j3 k y0 y1 y2 y3 y4 y5 y6 y7 y8 y9) (spec_l1Cur_line10.j3 (k + 1) y0 y1 y2 y3 y4 y5 y6 y7 y8 y9))
 | 0 => ⟨fun _ _ _ _ _ r h => by simp [spec_l1Cur_line10.j0] at h, fun _ _ _ _ _ _ r h => by simp [spec_l1Cur_line10.l0] at h, fun _ _ _ _ _ _ _ _ _ _ r h => by simp [spec_l1Cur_line10.j2] at h, fun _ _ _ _ _ _ _ _ _ _ r h => by simp [spec_l1Cur_line10.j3] at h⟩
 | k + 1 => by
  obtain ⟨ih0, ih1, ih2, ih3⟩ := spec_l1Cur_line10.mono_l k
  refine ⟨?_, ?_, ?_, ?_⟩
  ·intro y0 y1 y2 y3 y4
   unfold spec_l1Cur_line10.j0
   repeat' first
   | (with_reducible exact ih0 _ _ _ _ _)
   | (with_reducible exact ih1 _ _ _ _ _ _)
   | (with_reducible exact ih2 _ _ _ _ _ _ _ _ _ _)
   | (with_reducible exact ih3 _ _ _ _ _ _ _ _ _ _)
   | (with_reducible first | exact LeO.refl _ | exact LeO.none _ | refine LeO.ite ?_ ?_ | refine LeO.bind ?_ (fun _ => ?_))
   | exact ih0 _ _ _ _ _
   | exact ih1 _ _ _ _ _ _
   | exact ih2 _ _ _ _ _ _ _ _ _ _
   | exact ih3 _ _ _ _ _ _ _ _ _ _ | exact LeO.none _ | refine LeO.ite ?_ ?_ | refine LeO.bind ?_ (fun _ => ?_)
  ·intro y0 y1 y2 y3 y4 y5
   unfold spec_l1Cur_line10.l0
   repeat' first
   | (with_reducible exact ih0 _ _ _ _ _)
   | (with_reducible exact ih1 _ _ _ _ _ _)
   | (with_reducible exact ih2 _ _ _ _ _ _ _ _ _ _)
   | (with_reducible exact ih3 _ _ _ _ _ _ _ _ _ _)
   | (with_reducible first | exact LeO.refl _ | exact LeO.none _ | refine LeO.ite ?_ ?_ | refine LeO.bind ?_ (fun _ => ?_))
   | exact ih0 _ _ _ _ _
   | exact ih1 _ _ _ _ _ _
   | exact ih2 _ _ _ _ _ _ _ _ _ _
   | exact ih3 _ _ _ _ _ _ _ _ _ _ | exact LeO.none _ | refine LeO.ite ?_ ?_ | refine LeO.bind ?_ (fun _ => ?_)
  ·intro y0 y1 y2 y3 y4 y5 y6 y7 y8 y9
   unfold spec_l1Cur_line10.j2
   repeat' first
   | (with_reducible exact ih0 _ _ _ _ _)
   | (with_reducible exact ih1 _ _ _ _ _ _)
   | (with_reducible exact ih2 _ _ _ _ _ _ _ _ _ _)
   | (with_reducible exact ih3 _ _ _ _ _ _ _ _ _ _)
   | (with_reducible first | exact LeO.refl _ | exact LeO.none _ | refine LeO.ite ?_ ?_ | refine LeO.bind ?_ (fun _ => ?_))
   | exact ih0 _ _ _ _ _
   | exact ih1 _ _ _ _ _ _
   | exact ih2 _ _ _ _ _ _ _ _ _ _
   | exact ih3 _ _ _ _ _ _ _ _ _ _ | exact LeO.none _ | refine LeO.ite ?_ ?_ | refine LeO.bind ?_ (fun _ => ?_)
  ·intro y0 y1 y2 y3 y4 y5 y6 y7 y8 y9
   unfold spec_l1Cur_line10.j3
   repeat' first
   | (with_reducible exact ih0 _ _ _ _ _)
   | (with_reducible exact ih1 _ _ _ _ _ _)
   | (with_reducible exact ih2 _ _ _ _ _ _ _ _ _ _)
   | (with_reducible exact ih3 _ _ _ _ _ _ _ _ _ _)
   | (with_reducible first | exact LeO.refl _ | exact LeO.none _ | refine LeO.ite ?_ ?_ | refine LeO.bind ?_ (fun _ => ?_))
   | exact ih0 _ _ _ _ _
   | exact ih1 _ _ _ _ _ _
   | exact ih2 _ _ _ _ _ _ _ _ _ _
   | exact ih3 _ _ _ _ _ _ _ _ _ _ | exact LeO.none _ | refine LeO.ite ?_ ?_ | refine LeO.bind ?_ (fun _ => ?_)
theorem spec_l1Cur_line10.mono : ∀ a0 a1 a2 k, LeO (spec_l1Cur_line10.f k a0 a1 a2) (spec_l1Cur_line10.f (k + 1) a0 a1 a2) := by
 intro a0 a1 a2 k
 obtain ⟨ih0, ih1, ih2, ih3⟩ := spec_l1Cur_line10.mono_l k
 unfold spec_l1Cur_line10.f
 repeat' first
   | (with_reducible exact ih0 _ _ _ _ _)
   | (with_reducible exact ih1 _ _ _ _ _ _)
   | (with_reducible exact ih2 _ _ _ _ _ _ _ _ _ _)
   | (with_reducible exact ih3 _ _ _ _ _ _ _ _ _ _)
   | (with_reducible first | exact LeO.refl _ | exact LeO.none _ | refine LeO.ite ?_ ?_ | refine LeO.bind ?_ (fun _ => ?_))
   | exact ih0 _ _ _ _ _
   | exact ih1 _ _ _ _ _ _
   | exact ih2 _ _ _ _ _ _ _ _ _ _
   | exact ih3 _ _ _ _ _ _ _ _ _ _ | exact LeO.none _ | refine LeO.ite ?_ ?_ | refine LeO.bind ?_ (fun _ => ?_)
set_option maxHeartbeats 8000000 in
set_option maxRecDepth 100000 in
theorem spec_l1Cur_line10.calls (k : Nat) (g : Nat) (s0_0 : List Int) (s0_1 : Int) (s0_2 : Int) (r1 : List (S33)) (r2 : Int) (r3 : Int) (w0 w : World) (hI : IsS45 w0 w g s0_0 s0_1 s0_2) (hB : Below w0.heap.size w0 w) (h : spec_l1Cur_line10.f k s0_0 s0_1 s0_2 = some (r1, r2, r3)) :
  Calls Try.prog 13 #[.pointer (some ⟨g, 0, none⟩)] w fun e w' => ∃ v0_ : Value, e = .returned (v0_) ∧ Kd.R k33 33 w' w.heap.size (fun _ => True) v0_ r1 ∧ IsS45 w0 w' g s0_0 r2 r3 ∧ Below w0.heap.size w0 w' ∧ KeepBut w w' g none := by
 have hu33 := Try.underlying33
 have HI0 := Aside0.mk hI
 have HK := Aside0.mk (KeepBut.refl w g none)
 have HL := Aside0.mk hB.size
 clear hI
 have HW0 := Aside0.mk hB.size
 have HB := Aside0.mk hB
 clear hB
 have H : ((spec_l1Cur_pick.f s0_0 s0_1 s0_2 6).bind fun bt115 => ((spec_l1Cur_one.f s0_0 bt115.2.1 bt115.2.2 20).bind fun bt118 => (if bt118.1 = true then ((spec_l1Cur_pick.f s0_0 bt118.2.1 bt118.2.2 2).bind fun bt121 => (spec_l1Cur_line10.j0 k ([] : List (S33)) (wrap64 (20 + bt121.1)) s0_0 bt121.2.1 bt121.2.2)) else (spec_l1Cur_line10.j0 k ([] : List (S33)) bt115.1 s0_0 bt118.2.1 bt118.2.2)))) = some (r1, r2, r3) := h
 clear h
 replace H := Option.bind_eq_some_iff.mp H
 obtain ⟨⟨t115, t116, t117⟩, A20, H⟩ := H
 replace H : ((spec_l1Cur_one.f s0_0 t116 t117 20).bind fun bt118 => (if bt118.1 = true then ((spec_l1Cur_pick.f s0_0 bt118.2.1 bt118.2.2 2).bind fun bt121 => (spec_l1Cur_line10.j0 k ([] : List (S33)) (wrap64 (20 + bt121.1)) s0_0 bt121.2.1 bt121.2.2)) else (spec_l1Cur_line10.j0 k ([] : List (S33)) t115 s0_0 bt118.2.1 bt118.2.2))) = some (r1, r2, r3) := H
 have A2 := Aside0.mk A20
 clear A20
 replace H := Option.bind_eq_some_iff.mp H
 obtain ⟨⟨t118, t119, t120⟩, A30, H⟩ := H
 replace H : (if t118 = true then ((spec_l1Cur_pick.f s0_0 t119 t120 2).bind fun bt121 => (spec_l1Cur_line10.j0 k ([] : List (S33)) (wrap64 (20 + bt121.1)) s0_0 bt121.2.1 bt121.2.2)) else (spec_l1Cur_line10.j0 k ([] : List (S33)) t115 s0_0 t119 t120)) = some (r1, r2, r3) := H
 have A3 := Aside0.mk A30
 clear A30
 have HC4 := Aside0.mk H
 clear H
 go_enter Try.func13, Try.ntmps13
 go_upto_if 10 with (first | ((with_reducible refine gate_callee (f := 14) rfl ?_); refine goesL_ (some 8) rfl rfl Try.func14 (by kernel_rfl) rfl #[.pointer (some ⟨g, 0, none⟩), .int .i64 6] rfl aE ?_; (with_reducible refine (spec_l1Cur_pick.calls g s0_0 s0_1 s0_2 6 t115 t116 t117 w0 _ ?side1 ?side2 A2.out).mono ?_); (case side1 => exact iI45_0_12_0); (case side2 => exact lI45_0_0); rintro e w5 ⟨rfl, hi, hb, hk⟩; refine ⟨_, rfl, ?_⟩; replace HK := Aside0.mk (KeepBut.trans (kI0) hk (.inl rfl)); replace HB := Aside0.mk hb; replace HI0 := Aside0.mk hi; (try clear hb); (try clear hk); (try clear hi)) | ((with_reducible refine gate_callee (f := 15) rfl ?_); refine goesL_ (some 10) rfl rfl Try.func15 (by kernel_rfl) rfl #[.pointer (some ⟨g, 0, none⟩), .int .i64 20] rfl aE ?_; (with_reducible refine (spec_l1Cur_one.calls g s0_0 t116 t117 20 t118 t119 t120 w0 _ ?side1 ?side2 A3.out).mono ?_); (case side1 => exact iI45_0_12_0); (case side2 => exact lI45_0_0); rintro e w6 ⟨rfl, hi, hb, hk⟩; refine ⟨_, rfl, ?_⟩; replace HK := Aside0.mk (KeepBut.trans (kI0) hk (.inl rfl)); replace HB := Aside0.mk hb; replace HI0 := Aside0.mk hi; (try clear hb); (try clear hk); (try clear hi)))
 (try simp only [Act.put, List.setIfInBounds_toArray, List.set_cons_zero, List.set_cons_succ])
 go_cut [4] (fun v4 wc => ∃ (kq : Nat) (x4_3 : Int) (x1001_3 : Int) (x1002_3 : Int), v4 = .int .i64 x4_3 ∧ Aside0 (spec_l1Cur_line10.j0 kq ([] : List (S33)) x4_3 s0_0 x1001_3 x1002_3 = some (r1, r2, r3)) ∧ Aside0 (kq ≤ k) ∧ Aside0 (Kd.R k33 33 wc w.heap.size (fun _ => True) (.slice none 0 0) ([] : List (S33))) ∧ Aside0 (IsS45 w0 wc g s0_0 x1001_3 x1002_3) ∧ Aside0 (KeepBut w wc g none) ∧ Aside0 (Below w0.heap.size w0 wc))
 case first =>
  have H := HC4.out
  clear HC4
  by_cases c7 : t118 = true
  ·subst c7
   have H1 : ((spec_l1Cur_pick.f s0_0 t119 t120 2).bind fun bt121 => (spec_l1Cur_line10.j0 k ([] : List (S33)) (wrap64 (20 + bt121.1)) s0_0 bt121.2.1 bt121.2.2)) = some (r1, r2, r3) := by rw [if_pos rfl] at H; exact H
   clear H
   have H := H1
   clear H1
   replace H := Option.bind_eq_some_iff.mp H
   obtain ⟨⟨t121, t122, t123⟩, A80, H⟩ := H
   replace H : (spec_l1Cur_line10.j0 k ([] : List (S33)) (wrap64 (20 + t121)) s0_0 t122 t123) = some (r1, r2, r3) := H
   have A8 := Aside0.mk A80
   clear A80
   have H' := Aside0.mk H
   clear H
   go_wp2_with (first | ((with_reducible refine gate_callee (f := 14) rfl ?_); refine goesL_ (some 12) rfl rfl Try.func14 (by kernel_rfl) rfl #[.pointer (some ⟨g, 0, none⟩), .int .i64 2] rfl aE ?_; (with_reducible refine (spec_l1Cur_pick.calls g s0_0 t119 t120 2 t121 t122 t123 w0 _ ?side1 ?side2 A8.out).mono ?_); (case side1 => exact iI45_0_12_0); (case side2 => exact lI45_0_0); rintro e w9 ⟨rfl, hi, hb, hk⟩; refine ⟨_, rfl, ?_⟩; replace HK := Aside0.mk (KeepBut.trans (kI0) hk (.inl rfl)); replace HB := Aside0.mk hb; replace HI0 := Aside0.mk hi; (try clear hb); (try clear hk); (try clear hi)))
   go_meet
   case rel => exact ⟨_, (wrap64 (20 + t121)), (t122), (t123), tE, H', ⟨by first | omega | exact Nat.le_refl _⟩, ⟨by first | exact Kd.R_nil _ _ _ _ _ | exact Kd.N_nil _ _ _ _ _ | exact Kd.V_nil _ _ _ _ _ | exact Kd.Q_nil _ _ _ _ _ | exact Kd.S_nil _ _ _ _ _⟩, ⟨iI45_0_12_0⟩, ⟨kI0⟩, ⟨lI45_0_0⟩⟩
  ·replace c7 := Bool.eq_false_iff.mpr c7
   subst c7
   have H1 : (spec_l1Cur_line10.j0 k ([] : List (S33)) t115 s0_0 t119 t120) = some (r1, r2, r3) := by rw [if_neg (show ¬ (false = true) by decide)] at H; exact H
   clear H
   have H := H1
   clear H1
   have H' := Aside0.mk H
   clear H
   go_wp2
   go_meet
   case rel => exact ⟨_, (t115), (t119), (t120), tE, H', ⟨by first | omega | exact Nat.le_refl _⟩, ⟨by first | exact Kd.R_nil _ _ _ _ _ | exact Kd.N_nil _ _ _ _ _ | exact Kd.V_nil _ _ _ _ _ | exact Kd.Q_nil _ _ _ _ _ | exact Kd.S_nil _ _ _ _ _⟩, ⟨iI45_0_12_0⟩, ⟨kI0⟩, ⟨lI45_0_0⟩⟩
 case rest =>
  clear HC4
  obtain ⟨kq, x4_3, x1001_3, x1002_3, rfl, HA, HJ3, HO_3, HI0, HK, HB⟩ := hcut
  cases kq with
  | zero => exact absurd HA.out (by simp [spec_l1Cur_line10.j0])
  | succ kj3 =>
   have H := HA.out
   clear HA
   simp only [spec_l1Cur_line10.j0] at H
   replace H := Option.bind_eq_some_iff.mp H
   obtain ⟨⟨t124, t125, t126⟩, A100, H⟩ := H
   replace H : (spec_l1Cur_line10.l0 kj3 ([] : List (S33)) x4_3 (wrap64 (t124 - 100)) s0_0 t125 t126) = some (r1, r2, r3) := H
   have A10 := Aside0.mk A100
   clear A100
   have H' := Aside0.mk H
   clear H
   go_wp2_with (first | ((with_reducible refine gate_callee (f := 14) rfl ?_); refine goesL_ (some 15) rfl rfl Try.func14 (by kernel_rfl) rfl #[.pointer (some ⟨g, 0, none⟩), .int .i64 200] rfl aE ?_; (with_reducible refine (spec_l1Cur_pick.calls g s0_0 x1001_3 x1002_3 200 t124 t125 t126 w0 _ ?side1 ?side2 A10.out).mono ?_); (case side1 => exact iI45_0_12_0); (case side2 => exact lI45_0_0); rintro e w11 ⟨rfl, hi, hb, hk⟩; refine ⟨_, rfl, ?_⟩; replace HO_3 := Aside0.mk (Kd.R_mono (Kd.R_keep (IsS45.apart (show IsS45 w0 _ g s0_0 x1001_3 x1002_3 from iI45_0_12_0) (rU HO_3.out) (by decide)) hk (fun _ h => h.2)) (fun _ h => h.1)); replace HK := Aside0.mk (KeepBut.trans (kI0) hk (.inl rfl)); replace HB := Aside0.mk hb; replace HI0 := Aside0.mk hi; (try clear hb); (try clear hk); (try clear hi)))
   (try simp only [Act.put, List.setIfInBounds_toArray, List.set_cons_zero, List.set_cons_succ])
   go_loopg [3, 4, 5] kj3 (fun kq v3 v4 v5 w' => ∃ (x3_2 : List (S33)) (x4_2 : Int) (x5_2 : Int) (x1001_2 : Int) (x1002_2 : Int), v4 = .int .i64 x4_2 ∧ v5 = .int .i64 x5_2 ∧ Aside0 (spec_l1Cur_line10.l0 kq x3_2 x4_2 x5_2 s0_0 x1001_2 x1002_2 = some (r1, r2, r3)) ∧ Aside0 (kq ≤ kj3) ∧ Aside0 (Kd.R k33 33 w' w.heap.size (fun _ => True) v3 x3_2) ∧ Aside0 (IsS45 w0 w' g s0_0 x1001_2 x1002_2) ∧ Aside0 (KeepBut w w' g none) ∧ Aside0 (Below w0.heap.size w0 w'))
   case atStart => exact ⟨(([] : List (S33))), (x4_3), (wrap64 (t124 - 100)), (t125), (t126), tE, tE, H', ⟨Nat.le_refl _⟩, ⟨by (with_reducible repeat (first | apply Kd.R_alloc | apply Kd.R_drewN | apply Kd.R_drew)); exact HO_3.out⟩, ⟨iI45_0_12_0⟩, ⟨kI0⟩, ⟨lI45_0_0⟩⟩
   case round =>
    clear H'
    obtain ⟨x3_2, x4_2, x5_2, x1001_2, x1002_2, rfl, rfl, HA, HK2, HO_3, HI0, HK, HB⟩ := hrel
    cases gk with
    | zero => exact absurd HA.out (by simp [spec_l1Cur_line10.l0])
    | succ k2 =>
     have H := HA.out
     clear HA
     simp only [spec_l1Cur_line10.l0] at H
     by_cases c12 : x4_2 > 0
     ·rw [if_pos c12] at H
      have c12b0 : decide (0 < x4_2) = true := decide_eq_true c12
      clear c12
      replace H := Option.bind_eq_some_iff.mp H
      obtain ⟨⟨t127, t128, t129⟩, A130, H⟩ := H
      replace H : ((spec_l1Cur_pick.f s0_0 t128 t129 5).bind fun bt130 => ((spec_l1Cur_pick.f s0_0 bt130.2.1 bt130.2.2 2001).bind fun bt133 => ((spec_l1Cur_one.f s0_0 bt133.2.1 bt133.2.2 6).bind fun bt137 => (if bt137.1 = true then (spec_l1Cur_line10.j2 k2 x3_2 x4_2 x5_2 s0_0 bt137.2.1 bt137.2.2 0 0 0 (wrap64 (1 + bt130.1))) else (spec_l1Cur_line10.j2 k2 x3_2 x4_2 x5_2 s0_0 bt137.2.1 bt137.2.2 0 (wrap64 (bt133.1 - 1000)) (wrap64 (1 + t127)) (wrap64 (1 + bt130.1))))))) = some (r1, r2, r3) := H
      have A13 := Aside0.mk A130
      clear A130
      replace H := Option.bind_eq_some_iff.mp H
      obtain ⟨⟨t130, t131, t132⟩, A140, H⟩ := H
      replace H : ((spec_l1Cur_pick.f s0_0 t131 t132 2001).bind fun bt133 => ((spec_l1Cur_one.f s0_0 bt133.2.1 bt133.2.2 6).bind fun bt137 => (if bt137.1 = true then (spec_l1Cur_line10.j2 k2 x3_2 x4_2 x5_2 s0_0 bt137.2.1 bt137.2.2 0 0 0 (wrap64 (1 + t130))) else (spec_l1Cur_line10.j2 k2 x3_2 x4_2 x5_2 s0_0 bt137.2.1 bt137.2.2 0 (wrap64 (bt133.1 - 1000)) (wrap64 (1 + t127)) (wrap64 (1 + t130)))))) = some (r1, r2, r3) := H
      have A14 := Aside0.mk A140
      clear A140
      replace H := Option.bind_eq_some_iff.mp H
      obtain ⟨⟨t133, t134, t135⟩, A150, H⟩ := H
      replace H : ((spec_l1Cur_one.f s0_0 t134 t135 6).bind fun bt137 => (if bt137.1 = true then (spec_l1Cur_line10.j2 k2 x3_2 x4_2 x5_2 s0_0 bt137.2.1 bt137.2.2 0 0 0 (wrap64 (1 + t130))) else (spec_l1Cur_line10.j2 k2 x3_2 x4_2 x5_2 s0_0 bt137.2.1 bt137.2.2 0 (wrap64 (t133 - 1000)) (wrap64 (1 + t127)) (wrap64 (1 + t130))))) = some (r1, r2, r3) := H
      have A15 := Aside0.mk A150
      clear A150
      replace H := Option.bind_eq_some_iff.mp H
      obtain ⟨⟨t137, t138, t139⟩, A160, H⟩ := H
      replace H : (if t137 = true then (spec_l1Cur_line10.j2 k2 x3_2 x4_2 x5_2 s0_0 t138 t139 0 0 0 (wrap64 (1 + t130))) else (spec_l1Cur_line10.j2 k2 x3_2 x4_2 x5_2 s0_0 t138 t139 0 (wrap64 (t133 - 1000)) (wrap64 (1 + t127)) (wrap64 (1 + t130)))) = some (r1, r2, r3) := H
      have A16 := Aside0.mk A160
      clear A160
      have HC17 := Aside0.mk H
      clear H
      go_upto_if 32 with (first | ((with_reducible refine gate_callee (f := 14) rfl ?_); refine goesL_ (some 22) rfl rfl Try.func14 (by kernel_rfl) rfl #[.pointer (some ⟨g, 0, none⟩), .int .i64 9] rfl aE ?_; (with_reducible refine (spec_l1Cur_pick.calls g s0_0 x1001_2 x1002_2 9 t127 t128 t129 w0 _ ?side1 ?side2 A13.out).mono ?_); (case side1 => exact iI45_0_12_0); (case side2 => exact lI45_0_0); rintro e w18 ⟨rfl, hi, hb, hk⟩; refine ⟨_, rfl, ?_⟩; replace HO_3 := Aside0.mk (Kd.R_mono (Kd.R_keep (IsS45.apart (show IsS45 w0 _ g s0_0 x1001_2 x1002_2 from iI45_0_12_0) (rU HO_3.out) (by decide)) hk (fun _ h => h.2)) (fun _ h => h.1)); replace HK := Aside0.mk (KeepBut.trans (kI0) hk (.inl rfl)); replace HB := Aside0.mk hb; replace HI0 := Aside0.mk hi; (try clear hb); (try clear hk); (try clear hi)) | ((with_reducible refine gate_callee (f := 14) rfl ?_); refine goesL_ (some 25) rfl rfl Try.func14 (by kernel_rfl) rfl #[.pointer (some ⟨g, 0, none⟩), .int .i64 5] rfl aE ?_; (with_reducible refine (spec_l1Cur_pick.calls g s0_0 t128 t129 5 t130 t131 t132 w0 _ ?side1 ?side2 A14.out).mono ?_); (case side1 => exact iI45_0_12_0); (case side2 => exact lI45_0_0); rintro e w19 ⟨rfl, hi, hb, hk⟩; refine ⟨_, rfl, ?_⟩; replace HO_3 := Aside0.mk (Kd.R_mono (Kd.R_keep (IsS45.apart (show IsS45 w0 _ g s0_0 t128 t129 from iI45_0_12_0) (rU HO_3.out) (by decide)) hk (fun _ h => h.2)) (fun _ h => h.1)); replace HK := Aside0.mk (KeepBut.trans (kI0) hk (.inl rfl)); replace HB := Aside0.mk hb; replace HI0 := Aside0.mk hi; (try clear hb); (try clear hk); (try clear hi)) | ((with_reducible refine gate_callee (f := 14) rfl ?_); refine goesL_ (some 28) rfl rfl Try.func14 (by kernel_rfl) rfl #[.pointer (some ⟨g, 0, none⟩), .int .i64 2001] rfl aE ?_; (with_reducible refine (spec_l1Cur_pick.calls g s0_0 t131 t132 2001 t133 t134 t135 w0 _ ?side1 ?side2 A15.out).mono ?_); (case side1 => exact iI45_0_12_0); (case side2 => exact lI45_0_0); rintro e w20 ⟨rfl, hi, hb, hk⟩; refine ⟨_, rfl, ?_⟩; replace HO_3 := Aside0.mk (Kd.R_mono (Kd.R_keep (IsS45.apart (show IsS45 w0 _ g s0_0 t131 t132 from iI45_0_12_0) (rU HO_3.out) (by decide)) hk (fun _ h => h.2)) (fun _ h => h.1)); replace HK := Aside0.mk (KeepBut.trans (kI0) hk (.inl rfl)); replace HB := Aside0.mk hb; replace HI0 := Aside0.mk hi; (try clear hb); (try clear hk); (try clear hi)) | ((with_reducible refine gate_dst (N := 6) rfl ?_); refine box_event rfl (N := 6) rfl (cs := #[.int .i64 0, .int .i64 0, .int .i64 0, .int .i64 0]) (t := 33) sE ?_; intro gb136 hg w21 hbox hb; replace HO_3 := Aside0.mk (Kd.R_below (Kd.R_elderB (rU HO_3.out) gb136 (Nat.le_of_eq hg.symm)) hb); replace HB := Aside0.mk (below_step (lI45_0_0) hb); have BK136 := Aside0.mk hbox; have GW136 := Aside0.mk ((by rw [hg]; exact (keep_size (w := w) (g := g) (row := none) (kI0)) : w.heap.size ≤ gb136)); have GE136 := Aside0.mk ((Nat.le_trans HW0.out (by rw [hg]; exact (keep_size (w := w) (g := g) (row := none) (kI0)) : w.heap.size ≤ gb136) : w0.heap.size ≤ gb136)); replace HK := Aside0.mk (KeepBut.trans (kI0) (KeepBut.of_below hb g none) (.inl rfl)); have NB0_136 := Aside0.mk ((by rw [hg]; exact Nat.ne_of_lt (IsS45.lt (show IsS45 w0 _ g s0_0 t134 t135 from iI45_0_12_0)) : g ≠ gb136)); have NB136_0 := Aside0.mk ((by rw [hg]; exact Nat.ne_of_gt (IsS45.lt (show IsS45 w0 _ g s0_0 t134 t135 from iI45_0_12_0)) : gb136 ≠ g)); replace HI0 := Aside0.mk (IsS45.below (iI45_0_12_0) hb); clear hb hbox hg; have hnb22 := NB136_0.out; have hnc22 := NB0_136.out; have hcz23_0 := cz BK136 0 (.int .i64 0); have hcz23_1 := cz BK136 1 (.int .i64 0); have hcz23_2 := cz BK136 2 (.int .i64 0); have hcz23_3 := cz BK136 3 (.int .i64 0); have hfz23_0 := fz BK136 0; have hfz23_1 := fz BK136 1; have hfz23_2 := fz BK136 2; have hfz23_3 := fz BK136 3) | ((with_reducible refine gate_store (t := 33) (p := 6) rfl ?_); refine store_event (t := 33) (p := 6) (v := ?vo_w24) (w1 := ((((w21.setCell ⟨gb136, 0, none⟩ (.int .i64 0)).setCell ⟨gb136, 1, none⟩ (.int .i64 (wrap64 (t133 - 1000)))).setCell ⟨gb136, 2, none⟩ (.int .i64 (wrap64 (1 + t127)))).setCell ⟨gb136, 3, none⟩ (.int .i64 (wrap64 (1 + t130))))) ?hg ?ho ?hn ?hr ?_; (case ho => rfl); (case hg => rfl); (case hn => rfl); (case hr => first | (go_simp; done) | (go_simp; rfl) | (have hq0_ := (blk_cell BK136.out 0).trans (show _ = some _ from rfl); have hf0_ := blk_frozen BK136.out 0; have hq1_ := (blk_cell BK136.out 1).trans (show _ = some _ from rfl); have hf1_ := blk_frozen BK136.out 1; have hq2_ := (blk_cell BK136.out 2).trans (show _ = some _ from rfl); have hf2_ := blk_frozen BK136.out 2; have hq3_ := (blk_cell BK136.out 3).trans (show _ = some _ from rfl); have hf3_ := blk_frozen BK136.out 3; first | (go_simp; done) | (go_simp; rfl))); intro w24 hw; replace HO_3 : Aside0 (Kd.R k33 33 w24 w.heap.size (fun k_ => k_ ≠ gb136) u3 x3_2) := ⟨(by rw [hw]; exact (by (with_reducible repeat (first | apply Kd.R_alloc | apply Kd.R_drewN | apply Kd.R_drew)); exact Kd.R_mono (Kd.R_far (p := ⟨gb136, 3, none⟩) (Kd.R_far (p := ⟨gb136, 2, none⟩) (Kd.R_far (p := ⟨gb136, 1, none⟩) (Kd.R_far (p := ⟨gb136, 0, none⟩) (Kd.R_mono HO_3.out (fun k_ hk => (⟨hk, hk.2⟩ : _ ∧ k_ ≠ gb136))) (fun _ hk => hk.2) (.int .i64 0)) (fun _ hk => hk.2) (.int .i64 (wrap64 (t133 - 1000)))) (fun _ hk => hk.2) (.int .i64 (wrap64 (1 + t127)))) (fun _ hk => hk.2) (.int .i64 (wrap64 (1 + t130)))) (fun _ hk => hk.1.2)))⟩; replace BK136 : Aside0 (w24.heap[gb136]? = some (.cells #[.int .i64 0, .int .i64 (wrap64 (t133 - 1000)), .int .i64 (wrap64 (1 + t127)), .int .i64 (wrap64 (1 + t130))] 33 (0, 0))) := ⟨(by rw [hw]; exact (by refine bU ?_; refine blk_put (cs := #[.int .i64 0, .int .i64 (wrap64 (t133 - 1000)), .int .i64 (wrap64 (1 + t127)), .int .i64 0]) ?_ 3 _ rfl; refine bU ?_; refine blk_put (cs := #[.int .i64 0, .int .i64 (wrap64 (t133 - 1000)), .int .i64 0, .int .i64 0]) ?_ 2 _ rfl; refine bU ?_; refine blk_put (cs := #[.int .i64 0, .int .i64 0, .int .i64 0, .int .i64 0]) ?_ 1 _ rfl; refine bU ?_; refine blk_put (cs := #[.int .i64 0, .int .i64 0, .int .i64 0, .int .i64 0]) ?_ 0 _ rfl; refine bU ?_; exact BK136.out))⟩; replace HK : Aside0 (KeepBut w w24 g none) := ⟨(by rw [hw]; exact (kI1 GW136))⟩; replace HB : Aside0 (Below w0.heap.size w0 w24) := ⟨(by rw [hw]; exact (lI45_0_1 GE136))⟩; replace HI0 : Aside0 (IsS45 w0 w24 g s0_0 t134 t135) := ⟨(by rw [hw]; exact (iI45_0_12_1 NB0_136))⟩; clear hw) | ((with_reducible refine gate_callee (f := 15) rfl ?_); refine goesL_ (some 32) rfl rfl Try.func15 (by kernel_rfl) rfl #[.pointer (some ⟨g, 0, none⟩), .int .i64 6] rfl aE ?_; (with_reducible refine (spec_l1Cur_one.calls g s0_0 t134 t135 6 t137 t138 t139 w0 _ ?side1 ?side2 A16.out).mono ?_); (case side1 => exact iI45_0_12_1 NB0_136); (case side2 => exact lI45_0_1 GE136); rintro e w25 ⟨rfl, hi, hb, hk⟩; refine ⟨_, rfl, ?_⟩; replace HO_3 := Aside0.mk (Kd.R_mono (Kd.R_keep (IsS45.apart (show IsS45 w0 _ g s0_0 t134 t135 from iI45_0_12_1 NB0_136) (rU HO_3.out) (by decide)) hk (fun _ h => h.2)) (fun _ h => h.1)); replace BK136 := Aside0.mk (KeepBut.blk hk (g' := gb136) (o := .cells #[.int .i64 0, .int .i64 (wrap64 (t133 - 1000)), .int .i64 (wrap64 (1 + t127)), .int .i64 (wrap64 (1 + t130))] 33 (0, 0)) (bV BK136) NB136_0.out (by simp)); replace HK := Aside0.mk (KeepBut.trans (kI1 GW136) hk (.inl rfl)); replace HB := Aside0.mk hb; replace HI0 := Aside0.mk hi; (try clear hb); (try clear hk); (try clear hi)))
      (try simp only [Act.put, List.setIfInBounds_toArray, List.set_cons_zero, List.set_cons_succ])
      go_cut [] (fun wc => ∃ (kq : Nat) (x137001_16 : Int) (x137002_16 : Int), Aside0 (spec_l1Cur_line10.j2 kq x3_2 x4_2 x5_2 s0_0 t138 t139 0 x137001_16 x137002_16 (wrap64 (1 + t130)) = some (r1, r2, r3)) ∧ Aside0 (kq ≤ k2) ∧ Aside0 (Kd.R k33 33 wc w.heap.size (fun k_ => k_ ≠ gb136) u3 x3_2) ∧ Aside0 (wc.heap[gb136]? = some (.cells #[.int .i64 0, .int .i64 x137001_16, .int .i64 x137002_16, .int .i64 (wrap64 (1 + t130))] 33 (0, 0))) ∧ Aside0 (IsS45 w0 wc g s0_0 t138 t139) ∧ Aside0 (KeepBut w wc g none) ∧ Aside0 (Below w0.heap.size w0 wc))
      case first =>
       have H := HC17.out
       clear HC17
       by_cases c26 : t137 = true
       ·subst c26
        have H1 : (spec_l1Cur_line10.j2 k2 x3_2 x4_2 x5_2 s0_0 t138 t139 0 0 0 (wrap64 (1 + t130))) = some (r1, r2, r3) := by rw [if_pos rfl] at H; exact H
        clear H
        have H := H1
        clear H1
        have H' := Aside0.mk H
        clear H
        have hnb27 := NB136_0.out
        have hnc27 := NB0_136.out
        have hcz28_0 := cz BK136 0 (.int .i64 0)
        have hcz28_1 := cz BK136 1 (.int .i64 (wrap64 (t133 - 1000)))
        have hcz28_2 := cz BK136 2 (.int .i64 (wrap64 (1 + t127)))
        have hcz28_3 := cz BK136 3 (.int .i64 (wrap64 (1 + t130)))
        have hfz28_0 := fz BK136 0
        have hfz28_1 := fz BK136 1
        have hfz28_2 := fz BK136 2
        have hfz28_3 := fz BK136 3
        go_wp2_with (first | ((with_reducible refine gate_store (t := 3) (p := 33) rfl ?_); refine store_event (t := 3) (p := 33) (v := ?vo_w29) (w1 := (w25.setCell ⟨gb136, 2, none⟩ (.int .i64 0))) ?hg ?ho ?hn ?hr ?_; (case ho => rfl); (case hg => rfl); (case hn => rfl); (case hr => first | (go_simp; done) | (go_simp; rfl) | (have hq0_ := (blk_cell BK136.out 2).trans (show _ = some _ from rfl); have hf0_ := blk_frozen BK136.out 2; first | (go_simp; done) | (go_simp; rfl))); intro w29 hw; replace HO_3 : Aside0 (Kd.R k33 33 w29 w.heap.size (fun k_ => k_ ≠ gb136) u3 x3_2) := ⟨(by rw [hw]; exact (by (with_reducible repeat (first | apply Kd.R_alloc | apply Kd.R_drewN | apply Kd.R_drew)); exact Kd.R_mono (Kd.R_far (p := ⟨gb136, 2, none⟩) (Kd.R_mono HO_3.out (fun k_ hk => (⟨hk, hk⟩ : _ ∧ k_ ≠ gb136))) (fun _ hk => hk.2) (.int .i64 0)) (fun _ hk => hk.1)))⟩; replace BK136 : Aside0 (w29.heap[gb136]? = some (.cells #[.int .i64 0, .int .i64 (wrap64 (t133 - 1000)), .int .i64 0, .int .i64 (wrap64 (1 + t130))] 33 (0, 0))) := ⟨(by rw [hw]; exact (by refine bU ?_; refine blk_put (cs := #[.int .i64 0, .int .i64 (wrap64 (t133 - 1000)), .int .i64 (wrap64 (1 + t127)), .int .i64 (wrap64 (1 + t130))]) ?_ 2 _ rfl; refine bU ?_; exact BK136.out))⟩; replace HK : Aside0 (KeepBut w w29 g none) := ⟨(by rw [hw]; exact (kI1 GW136))⟩; replace HB : Aside0 (Below w0.heap.size w0 w29) := ⟨(by rw [hw]; exact (lI45_0_1 GE136))⟩; replace HI0 : Aside0 (IsS45 w0 w29 g s0_0 t138 t139) := ⟨(by rw [hw]; exact (iI45_0_12_1 NB0_136))⟩; clear hw; have hcz30_0 := cz BK136 0 (.int .i64 0); have hcz30_1 := cz BK136 1 (.int .i64 (wrap64 (t133 - 1000))); have hcz30_2 := cz BK136 2 (.int .i64 0); have hcz30_3 := cz BK136 3 (.int .i64 (wrap64 (1 + t130))); have hfz30_0 := fz BK136 0; have hfz30_1 := fz BK136 1; have hfz30_2 := fz BK136 2; have hfz30_3 := fz BK136 3) | ((with_reducible refine gate_store (t := 3) (p := 34) rfl ?_); refine store_event (t := 3) (p := 34) (v := ?vo_w31) (w1 := (w29.setCell ⟨gb136, 1, none⟩ (.int .i64 0))) ?hg ?ho ?hn ?hr ?_; (case ho => rfl); (case hg => rfl); (case hn => rfl); (case hr => first | (go_simp; done) | (go_simp; rfl) | (have hq0_ := (blk_cell BK136.out 1).trans (show _ = some _ from rfl); have hf0_ := blk_frozen BK136.out 1; first | (go_simp; done) | (go_simp; rfl))); intro w31 hw; replace HO_3 : Aside0 (Kd.R k33 33 w31 w.heap.size (fun k_ => k_ ≠ gb136) u3 x3_2) := ⟨(by rw [hw]; exact (by (with_reducible repeat (first | apply Kd.R_alloc | apply Kd.R_drewN | apply Kd.R_drew)); exact Kd.R_mono (Kd.R_far (p := ⟨gb136, 1, none⟩) (Kd.R_mono HO_3.out (fun k_ hk => (⟨hk, hk⟩ : _ ∧ k_ ≠ gb136))) (fun _ hk => hk.2) (.int .i64 0)) (fun _ hk => hk.1)))⟩; replace BK136 : Aside0 (w31.heap[gb136]? = some (.cells #[.int .i64 0, .int .i64 0, .int .i64 0, .int .i64 (wrap64 (1 + t130))] 33 (0, 0))) := ⟨(by rw [hw]; exact (by refine bU ?_; refine blk_put (cs := #[.int .i64 0, .int .i64 (wrap64 (t133 - 1000)), .int .i64 0, .int .i64 (wrap64 (1 + t130))]) ?_ 1 _ rfl; refine bU ?_; exact BK136.out))⟩; replace HK : Aside0 (KeepBut w w31 g none) := ⟨(by rw [hw]; exact (kI1 GW136))⟩; replace HB : Aside0 (Below w0.heap.size w0 w31) := ⟨(by rw [hw]; exact (lI45_0_1 GE136))⟩; replace HI0 : Aside0 (IsS45 w0 w31 g s0_0 t138 t139) := ⟨(by rw [hw]; exact (iI45_0_12_1 NB0_136))⟩; clear hw))
        go_meet
        case rel => exact ⟨_, (0), (0), H', ⟨by have := HJ3.out; have := HK2.out; first | omega | exact Nat.le_refl _⟩, ⟨by (with_reducible repeat (first | apply Kd.R_alloc | apply Kd.R_drewN | apply Kd.R_drew)); exact HO_3.out⟩, ⟨by refine bU ?_; exact BK136.out⟩, ⟨iI45_0_12_1 NB0_136⟩, ⟨kI1 GW136⟩, ⟨lI45_0_1 GE136⟩⟩
       ·replace c26 := Bool.eq_false_iff.mpr c26
        subst c26
        have H1 : (spec_l1Cur_line10.j2 k2 x3_2 x4_2 x5_2 s0_0 t138 t139 0 (wrap64 (t133 - 1000)) (wrap64 (1 + t127)) (wrap64 (1 + t130))) = some (r1, r2, r3) := by rw [if_neg (show ¬ (false = true) by decide)] at H; exact H
        clear H
        have H := H1
        clear H1
        have H' := Aside0.mk H
        clear H
        go_wp2
        go_meet
        case rel => exact ⟨_, (wrap64 (t133 - 1000)), (wrap64 (1 + t127)), H', ⟨by have := HJ3.out; have := HK2.out; first | omega | exact Nat.le_refl _⟩, ⟨by (with_reducible repeat (first | apply Kd.R_alloc | apply Kd.R_drewN | apply Kd.R_drew)); exact HO_3.out⟩, ⟨by refine bU ?_; exact BK136.out⟩, ⟨iI45_0_12_1 NB0_136⟩, ⟨kI1 GW136⟩, ⟨lI45_0_1 GE136⟩⟩
      case rest =>
       clear HC17
       try clear c12; try clear c12b0; try clear hcz23_0; try clear hcz23_1; try clear hcz23_2; try clear hcz23_3; try clear hfz23_0; try clear hfz23_1; try clear hfz23_2; try clear hfz23_3
       obtain ⟨kq, x137001_16, x137002_16, HA, HJ16, HO_3, BK136, HI0, HK, HB⟩ := hcut
       cases kq with
       | zero => exact absurd HA.out (by simp [spec_l1Cur_line10.j2])
       | succ kj16 =>
        have H := HA.out
        clear HA
        simp only [spec_l1Cur_line10.j2] at H
        replace H := Option.bind_eq_some_iff.mp H
        obtain ⟨⟨t140, t141, t142⟩, A320, H⟩ := H
        replace H : (if t140 = true then ((spec_l1Cur_pick.f s0_0 t141 t142 20).bind fun bt143 => (spec_l1Cur_line10.j3 kj16 x3_2 x4_2 (wrap64 ((wrap64 ((wrap64 (x5_2 + (wrap64 (1 + t130)))) + (wrap64 (1 + t130)))) + bt143.1)) s0_0 bt143.2.1 bt143.2.2 (wrap64 (x5_2 + (wrap64 (1 + t130)))) x137001_16 x137002_16 (wrap64 (1 + t130)))) else (spec_l1Cur_line10.j3 kj16 x3_2 x4_2 (wrap64 ((wrap64 (x5_2 + (wrap64 (1 + t130)))) + (wrap64 (1 + t130)))) s0_0 t141 t142 (wrap64 (x5_2 + (wrap64 (1 + t130)))) x137001_16 x137002_16 (wrap64 (1 + t130)))) = some (r1, r2, r3) := H
        have A32 := Aside0.mk A320
        clear A320
        have HC33 := Aside0.mk H
        clear H
        have hnb34 := NB136_0.out
        have hnc34 := NB0_136.out
        have hcz35_0 := cz BK136 0 (.int .i64 0)
        have hcz35_1 := cz BK136 1 (.int .i64 x137001_16)
        have hcz35_2 := cz BK136 2 (.int .i64 x137002_16)
        have hcz35_3 := cz BK136 3 (.int .i64 (wrap64 (1 + t130)))
        have hfz35_0 := fz BK136 0
        have hfz35_1 := fz BK136 1
        have hfz35_2 := fz BK136 2
        have hfz35_3 := fz BK136 3
        go_upto_if 46 with (first | ((with_reducible refine gate_store (t := 3) (p := 39) rfl ?_); refine store_event (t := 3) (p := 39) (v := ?vo_w36) (w1 := (wc.setCell ⟨gb136, 0, none⟩ (.int .i64 (wrap64 (x5_2 + (wrap64 (1 + t130))))))) ?hg ?ho ?hn ?hr ?_; (case ho => rfl); (case hg => rfl); (case hn => rfl); (case hr => first | (go_simp; done) | (go_simp; rfl) | (have hq0_ := (blk_cell BK136.out 0).trans (show _ = some _ from rfl); have hf0_ := blk_frozen BK136.out 0; first | (go_simp; done) | (go_simp; rfl))); intro w36 hw; replace HO_3 : Aside0 (Kd.R k33 33 w36 w.heap.size (fun k_ => k_ ≠ gb136) u3 x3_2) := ⟨(by rw [hw]; exact (by (with_reducible repeat (first | apply Kd.R_alloc | apply Kd.R_drewN | apply Kd.R_drew)); exact Kd.R_mono (Kd.R_far (p := ⟨gb136, 0, none⟩) (Kd.R_mono HO_3.out (fun k_ hk => (⟨hk, hk⟩ : _ ∧ k_ ≠ gb136))) (fun _ hk => hk.2) (.int .i64 (wrap64 (x5_2 + (wrap64 (1 + t130)))))) (fun _ hk => hk.1)))⟩; replace BK136 : Aside0 (w36.heap[gb136]? = some (.cells #[.int .i64 (wrap64 (x5_2 + (wrap64 (1 + t130)))), .int .i64 x137001_16, .int .i64 x137002_16, .int .i64 (wrap64 (1 + t130))] 33 (0, 0))) := ⟨(by rw [hw]; exact (by refine bU ?_; refine blk_put (cs := #[.int .i64 0, .int .i64 x137001_16, .int .i64 x137002_16, .int .i64 (wrap64 (1 + t130))]) ?_ 0 _ rfl; refine bU ?_; exact BK136.out))⟩; replace HK : Aside0 (KeepBut w w36 g none) := ⟨(by rw [hw]; exact (kI1 GW136))⟩; replace HB : Aside0 (Below w0.heap.size w0 w36) := ⟨(by rw [hw]; exact (lI45_0_1 GE136))⟩; replace HI0 : Aside0 (IsS45 w0 w36 g s0_0 t138 t139) := ⟨(by rw [hw]; exact (iI45_0_12_1 NB0_136))⟩; clear hw; have hcz37_0 := cz BK136 0 (.int .i64 (wrap64 (x5_2 + (wrap64 (1 + t130))))); have hcz37_1 := cz BK136 1 (.int .i64 x137001_16); have hcz37_2 := cz BK136 2 (.int .i64 x137002_16); have hcz37_3 := cz BK136 3 (.int .i64 (wrap64 (1 + t130))); have hfz37_0 := fz BK136 0; have hfz37_1 := fz BK136 1; have hfz37_2 := fz BK136 2; have hfz37_3 := fz BK136 3) | ((with_reducible refine gate_callee (f := 15) rfl ?_); refine goesL_ (some 46) rfl rfl Try.func15 (by kernel_rfl) rfl #[.pointer (some ⟨g, 0, none⟩), .int .i64 2] rfl aE ?_; (with_reducible refine (spec_l1Cur_one.calls g s0_0 t138 t139 2 t140 t141 t142 w0 _ ?side1 ?side2 A32.out).mono ?_); (case side1 => exact iI45_0_12_1 NB0_136); (case side2 => exact lI45_0_1 GE136); rintro e w38 ⟨rfl, hi, hb, hk⟩; refine ⟨_, rfl, ?_⟩; replace HO_3 := Aside0.mk (Kd.R_mono (Kd.R_keep (IsS45.apart (show IsS45 w0 _ g s0_0 t138 t139 from iI45_0_12_1 NB0_136) (rU HO_3.out) (by decide)) hk (fun _ h => h.2)) (fun _ h => h.1)); replace BK136 := Aside0.mk (KeepBut.blk hk (g' := gb136) (o := .cells #[.int .i64 (wrap64 (x5_2 + (wrap64 (1 + t130)))), .int .i64 x137001_16, .int .i64 x137002_16, .int .i64 (wrap64 (1 + t130))] 33 (0, 0)) (bV BK136) NB136_0.out (by simp)); replace HK := Aside0.mk (KeepBut.trans (kI1 GW136) hk (.inl rfl)); replace HB := Aside0.mk hb; replace HI0 := Aside0.mk hi; (try clear hb); (try clear hk); (try clear hi)))
        (try simp only [Act.put, List.setIfInBounds_toArray, List.set_cons_zero, List.set_cons_succ])
        go_cut [5] (fun v5 wc => ∃ (kq : Nat) (x5_32 : Int) (x1001_32 : Int) (x1002_32 : Int), v5 = .int .i64 x5_32 ∧ Aside0 (spec_l1Cur_line10.j3 kq x3_2 x4_2 x5_32 s0_0 x1001_32 x1002_32 (wrap64 (x5_2 + (wrap64 (1 + t130)))) x137001_16 x137002_16 (wrap64 (1 + t130)) = some (r1, r2, r3)) ∧ Aside0 (kq ≤ kj16) ∧ Aside0 (Kd.R k33 33 wc w.heap.size (fun k_ => k_ ≠ gb136) u3 x3_2) ∧ Aside0 (wc.heap[gb136]? = some (.cells #[.int .i64 (wrap64 (x5_2 + (wrap64 (1 + t130)))), .int .i64 x137001_16, .int .i64 x137002_16, .int .i64 (wrap64 (1 + t130))] 33 (0, 0))) ∧ Aside0 (IsS45 w0 wc g s0_0 x1001_32 x1002_32) ∧ Aside0 (KeepBut w wc g none) ∧ Aside0 (Below w0.heap.size w0 wc))
        case first =>
         have H := HC33.out
         clear HC33
         by_cases c39 : t140 = true
         ·subst c39
          have H1 : ((spec_l1Cur_pick.f s0_0 t141 t142 20).bind fun bt143 => (spec_l1Cur_line10.j3 kj16 x3_2 x4_2 (wrap64 ((wrap64 ((wrap64 (x5_2 + (wrap64 (1 + t130)))) + (wrap64 (1 + t130)))) + bt143.1)) s0_0 bt143.2.1 bt143.2.2 (wrap64 (x5_2 + (wrap64 (1 + t130)))) x137001_16 x137002_16 (wrap64 (1 + t130)))) = some (r1, r2, r3) := by rw [if_pos rfl] at H; exact H
          clear H
          have H := H1
          clear H1
          replace H := Option.bind_eq_some_iff.mp H
          obtain ⟨⟨t143, t144, t145⟩, A400, H⟩ := H
          replace H : (spec_l1Cur_line10.j3 kj16 x3_2 x4_2 (wrap64 ((wrap64 ((wrap64 (x5_2 + (wrap64 (1 + t130)))) + (wrap64 (1 + t130)))) + t143)) s0_0 t144 t145 (wrap64 (x5_2 + (wrap64 (1 + t130)))) x137001_16 x137002_16 (wrap64 (1 + t130))) = some (r1, r2, r3) := H
          have A40 := Aside0.mk A400
          clear A400
          have H' := Aside0.mk H
          clear H
          go_wp2_with (first | ((with_reducible refine gate_callee (f := 14) rfl ?_); refine goesL_ (some 49) rfl rfl Try.func14 (by kernel_rfl) rfl #[.pointer (some ⟨g, 0, none⟩), .int .i64 20] rfl aE ?_; (with_reducible refine (spec_l1Cur_pick.calls g s0_0 t141 t142 20 t143 t144 t145 w0 _ ?side1 ?side2 A40.out).mono ?_); (case side1 => exact iI45_0_12_1 NB0_136); (case side2 => exact lI45_0_1 GE136); rintro e w41 ⟨rfl, hi, hb, hk⟩; refine ⟨_, rfl, ?_⟩; replace HO_3 := Aside0.mk (Kd.R_mono (Kd.R_keep (IsS45.apart (show IsS45 w0 _ g s0_0 t141 t142 from iI45_0_12_1 NB0_136) (rU HO_3.out) (by decide)) hk (fun _ h => h.2)) (fun _ h => h.1)); replace BK136 := Aside0.mk (KeepBut.blk hk (g' := gb136) (o := .cells #[.int .i64 (wrap64 (x5_2 + (wrap64 (1 + t130)))), .int .i64 x137001_16, .int .i64 x137002_16, .int .i64 (wrap64 (1 + t130))] 33 (0, 0)) (bV BK136) NB136_0.out (by simp)); replace HK := Aside0.mk (KeepBut.trans (kI1 GW136) hk (.inl rfl)); replace HB := Aside0.mk hb; replace HI0 := Aside0.mk hi; (try clear hb); (try clear hk); (try clear hi)))
          go_meet
          case rel => exact ⟨_, (wrap64 ((wrap64 ((wrap64 (x5_2 + (wrap64 (1 + t130)))) + (wrap64 (1 + t130)))) + t143)), (t144), (t145), tE, H', ⟨by have := HJ3.out; have := HK2.out; have := HJ16.out; first | omega | exact Nat.le_refl _⟩, ⟨by (with_reducible repeat (first | apply Kd.R_alloc | apply Kd.R_drewN | apply Kd.R_drew)); exact HO_3.out⟩, ⟨by refine bU ?_; exact BK136.out⟩, ⟨iI45_0_12_1 NB0_136⟩, ⟨kI1 GW136⟩, ⟨lI45_0_1 GE136⟩⟩
         ·replace c39 := Bool.eq_false_iff.mpr c39
          subst c39
          have H1 : (spec_l1Cur_line10.j3 kj16 x3_2 x4_2 (wrap64 ((wrap64 (x5_2 + (wrap64 (1 + t130)))) + (wrap64 (1 + t130)))) s0_0 t141 t142 (wrap64 (x5_2 + (wrap64 (1 + t130)))) x137001_16 x137002_16 (wrap64 (1 + t130))) = some (r1, r2, r3) := by rw [if_neg (show ¬ (false = true) by decide)] at H; exact H
          clear H
          have H := H1
          clear H1
          have H' := Aside0.mk H
          clear H
          go_wp2
          go_meet
          case rel => exact ⟨_, (wrap64 ((wrap64 (x5_2 + (wrap64 (1 + t130)))) + (wrap64 (1 + t130)))), (t141), (t142), tE, H', ⟨by have := HJ3.out; have := HK2.out; have := HJ16.out; first | omega | exact Nat.le_refl _⟩, ⟨by (with_reducible repeat (first | apply Kd.R_alloc | apply Kd.R_drewN | apply Kd.R_drew)); exact HO_3.out⟩, ⟨by refine bU ?_; exact BK136.out⟩, ⟨iI45_0_12_1 NB0_136⟩, ⟨kI1 GW136⟩, ⟨lI45_0_1 GE136⟩⟩
        case rest =>
         clear HC33
         try clear c12; try clear c12b0; try clear hcz23_0; try clear hcz23_1; try clear hcz23_2; try clear hcz23_3; try clear hcz35_0; try clear hcz35_1; try clear hcz35_2; try clear hcz35_3; try clear hcz37_0; try clear hcz37_1; try clear hcz37_2; try clear hcz37_3; try clear hfz23_0; try clear hfz23_1; try clear hfz23_2; try clear hfz23_3; try clear hfz35_0; try clear hfz35_1; try clear hfz35_2; try clear hfz35_3; try clear hfz37_0; try clear hfz37_1; try clear hfz37_2; try clear hfz37_3
         obtain ⟨kq, x5_32, x1001_32, x1002_32, rfl, HA, HJ32, HO_3, BK136, HI0, HK, HB⟩ := hcut
         cases kq with
         | zero => exact absurd HA.out (by simp [spec_l1Cur_line10.j3])
         | succ kj32 =>
          have H := HA.out
          clear HA
          simp only [spec_l1Cur_line10.j3] at H
          replace H := Option.bind_eq_some_iff.mp H
          obtain ⟨⟨t146, t147, t148⟩, A420, H⟩ := H
          replace H : (if t146 = 0 then ((spec_l1Cur_among.f s0_0 t147 t148 (([1000000, (-1000000), 1000001] : List Int))).bind fun bt152 => (if x3_2.length < 4398046511104 then (spec_l1Cur_line10.l0 kj32 (x3_2 ++ [(⟨(wrap64 (x5_2 + (wrap64 (1 + t130)))), bt152.1, x137002_16, (wrap64 (1 + t130))⟩ : S33)]) (wrap64 (x4_2 - 1)) x5_32 s0_0 bt152.2.1 bt152.2.2) else (none))) else (if t146 = 1 then ((spec_l1Cur_among.f s0_0 t147 t148 (([1000000000, 1000000001, 9223372036854775807] : List Int))).bind fun bt161 => (if x3_2.length < 4398046511104 then (spec_l1Cur_line10.l0 kj32 (x3_2 ++ [(⟨bt161.1, x137001_16, x137002_16, (wrap64 (1 + t130))⟩ : S33)]) (wrap64 (x4_2 - 1)) x5_32 s0_0 bt161.2.1 bt161.2.2) else (none))) else (if t146 = 2 then ((spec_l1Cur_among.f s0_0 t147 t148 (([(-1), 12, 13] : List Int))).bind fun bt170 => (if x3_2.length < 4398046511104 then (spec_l1Cur_line10.l0 kj32 (x3_2 ++ [(⟨(wrap64 (x5_2 + (wrap64 (1 + t130)))), x137001_16, bt170.1, (wrap64 (1 + t130))⟩ : S33)]) (wrap64 (x4_2 - 1)) x5_32 s0_0 bt170.2.1 bt170.2.2) else (none))) else (if t146 = 3 then ((spec_l1Cur_among.f s0_0 t147 t148 (([0, 1000, 1001] : List Int))).bind fun bt179 => (if x3_2.length < 4398046511104 then (spec_l1Cur_line10.l0 kj32 (x3_2 ++ [(⟨(wrap64 (x5_2 + (wrap64 (1 + t130)))), x137001_16, x137002_16, bt179.1⟩ : S33)]) (wrap64 (x4_2 - 1)) x5_32 s0_0 bt179.2.1 bt179.2.2) else (none))) else (if x3_2.length < 4398046511104 then (spec_l1Cur_line10.l0 kj32 (x3_2 ++ [(⟨(wrap64 (x5_2 + (wrap64 (1 + t130)))), x137001_16, x137002_16, (wrap64 (1 + t130))⟩ : S33)]) (wrap64 (x4_2 - 1)) x5_32 s0_0 t147 t148) else (none)))))) = some (r1, r2, r3) := H
          have A42 := Aside0.mk A420
          clear A420
          by_cases c43 : t146 = 0
          ·rw [if_pos c43] at H
           have c43b0 : (t146 == 0) = true := beq_iff_eq.mpr c43
           have c43b1 : (t146 != 0) = false := bne_eq_false_iff_eq.mpr c43
           clear c43
           obtain ⟨y149, hy149⟩ : ∃ y_ : List Int, y_ = (([1000000, (-1000000), 1000001] : List Int)) := ⟨_, rfl⟩
           replace H : ((spec_l1Cur_among.f s0_0 t147 t148 y149).bind fun bt152 => (if x3_2.length < 4398046511104 then (spec_l1Cur_line10.l0 kj32 (x3_2 ++ [(⟨(wrap64 (x5_2 + (wrap64 (1 + t130)))), bt152.1, x137002_16, (wrap64 (1 + t130))⟩ : S33)]) (wrap64 (x4_2 - 1)) x5_32 s0_0 bt152.2.1 bt152.2.2) else (none))) = some (r1, r2, r3) := by first | (rw [hy149]; with_reducible exact H) | (have H2_ := (Option.bind_some _ _).symm.trans H; rw [hy149]; with_reducible exact H2_) | (have H2_ := (Option.bind_some _ _).symm.trans H; with_reducible exact H2_) | with_reducible exact H | (rw [hy149]; exact H) | exact H
           have Ny149 := Aside0.mk hy149
           clear hy149
           replace H := Option.bind_eq_some_iff.mp H
           obtain ⟨⟨t152, t153, t154⟩, A440, H⟩ := H
           replace H : (if x3_2.length < 4398046511104 then (spec_l1Cur_line10.l0 kj32 (x3_2 ++ [(⟨(wrap64 (x5_2 + (wrap64 (1 + t130)))), t152, x137002_16, (wrap64 (1 + t130))⟩ : S33)]) (wrap64 (x4_2 - 1)) x5_32 s0_0 t153 t154) else (none)) = some (r1, r2, r3) := H
           have A44 := Aside0.mk A440
           clear A440
           by_cases c45 : x3_2.length < 4398046511104
           ·rw [if_pos c45] at H
            have LMc45 := Aside0.mk c45
            clear c45
            obtain ⟨y155, hy155⟩ : ∃ y_ : List (S33), y_ = (x3_2 ++ [(⟨(wrap64 (x5_2 + (wrap64 (1 + t130)))), t152, x137002_16, (wrap64 (1 + t130))⟩ : S33)]) := ⟨_, rfl⟩
            replace H : (spec_l1Cur_line10.l0 kj32 y155 (wrap64 (x4_2 - 1)) x5_32 s0_0 t153 t154) = some (r1, r2, r3) := by first | (rw [hy155]; with_reducible exact H) | (have H2_ := (Option.bind_some _ _).symm.trans H; rw [hy155]; with_reducible exact H2_) | (have H2_ := (Option.bind_some _ _).symm.trans H; with_reducible exact H2_) | with_reducible exact H | (rw [hy155]; exact H) | exact H
            have Ny155 := Aside0.mk hy155
            clear hy155
            have H' := Aside0.mk H
            clear H
            go_wp2_with (first | ((with_reducible refine gate_callee (f := 14) rfl ?_); refine goesL_ (some 52) rfl rfl Try.func14 (by kernel_rfl) rfl #[.pointer (some ⟨g, 0, none⟩), .int .i64 120] rfl aE ?_; (with_reducible refine (spec_l1Cur_pick.calls g s0_0 x1001_32 x1002_32 120 t146 t147 t148 w0 _ ?side1 ?side2 A42.out).mono ?_); (case side1 => exact iI45_0_12_1 NB0_136); (case side2 => exact lI45_0_1 GE136); rintro e w46 ⟨rfl, hi, hb, hk⟩; refine ⟨_, rfl, ?_⟩; replace HO_3 := Aside0.mk (Kd.R_mono (Kd.R_keep (IsS45.apart (show IsS45 w0 _ g s0_0 x1001_32 x1002_32 from iI45_0_12_1 NB0_136) (rU HO_3.out) (by decide)) hk (fun _ h => h.2)) (fun _ h => h.1)); replace BK136 := Aside0.mk (KeepBut.blk hk (g' := gb136) (o := .cells #[.int .i64 (wrap64 (x5_2 + (wrap64 (1 + t130)))), .int .i64 x137001_16, .int .i64 x137002_16, .int .i64 (wrap64 (1 + t130))] 33 (0, 0)) (bV BK136) NB136_0.out (by simp)); replace HK := Aside0.mk (KeepBut.trans (kI1 GW136) hk (.inl rfl)); replace HB := Aside0.mk hb; replace HI0 := Aside0.mk hi; (try clear hb); (try clear hk); (try clear hi)) | ((with_reducible refine gate_dst (N := 56) rfl ?_); refine Kd.R_lit (Kd.int .i64) _ 3 ?hg (N := 56) ?hd (xs := ([1000000, (-1000000), 1000001] : List Int)) (inner := [.int .i64 1000000, .int .i64 (-1000000), .int .i64 1000001]) (ok := fun _ => True) (okp := fun _ => True) ?hr ?hp (fun _ hk => hk) trivial (Below.refl _ _) (Nat.le_refl _) (by simp) ?_; (case hd => rfl); (case hg => rfl); (case hr => exact sE); (case hp => exact (Reps.one (show Kd.M (Kd.int .i64) _ _ _ 1000000 [.int .i64 1000000] from rfl) (Reps.one (show Kd.M (Kd.int .i64) _ _ _ (-1000000) [.int .i64 (-1000000)] from rfl) (Reps.one (show Kd.M (Kd.int .i64) _ _ _ 1000001 [.int .i64 1000001] from rfl) (Reps.none _ _))))); intro v150 w47 ho48 hb hg_ hnew_; clear hg_ hnew_; (first | rw [← Ny149.out] at ho48 | (simp only [Int.reduceToNat] at ho48; rw [← Ny149.out] at ho48)); replace HO_3 := Aside0.mk (Kd.R_below (rU HO_3.out) hb); have HO151 := Aside0.mk (Kd.R_lower ho48 (keep_size (w := w) (g := g) (row := none) (kI1 GW136))); replace BK136 := bB (bV BK136) hb; replace HK := Aside0.mk (KeepBut.trans (kI1 GW136) (KeepBut.of_below hb g none) (.inl rfl)); replace HB := Aside0.mk (below_step (lI45_0_1 GE136) hb); replace HI0 := Aside0.mk (IsS45.below (iI45_0_12_1 NB0_136) hb); clear hb ho48; obtain ⟨Ao49, co49, eo49⟩ := Kd.R_slice HO151.out; subst eo49) | ((with_reducible refine gate_callee (f := 16) rfl ?_); refine goesL_ (some 57) rfl rfl Try.func16 (by kernel_rfl) rfl #[.pointer (some ⟨g, 0, none⟩), .slice Ao49 y149.length co49] rfl aE ?_; (with_reducible refine (spec_l1Cur_among.calls g s0_0 t147 t148 _ _ y149 t152 t153 t154 w0 _ ?side1 ?side2 ?side3 ?side4 ?side5 A44.out).mono ?_); (case side1 => exact iI45_0_12_1 NB0_136); (case side2 => exact lI45_0_1 GE136); (case side3 => exact cU (Kd.R_reads' HO151.out).2.2); (case side4 => exact (Kd.R_reads' HO151.out).2.1); (case side5 => exact far_slice (IsS45.own_ne HI0.out HO151.out (by decide))); rintro e w50 ⟨rfl, hi, hb, hk⟩; refine ⟨_, rfl, ?_⟩; replace HO_3 := Aside0.mk (Kd.R_mono (Kd.R_keep (IsS45.apart (show IsS45 w0 _ g s0_0 t147 t148 from iI45_0_12_1 NB0_136) (rU HO_3.out) (by decide)) hk (fun _ h => h.2)) (fun _ h => h.1)); replace BK136 := Aside0.mk (KeepBut.blk hk (g' := gb136) (o := .cells #[.int .i64 (wrap64 (x5_2 + (wrap64 (1 + t130)))), .int .i64 x137001_16, .int .i64 x137002_16, .int .i64 (wrap64 (1 + t130))] 33 (0, 0)) (bV BK136) NB136_0.out (by simp)); replace HO151 := Aside0.mk (Kd.R_mono (Kd.R_keep (IsS45.apart (show IsS45 w0 _ g s0_0 t147 t148 from iI45_0_12_1 NB0_136) (rU HO151.out) (by decide)) hk (fun _ h => h.2)) (fun _ h => h.1)); replace HK := Aside0.mk (KeepBut.trans (kI1 GW136) hk (.inl rfl)); replace HB := Aside0.mk hb; replace HI0 := Aside0.mk hi; (try clear hb); (try clear hk); (try clear hi); have hnb51 := NB136_0.out; have hnc51 := NB0_136.out; have hcz52_0 := cz BK136 0 (.int .i64 (wrap64 (x5_2 + (wrap64 (1 + t130))))); have hcz52_1 := cz BK136 1 (.int .i64 x137001_16); have hcz52_2 := cz BK136 2 (.int .i64 x137002_16); have hcz52_3 := cz BK136 3 (.int .i64 (wrap64 (1 + t130))); have hfz52_0 := fz BK136 0; have hfz52_1 := fz BK136 1; have hfz52_2 := fz BK136 2; have hfz52_3 := fz BK136 3) | ((with_reducible refine gate_store (t := 3) (p := 58) rfl ?_); refine store_event (t := 3) (p := 58) (v := ?vo_w53) (w1 := (w50.setCell ⟨gb136, 1, none⟩ (.int .i64 t152))) ?hg ?ho ?hn ?hr ?_; (case ho => rfl); (case hg => rfl); (case hn => rfl); (case hr => first | (go_simp; done) | (go_simp; rfl) | (have hq0_ := (blk_cell BK136.out 1).trans (show _ = some _ from rfl); have hf0_ := blk_frozen BK136.out 1; first | (go_simp; done) | (go_simp; rfl))); intro w53 hw; replace HO_3 : Aside0 (Kd.R k33 33 w53 w.heap.size (fun k_ => k_ ≠ gb136) u3 x3_2) := ⟨(by rw [hw]; exact (by (with_reducible repeat (first | apply Kd.R_alloc | apply Kd.R_drewN | apply Kd.R_drew)); exact Kd.R_mono (Kd.R_far (p := ⟨gb136, 1, none⟩) (Kd.R_mono HO_3.out (fun k_ hk => (⟨hk, hk⟩ : _ ∧ k_ ≠ gb136))) (fun _ hk => hk.2) (.int .i64 t152)) (fun _ hk => hk.1)))⟩; replace HO151 : Aside0 (Kd.R (Kd.int .i64) 3 w53 w.heap.size (fun _ => True) (.slice Ao49 y149.length co49) y149) := ⟨(by rw [hw]; exact (by (with_reducible repeat (first | apply Kd.R_alloc | apply Kd.R_drewN | apply Kd.R_drew)); exact Kd.R_mono (Kd.R_far (p := ⟨gb136, 1, none⟩) (Kd.R_types HO151.out BK136.out (by decide)) (fun _ hk => hk.2) (.int .i64 t152)) (fun _ hk => trivial)))⟩; replace BK136 : Aside0 (w53.heap[gb136]? = some (.cells #[.int .i64 (wrap64 (x5_2 + (wrap64 (1 + t130)))), .int .i64 t152, .int .i64 x137002_16, .int .i64 (wrap64 (1 + t130))] 33 (0, 0))) := ⟨(by rw [hw]; exact (by refine bU ?_; refine blk_put (cs := #[.int .i64 (wrap64 (x5_2 + (wrap64 (1 + t130)))), .int .i64 x137001_16, .int .i64 x137002_16, .int .i64 (wrap64 (1 + t130))]) ?_ 1 _ rfl; refine bU ?_; exact BK136.out))⟩; replace HK : Aside0 (KeepBut w w53 g none) := ⟨(by rw [hw]; exact (kI1 GW136))⟩; replace HB : Aside0 (Below w0.heap.size w0 w53) := ⟨(by rw [hw]; exact (lI45_0_1 GE136))⟩; replace HI0 : Aside0 (IsS45 w0 w53 g s0_0 t153 t154) := ⟨(by rw [hw]; exact (iI45_0_12_1 NB0_136))⟩; clear hw; have hcz54_0 := cz BK136 0 (.int .i64 (wrap64 (x5_2 + (wrap64 (1 + t130))))); have hcz54_1 := cz BK136 1 (.int .i64 t152); have hcz54_2 := cz BK136 2 (.int .i64 x137002_16); have hcz54_3 := cz BK136 3 (.int .i64 (wrap64 (1 + t130))); have hfz54_0 := fz BK136 0; have hfz54_1 := fz BK136 1; have hfz54_2 := fz BK136 2; have hfz54_3 := fz BK136 3) | ((with_reducible refine gate_builtin (b := .append) (xs := #[.tmp 77, .tmp 79]) rfl ?_); at_builtin; refine Kd.R_append k33 w.heap.size rfl (.tmp 77) (.tmp 79) 23 33 (.agg #[(.int .i64 0), (.int .i64 0), (.int .i64 0), (.int .i64 0)]) 32 rfl Try.underlying23 info33 rfl (by decide) (by omega) u3 x3_2 (⟨(wrap64 (x5_2 + (wrap64 (1 + t130)))), t152, x137002_16, (wrap64 (1 + t130))⟩ : S33) [.int .i64 (wrap64 (x5_2 + (wrap64 (1 + t130)))), .int .i64 t152, .int .i64 x137002_16, .int .i64 (wrap64 (1 + t130))] (fun k_ => k_ ≠ gb136) (fun _ => False) rfl rfl ?aP (fun _ hk => hk.elim) ?aF ?aO (Below.refl _ _) ?aS ?aL ?_; (case aP => exact k33_mkM _ _ _ (⟨(wrap64 (x5_2 + (wrap64 (1 + t130)))), t152, x137002_16, (wrap64 (1 + t130))⟩ : S33)); (case aF => exact (fun k_ hk => Kd.freshB (g := gb136) (o := .cells #[.int .i64 (wrap64 (x5_2 + (wrap64 (1 + t130)))), .int .i64 t152, .int .i64 x137002_16, .int .i64 (wrap64 (1 + t130))] 33 (0, 0)) (bV BK136) k_ hk)); (case aO => exact (rU HO_3.out)); (case aS => exact (keep_size (w := w) (g := g) (row := none) (kI1 GW136))); (case aL => have := LMc45.out; omega); intro v156 w55 ho hb hg hat; rw [← Ny155.out] at ho; replace BK136 := Aside0.mk (blk_grown (g := gb136) (o := .cells #[.int .i64 (wrap64 (x5_2 + (wrap64 (1 + t130)))), .int .i64 t152, .int .i64 x137002_16, .int .i64 (wrap64 (1 + t130))] 33 (0, 0)) (bV BK136) hg (Kd.R_away HO_3.out (fun _ hk => hk))); replace HO151 := Aside0.mk (Kd.R_over' (rU HO151.out) (Kd.R_typed (rU HO_3.out)) (by decide) hg); replace HB := Aside0.mk (below_weaken (lI45_0_1 GE136) HL.out hb); replace HI0 := Aside0.mk (IsS45.grown (iI45_0_12_1 NB0_136) hg (IsS45.own_ne HI0.out HO_3.out (by decide))); replace HK := Aside0.mk (KeepBut.trans (kI1 GW136) (KeepBut.of_grown hg g) (Kd.R_base2 HO_3.out)); have HO157 := Aside0.mk ho; clear HO_3; clear ho hb hg hat))
            go_roundg kj32
            case measure => have := HJ3.out; have := HK2.out; have := HJ16.out; have := HJ32.out; omega
            case rel => exact ⟨(y155), (wrap64 (x4_2 - 1)), (x5_32), (t153), (t154), tE, tE, H', ⟨by have := HJ3.out; have := HK2.out; have := HJ16.out; have := HJ32.out; omega⟩, ⟨by (with_reducible repeat (first | apply Kd.R_alloc | apply Kd.R_drewN | apply Kd.R_drew)); exact Kd.R_mono HO157.out (fun _ hk => trivial)⟩, ⟨iI45_0_12_1 NB0_136⟩, ⟨kI1 GW136⟩, ⟨lI45_0_1 GE136⟩⟩
           ·rw [if_neg c45] at H
            exact absurd H (by simp)
          ·rw [if_neg c43] at H
           have c43b0 : (t146 == 0) = false := beq_eq_false_iff_ne.mpr c43
           have c43b1 : (t146 != 0) = true := bne_iff_ne.mpr c43
           by_cases c56 : t146 = 1
           ·rw [if_pos c56] at H
            have c56b0 : (t146 == 1) = true := beq_iff_eq.mpr c56
            have c56b1 : (t146 != 1) = false := bne_eq_false_iff_eq.mpr c56
            clear c56
            obtain ⟨y158, hy158⟩ : ∃ y_ : List Int, y_ = (([1000000000, 1000000001, 9223372036854775807] : List Int)) := ⟨_, rfl⟩
            replace H : ((spec_l1Cur_among.f s0_0 t147 t148 y158).bind fun bt161 => (if x3_2.length < 4398046511104 then (spec_l1Cur_line10.l0 kj32 (x3_2 ++ [(⟨bt161.1, x137001_16, x137002_16, (wrap64 (1 + t130))⟩ : S33)]) (wrap64 (x4_2 - 1)) x5_32 s0_0 bt161.2.1 bt161.2.2) else (none))) = some (r1, r2, r3) := by first | (rw [hy158]; with_reducible exact H) | (have H2_ := (Option.bind_some _ _).symm.trans H; rw [hy158]; with_reducible exact H2_) | (have H2_ := (Option.bind_some _ _).symm.trans H; with_reducible exact H2_) | with_reducible exact H | (rw [hy158]; exact H) | exact H
            have Ny158 := Aside0.mk hy158
            clear hy158
            replace H := Option.bind_eq_some_iff.mp H
            obtain ⟨⟨t161, t162, t163⟩, A570, H⟩ := H
            replace H : (if x3_2.length < 4398046511104 then (spec_l1Cur_line10.l0 kj32 (x3_2 ++ [(⟨t161, x137001_16, x137002_16, (wrap64 (1 + t130))⟩ : S33)]) (wrap64 (x4_2 - 1)) x5_32 s0_0 t162 t163) else (none)) = some (r1, r2, r3) := H
            have A57 := Aside0.mk A570
            clear A570
            by_cases c58 : x3_2.length < 4398046511104
            ·rw [if_pos c58] at H
             have LMc58 := Aside0.mk c58
             clear c58
             obtain ⟨y164, hy164⟩ : ∃ y_ : List (S33), y_ = (x3_2 ++ [(⟨t161, x137001_16, x137002_16, (wrap64 (1 + t130))⟩ : S33)]) := ⟨_, rfl⟩
             replace H : (spec_l1Cur_line10.l0 kj32 y164 (wrap64 (x4_2 - 1)) x5_32 s0_0 t162 t163) = some (r1, r2, r3) := by first | (rw [hy164]; with_reducible exact H) | (have H2_ := (Option.bind_some _ _).symm.trans H; rw [hy164]; with_reducible exact H2_) | (have H2_ := (Option.bind_some _ _).symm.trans H; with_reducible exact H2_) | with_reducible exact H | (rw [hy164]; exact H) | exact H
             have Ny164 := Aside0.mk hy164
             clear hy164
             have H' := Aside0.mk H
             clear H
             go_wp2_with (first | ((with_reducible refine gate_callee (f := 14) rfl ?_); refine goesL_ (some 52) rfl rfl Try.func14 (by kernel_rfl) rfl #[.pointer (some ⟨g, 0, none⟩), .int .i64 120] rfl aE ?_; (with_reducible refine (spec_l1Cur_pick.calls g s0_0 x1001_32 x1002_32 120 t146 t147 t148 w0 _ ?side1 ?side2 A42.out).mono ?_); (case side1 => exact iI45_0_12_1 NB0_136); (case side2 => exact lI45_0_1 GE136); rintro e w59 ⟨rfl, hi, hb, hk⟩; refine ⟨_, rfl, ?_⟩; replace HO_3 := Aside0.mk (Kd.R_mono (Kd.R_keep (IsS45.apart (show IsS45 w0 _ g s0_0 x1001_32 x1002_32 from iI45_0_12_1 NB0_136) (rU HO_3.out) (by decide)) hk (fun _ h => h.2)) (fun _ h => h.1)); replace BK136 := Aside0.mk (KeepBut.blk hk (g' := gb136) (o := .cells #[.int .i64 (wrap64 (x5_2 + (wrap64 (1 + t130)))), .int .i64 x137001_16, .int .i64 x137002_16, .int .i64 (wrap64 (1 + t130))] 33 (0, 0)) (bV BK136) NB136_0.out (by simp)); replace HK := Aside0.mk (KeepBut.trans (kI1 GW136) hk (.inl rfl)); replace HB := Aside0.mk hb; replace HI0 := Aside0.mk hi; (try clear hb); (try clear hk); (try clear hi)) | ((with_reducible refine gate_dst (N := 62) rfl ?_); refine Kd.R_lit (Kd.int .i64) _ 3 ?hg (N := 62) ?hd (xs := ([1000000000, 1000000001, 9223372036854775807] : List Int)) (inner := [.int .i64 1000000000, .int .i64 1000000001, .int .i64 9223372036854775807]) (ok := fun _ => True) (okp := fun _ => True) ?hr ?hp (fun _ hk => hk) trivial (Below.refl _ _) (Nat.le_refl _) (by simp) ?_; (case hd => rfl); (case hg => rfl); (case hr => exact sE); (case hp => exact (Reps.one (show Kd.M (Kd.int .i64) _ _ _ 1000000000 [.int .i64 1000000000] from rfl) (Reps.one (show Kd.M (Kd.int .i64) _ _ _ 1000000001 [.int .i64 1000000001] from rfl) (Reps.one (show Kd.M (Kd.int .i64) _ _ _ 9223372036854775807 [.int .i64 9223372036854775807] from rfl) (Reps.none _ _))))); intro v159 w60 ho61 hb hg_ hnew_; clear hg_ hnew_; (first | rw [← Ny158.out] at ho61 | (simp only [Int.reduceToNat] at ho61; rw [← Ny158.out] at ho61)); replace HO_3 := Aside0.mk (Kd.R_below (rU HO_3.out) hb); have HO160 := Aside0.mk (Kd.R_lower ho61 (keep_size (w := w) (g := g) (row := none) (kI1 GW136))); replace BK136 := bB (bV BK136) hb; replace HK := Aside0.mk (KeepBut.trans (kI1 GW136) (KeepBut.of_below hb g none) (.inl rfl)); replace HB := Aside0.mk (below_step (lI45_0_1 GE136) hb); replace HI0 := Aside0.mk (IsS45.below (iI45_0_12_1 NB0_136) hb); clear hb ho61; obtain ⟨Ao62, co62, eo62⟩ := Kd.R_slice HO160.out; subst eo62) | ((with_reducible refine gate_callee (f := 16) rfl ?_); refine goesL_ (some 63) rfl rfl Try.func16 (by kernel_rfl) rfl #[.pointer (some ⟨g, 0, none⟩), .slice Ao62 y158.length co62] rfl aE ?_; (with_reducible refine (spec_l1Cur_among.calls g s0_0 t147 t148 _ _ y158 t161 t162 t163 w0 _ ?side1 ?side2 ?side3 ?side4 ?side5 A57.out).mono ?_); (case side1 => exact iI45_0_12_1 NB0_136); (case side2 => exact lI45_0_1 GE136); (case side3 => exact cU (Kd.R_reads' HO160.out).2.2); (case side4 => exact (Kd.R_reads' HO160.out).2.1); (case side5 => exact far_slice (IsS45.own_ne HI0.out HO160.out (by decide))); rintro e w63 ⟨rfl, hi, hb, hk⟩; refine ⟨_, rfl, ?_⟩; replace HO_3 := Aside0.mk (Kd.R_mono (Kd.R_keep (IsS45.apart (show IsS45 w0 _ g s0_0 t147 t148 from iI45_0_12_1 NB0_136) (rU HO_3.out) (by decide)) hk (fun _ h => h.2)) (fun _ h => h.1)); replace BK136 := Aside0.mk (KeepBut.blk hk (g' := gb136) (o := .cells #[.int .i64 (wrap64 (x5_2 + (wrap64 (1 + t130)))), .int .i64 x137001_16, .int .i64 x137002_16, .int .i64 (wrap64 (1 + t130))] 33 (0, 0)) (bV BK136) NB136_0.out (by simp)); replace HO160 := Aside0.mk (Kd.R_mono (Kd.R_keep (IsS45.apart (show IsS45 w0 _ g s0_0 t147 t148 from iI45_0_12_1 NB0_136) (rU HO160.out) (by decide)) hk (fun _ h => h.2)) (fun _ h => h.1)); replace HK := Aside0.mk (KeepBut.trans (kI1 GW136) hk (.inl rfl)); replace HB := Aside0.mk hb; replace HI0 := Aside0.mk hi; (try clear hb); (try clear hk); (try clear hi); have hnb64 := NB136_0.out; have hnc64 := NB0_136.out; have hcz65_0 := cz BK136 0 (.int .i64 (wrap64 (x5_2 + (wrap64 (1 + t130))))); have hcz65_1 := cz BK136 1 (.int .i64 x137001_16); have hcz65_2 := cz BK136 2 (.int .i64 x137002_16); have hcz65_3 := cz BK136 3 (.int .i64 (wrap64 (1 + t130))); have hfz65_0 := fz BK136 0; have hfz65_1 := fz BK136 1; have hfz65_2 := fz BK136 2; have hfz65_3 := fz BK136 3) | ((with_reducible refine gate_store (t := 3) (p := 64) rfl ?_); refine store_event (t := 3) (p := 64) (v := ?vo_w66) (w1 := (w63.setCell ⟨gb136, 0, none⟩ (.int .i64 t161))) ?hg ?ho ?hn ?hr ?_; (case ho => rfl); (case hg => rfl); (case hn => rfl); (case hr => first | (go_simp; done) | (go_simp; rfl) | (have hq0_ := (blk_cell BK136.out 0).trans (show _ = some _ from rfl); have hf0_ := blk_frozen BK136.out 0; first | (go_simp; done) | (go_simp; rfl))); intro w66 hw; replace HO_3 : Aside0 (Kd.R k33 33 w66 w.heap.size (fun k_ => k_ ≠ gb136) u3 x3_2) := ⟨(by rw [hw]; exact (by (with_reducible repeat (first | apply Kd.R_alloc | apply Kd.R_drewN | apply Kd.R_drew)); exact Kd.R_mono (Kd.R_far (p := ⟨gb136, 0, none⟩) (Kd.R_mono HO_3.out (fun k_ hk => (⟨hk, hk⟩ : _ ∧ k_ ≠ gb136))) (fun _ hk => hk.2) (.int .i64 t161)) (fun _ hk => hk.1)))⟩; replace HO160 : Aside0 (Kd.R (Kd.int .i64) 3 w66 w.heap.size (fun _ => True) (.slice Ao62 y158.length co62) y158) := ⟨(by rw [hw]; exact (by (with_reducible repeat (first | apply Kd.R_alloc | apply Kd.R_drewN | apply Kd.R_drew)); exact Kd.R_mono (Kd.R_far (p := ⟨gb136, 0, none⟩) (Kd.R_types HO160.out BK136.out (by decide)) (fun _ hk => hk.2) (.int .i64 t161)) (fun _ hk => trivial)))⟩; replace BK136 : Aside0 (w66.heap[gb136]? = some (.cells #[.int .i64 t161, .int .i64 x137001_16, .int .i64 x137002_16, .int .i64 (wrap64 (1 + t130))] 33 (0, 0))) := ⟨(by rw [hw]; exact (by refine bU ?_; refine blk_put (cs := #[.int .i64 (wrap64 (x5_2 + (wrap64 (1 + t130)))), .int .i64 x137001_16, .int .i64 x137002_16, .int .i64 (wrap64 (1 + t130))]) ?_ 0 _ rfl; refine bU ?_; exact BK136.out))⟩; replace HK : Aside0 (KeepBut w w66 g none) := ⟨(by rw [hw]; exact (kI1 GW136))⟩; replace HB : Aside0 (Below w0.heap.size w0 w66) := ⟨(by rw [hw]; exact (lI45_0_1 GE136))⟩; replace HI0 : Aside0 (IsS45 w0 w66 g s0_0 t162 t163) := ⟨(by rw [hw]; exact (iI45_0_12_1 NB0_136))⟩; clear hw; have hcz67_0 := cz BK136 0 (.int .i64 t161); have hcz67_1 := cz BK136 1 (.int .i64 x137001_16); have hcz67_2 := cz BK136 2 (.int .i64 x137002_16); have hcz67_3 := cz BK136 3 (.int .i64 (wrap64 (1 + t130))); have hfz67_0 := fz BK136 0; have hfz67_1 := fz BK136 1; have hfz67_2 := fz BK136 2; have hfz67_3 := fz BK136 3) | ((with_reducible refine gate_builtin (b := .append) (xs := #[.tmp 77, .tmp 79]) rfl ?_); at_builtin; refine Kd.R_append k33 w.heap.size rfl (.tmp 77) (.tmp 79) 23 33 (.agg #[(.int .i64 0), (.int .i64 0), (.int .i64 0), (.int .i64 0)]) 32 rfl Try.underlying23 info33 rfl (by decide) (by omega) u3 x3_2 (⟨t161, x137001_16, x137002_16, (wrap64 (1 + t130))⟩ : S33) [.int .i64 t161, .int .i64 x137001_16, .int .i64 x137002_16, .int .i64 (wrap64 (1 + t130))] (fun k_ => k_ ≠ gb136) (fun _ => False) rfl rfl ?aP (fun _ hk => hk.elim) ?aF ?aO (Below.refl _ _) ?aS ?aL ?_; (case aP => exact k33_mkM _ _ _ (⟨t161, x137001_16, x137002_16, (wrap64 (1 + t130))⟩ : S33)); (case aF => exact (fun k_ hk => Kd.freshB (g := gb136) (o := .cells #[.int .i64 t161, .int .i64 x137001_16, .int .i64 x137002_16, .int .i64 (wrap64 (1 + t130))] 33 (0, 0)) (bV BK136) k_ hk)); (case aO => exact (rU HO_3.out)); (case aS => exact (keep_size (w := w) (g := g) (row := none) (kI1 GW136))); (case aL => have := LMc58.out; omega); intro v165 w68 ho hb hg hat; rw [← Ny164.out] at ho; replace BK136 := Aside0.mk (blk_grown (g := gb136) (o := .cells #[.int .i64 t161, .int .i64 x137001_16, .int .i64 x137002_16, .int .i64 (wrap64 (1 + t130))] 33 (0, 0)) (bV BK136) hg (Kd.R_away HO_3.out (fun _ hk => hk))); replace HO160 := Aside0.mk (Kd.R_over' (rU HO160.out) (Kd.R_typed (rU HO_3.out)) (by decide) hg); replace HB := Aside0.mk (below_weaken (lI45_0_1 GE136) HL.out hb); replace HI0 := Aside0.mk (IsS45.grown (iI45_0_12_1 NB0_136) hg (IsS45.own_ne HI0.out HO_3.out (by decide))); replace HK := Aside0.mk (KeepBut.trans (kI1 GW136) (KeepBut.of_grown hg g) (Kd.R_base2 HO_3.out)); have HO166 := Aside0.mk ho; clear HO_3; clear ho hb hg hat))
             go_roundg kj32
             case measure => have := HJ3.out; have := HK2.out; have := HJ16.out; have := HJ32.out; omega
             case rel => exact ⟨(y164), (wrap64 (x4_2 - 1)), (x5_32), (t162), (t163), tE, tE, H', ⟨by have := HJ3.out; have := HK2.out; have := HJ16.out; have := HJ32.out; omega⟩, ⟨by (with_reducible repeat (first | apply Kd.R_alloc | apply Kd.R_drewN | apply Kd.R_drew)); exact Kd.R_mono HO166.out (fun _ hk => trivial)⟩, ⟨iI45_0_12_1 NB0_136⟩, ⟨kI1 GW136⟩, ⟨lI45_0_1 GE136⟩⟩
            ·rw [if_neg c58] at H
             exact absurd H (by simp)
           ·rw [if_neg c56] at H
            have c56b0 : (t146 == 1) = false := beq_eq_false_iff_ne.mpr c56
            have c56b1 : (t146 != 1) = true := bne_iff_ne.mpr c56
            by_cases c69 : t146 = 2
            ·rw [if_pos c69] at H
             have c69b0 : (t146 == 2) = true := beq_iff_eq.mpr c69
             have c69b1 : (t146 != 2) = false := bne_eq_false_iff_eq.mpr c69
             clear c69
             obtain ⟨y167, hy167⟩ : ∃ y_ : List Int, y_ = (([(-1), 12, 13] : List Int)) := ⟨_, rfl⟩
             replace H : ((spec_l1Cur_among.f s0_0 t147 t148 y167).bind fun bt170 => (if x3_2.length < 4398046511104 then (spec_l1Cur_line10.l0 kj32 (x3_2 ++ [(⟨(wrap64 (x5_2 + (wrap64 (1 + t130)))), x137001_16, bt170.1, (wrap64 (1 + t130))⟩ : S33)]) (wrap64 (x4_2 - 1)) x5_32 s0_0 bt170.2.1 bt170.2.2) else (none))) = some (r1, r2, r3) := by first | (rw [hy167]; with_reducible exact H) | (have H2_ := (Option.bind_some _ _).symm.trans H; rw [hy167]; with_reducible exact H2_) | (have H2_ := (Option.bind_some _ _).symm.trans H; with_reducible exact H2_) | with_reducible exact H | (rw [hy167]; exact H) | exact H
             have Ny167 := Aside0.mk hy167
             clear hy167
             replace H := Option.bind_eq_some_iff.mp H
             obtain ⟨⟨t170, t171, t172⟩, A700, H⟩ := H
             replace H : (if x3_2.length < 4398046511104 then (spec_l1Cur_line10.l0 kj32 (x3_2 ++ [(⟨(wrap64 (x5_2 + (wrap64 (1 + t130)))), x137001_16, t170, (wrap64 (1 + t130))⟩ : S33)]) (wrap64 (x4_2 - 1)) x5_32 s0_0 t171 t172) else (none)) = some (r1, r2, r3) := H
             have A70 := Aside0.mk A700
             clear A700
             by_cases c71 : x3_2.length < 4398046511104
             ·rw [if_pos c71] at H
              have LMc71 := Aside0.mk c71
              clear c71
              obtain ⟨y173, hy173⟩ : ∃ y_ : List (S33), y_ = (x3_2 ++ [(⟨(wrap64 (x5_2 + (wrap64 (1 + t130)))), x137001_16, t170, (wrap64 (1 + t130))⟩ : S33)]) := ⟨_, rfl⟩
              replace H : (spec_l1Cur_line10.l0 kj32 y173 (wrap64 (x4_2 - 1)) x5_32 s0_0 t171 t172) = some (r1, r2, r3) := by first | (rw [hy173]; with_reducible exact H) | (have H2_ := (Option.bind_some _ _).symm.trans H; rw [hy173]; with_reducible exact H2_) | (have H2_ := (Option.bind_some _ _).symm.trans H; with_reducible exact H2_) | with_reducible exact H | (rw [hy173]; exact H) | exact H
              have Ny173 := Aside0.mk hy173
              clear hy173
              have H' := Aside0.mk H
              clear H
              go_wp2_with (first | ((with_reducible refine gate_callee (f := 14) rfl ?_); refine goesL_ (some 52) rfl rfl Try.func14 (by kernel_rfl) rfl #[.pointer (some ⟨g, 0, none⟩), .int .i64 120] rfl aE ?_; (with_reducible refine (spec_l1Cur_pick.calls g s0_0 x1001_32 x1002_32 120 t146 t147 t148 w0 _ ?side1 ?side2 A42.out).mono ?_); (case side1 => exact iI45_0_12_1 NB0_136); (case side2 => exact lI45_0_1 GE136); rintro e w72 ⟨rfl, hi, hb, hk⟩; refine ⟨_, rfl, ?_⟩; replace HO_3 := Aside0.mk (Kd.R_mono (Kd.R_keep (IsS45.apart (show IsS45 w0 _ g s0_0 x1001_32 x1002_32 from iI45_0_12_1 NB0_136) (rU HO_3.out) (by decide)) hk (fun _ h => h.2)) (fun _ h => h.1)); replace BK136 := Aside0.mk (KeepBut.blk hk (g' := gb136) (o := .cells #[.int .i64 (wrap64 (x5_2 + (wrap64 (1 + t130)))), .int .i64 x137001_16, .int .i64 x137002_16, .int .i64 (wrap64 (1 + t130))] 33 (0, 0)) (bV BK136) NB136_0.out (by simp)); replace HK := Aside0.mk (KeepBut.trans (kI1 GW136) hk (.inl rfl)); replace HB := Aside0.mk hb; replace HI0 := Aside0.mk hi; (try clear hb); (try clear hk); (try clear hi)) | ((with_reducible refine gate_dst (N := 68) rfl ?_); refine Kd.R_lit (Kd.int .i64) _ 3 ?hg (N := 68) ?hd (xs := ([(-1), 12, 13] : List Int)) (inner := [.int .i64 (-1), .int .i64 12, .int .i64 13]) (ok := fun _ => True) (okp := fun _ => True) ?hr ?hp (fun _ hk => hk) trivial (Below.refl _ _) (Nat.le_refl _) (by simp) ?_; (case hd => rfl); (case hg => rfl); (case hr => exact sE); (case hp => exact (Reps.one (show Kd.M (Kd.int .i64) _ _ _ (-1) [.int .i64 (-1)] from rfl) (Reps.one (show Kd.M (Kd.int .i64) _ _ _ 12 [.int .i64 12] from rfl) (Reps.one (show Kd.M (Kd.int .i64) _ _ _ 13 [.int .i64 13] from rfl) (Reps.none _ _))))); intro v168 w73 ho74 hb hg_ hnew_; clear hg_ hnew_; (first | rw [← Ny167.out] at ho74 | (simp only [Int.reduceToNat] at ho74; rw [← Ny167.out] at ho74)); replace HO_3 := Aside0.mk (Kd.R_below (rU HO_3.out) hb); have HO169 := Aside0.mk (Kd.R_lower ho74 (keep_size (w := w) (g := g) (row := none) (kI1 GW136))); replace BK136 := bB (bV BK136) hb; replace HK := Aside0.mk (KeepBut.trans (kI1 GW136) (KeepBut.of_below hb g none) (.inl rfl)); replace HB := Aside0.mk (below_step (lI45_0_1 GE136) hb); replace HI0 := Aside0.mk (IsS45.below (iI45_0_12_1 NB0_136) hb); clear hb ho74; obtain ⟨Ao75, co75, eo75⟩ := Kd.R_slice HO169.out; subst eo75) | ((with_reducible refine gate_callee (f := 16) rfl ?_); refine goesL_ (some 69) rfl rfl Try.func16 (by kernel_rfl) rfl #[.pointer (some ⟨g, 0, none⟩), .slice Ao75 y167.length co75] rfl aE ?_; (with_reducible refine (spec_l1Cur_among.calls g s0_0 t147 t148 _ _ y167 t170 t171 t172 w0 _ ?side1 ?side2 ?side3 ?side4 ?side5 A70.out).mono ?_); (case side1 => exact iI45_0_12_1 NB0_136); (case side2 => exact lI45_0_1 GE136); (case side3 => exact cU (Kd.R_reads' HO169.out).2.2); (case side4 => exact (Kd.R_reads' HO169.out).2.1); (case side5 => exact far_slice (IsS45.own_ne HI0.out HO169.out (by decide))); rintro e w76 ⟨rfl, hi, hb, hk⟩; refine ⟨_, rfl, ?_⟩; replace HO_3 := Aside0.mk (Kd.R_mono (Kd.R_keep (IsS45.apart (show IsS45 w0 _ g s0_0 t147 t148 from iI45_0_12_1 NB0_136) (rU HO_3.out) (by decide)) hk (fun _ h => h.2)) (fun _ h => h.1)); replace BK136 := Aside0.mk (KeepBut.blk hk (g' := gb136) (o := .cells #[.int .i64 (wrap64 (x5_2 + (wrap64 (1 + t130)))), .int .i64 x137001_16, .int .i64 x137002_16, .int .i64 (wrap64 (1 + t130))] 33 (0, 0)) (bV BK136) NB136_0.out (by simp)); replace HO169 := Aside0.mk (Kd.R_mono (Kd.R_keep (IsS45.apart (show IsS45 w0 _ g s0_0 t147 t148 from iI45_0_12_1 NB0_136) (rU HO169.out) (by decide)) hk (fun _ h => h.2)) (fun _ h => h.1)); replace HK := Aside0.mk (KeepBut.trans (kI1 GW136) hk (.inl rfl)); replace HB := Aside0.mk hb; replace HI0 := Aside0.mk hi; (try clear hb); (try clear hk); (try clear hi); have hnb77 := NB136_0.out; have hnc77 := NB0_136.out; have hcz78_0 := cz BK136 0 (.int .i64 (wrap64 (x5_2 + (wrap64 (1 + t130))))); have hcz78_1 := cz BK136 1 (.int .i64 x137001_16); have hcz78_2 := cz BK136 2 (.int .i64 x137002_16); have hcz78_3 := cz BK136 3 (.int .i64 (wrap64 (1 + t130))); have hfz78_0 := fz BK136 0; have hfz78_1 := fz BK136 1; have hfz78_2 := fz BK136 2; have hfz78_3 := fz BK136 3) | ((with_reducible refine gate_store (t := 3) (p := 70) rfl ?_); refine store_event (t := 3) (p := 70) (v := ?vo_w79) (w1 := (w76.setCell ⟨gb136, 2, none⟩ (.int .i64 t170))) ?hg ?ho ?hn ?hr ?_; (case ho => rfl); (case hg => rfl); (case hn => rfl); (case hr => first | (go_simp; done) | (go_simp; rfl) | (have hq0_ := (blk_cell BK136.out 2).trans (show _ = some _ from rfl); have hf0_ := blk_frozen BK136.out 2; first | (go_simp; done) | (go_simp; rfl))); intro w79 hw; replace HO_3 : Aside0 (Kd.R k33 33 w79 w.heap.size (fun k_ => k_ ≠ gb136) u3 x3_2) := ⟨(by rw [hw]; exact (by (with_reducible repeat (first | apply Kd.R_alloc | apply Kd.R_drewN | apply Kd.R_drew)); exact Kd.R_mono (Kd.R_far (p := ⟨gb136, 2, none⟩) (Kd.R_mono HO_3.out (fun k_ hk => (⟨hk, hk⟩ : _ ∧ k_ ≠ gb136))) (fun _ hk => hk.2) (.int .i64 t170)) (fun _ hk => hk.1)))⟩; replace HO169 : Aside0 (Kd.R (Kd.int .i64) 3 w79 w.heap.size (fun _ => True) (.slice Ao75 y167.length co75) y167) := ⟨(by rw [hw]; exact (by (with_reducible repeat (first | apply Kd.R_alloc | apply Kd.R_drewN | apply Kd.R_drew)); exact Kd.R_mono (Kd.R_far (p := ⟨gb136, 2, none⟩) (Kd.R_types HO169.out BK136.out (by decide)) (fun _ hk => hk.2) (.int .i64 t170)) (fun _ hk => trivial)))⟩; replace BK136 : Aside0 (w79.heap[gb136]? = some (.cells #[.int .i64 (wrap64 (x5_2 + (wrap64 (1 + t130)))), .int .i64 x137001_16, .int .i64 t170, .int .i64 (wrap64 (1 + t130))] 33 (0, 0))) := ⟨(by rw [hw]; exact (by refine bU ?_; refine blk_put (cs := #[.int .i64 (wrap64 (x5_2 + (wrap64 (1 + t130)))), .int .i64 x137001_16, .int .i64 x137002_16, .int .i64 (wrap64 (1 + t130))]) ?_ 2 _ rfl; refine bU ?_; exact BK136.out))⟩; replace HK : Aside0 (KeepBut w w79 g none) := ⟨(by rw [hw]; exact (kI1 GW136))⟩; replace HB : Aside0 (Below w0.heap.size w0 w79) := ⟨(by rw [hw]; exact (lI45_0_1 GE136))⟩; replace HI0 : Aside0 (IsS45 w0 w79 g s0_0 t171 t172) := ⟨(by rw [hw]; exact (iI45_0_12_1 NB0_136))⟩; clear hw; have hcz80_0 := cz BK136 0 (.int .i64 (wrap64 (x5_2 + (wrap64 (1 + t130))))); have hcz80_1 := cz BK136 1 (.int .i64 x137001_16); have hcz80_2 := cz BK136 2 (.int .i64 t170); have hcz80_3 := cz BK136 3 (.int .i64 (wrap64 (1 + t130))); have hfz80_0 := fz BK136 0; have hfz80_1 := fz BK136 1; have hfz80_2 := fz BK136 2; have hfz80_3 := fz BK136 3) | ((with_reducible refine gate_builtin (b := .append) (xs := #[.tmp 77, .tmp 79]) rfl ?_); at_builtin; refine Kd.R_append k33 w.heap.size rfl (.tmp 77) (.tmp 79) 23 33 (.agg #[(.int .i64 0), (.int .i64 0), (.int .i64 0), (.int .i64 0)]) 32 rfl Try.underlying23 info33 rfl (by decide) (by omega) u3 x3_2 (⟨(wrap64 (x5_2 + (wrap64 (1 + t130)))), x137001_16, t170, (wrap64 (1 + t130))⟩ : S33) [.int .i64 (wrap64 (x5_2 + (wrap64 (1 + t130)))), .int .i64 x137001_16, .int .i64 t170, .int .i64 (wrap64 (1 + t130))] (fun k_ => k_ ≠ gb136) (fun _ => False) rfl rfl ?aP (fun _ hk => hk.elim) ?aF ?aO (Below.refl _ _) ?aS ?aL ?_; (case aP => exact k33_mkM _ _ _ (⟨(wrap64 (x5_2 + (wrap64 (1 + t130)))), x137001_16, t170, (wrap64 (1 + t130))⟩ : S33)); (case aF => exact (fun k_ hk => Kd.freshB (g := gb136) (o := .cells #[.int .i64 (wrap64 (x5_2 + (wrap64 (1 + t130)))), .int .i64 x137001_16, .int .i64 t170, .int .i64 (wrap64 (1 + t130))] 33 (0, 0)) (bV BK136) k_ hk)); (case aO => exact (rU HO_3.out)); (case aS => exact (keep_size (w := w) (g := g) (row := none) (kI1 GW136))); (case aL => have := LMc71.out; omega); intro v174 w81 ho hb hg hat; rw [← Ny173.out] at ho; replace BK136 := Aside0.mk (blk_grown (g := gb136) (o := .cells #[.int .i64 (wrap64 (x5_2 + (wrap64 (1 + t130)))), .int .i64 x137001_16, .int .i64 t170, .int .i64 (wrap64 (1 + t130))] 33 (0, 0)) (bV BK136) hg (Kd.R_away HO_3.out (fun _ hk => hk))); replace HO169 := Aside0.mk (Kd.R_over' (rU HO169.out) (Kd.R_typed (rU HO_3.out)) (by decide) hg); replace HB := Aside0.mk (below_weaken (lI45_0_1 GE136) HL.out hb); replace HI0 := Aside0.mk (IsS45.grown (iI45_0_12_1 NB0_136) hg (IsS45.own_ne HI0.out HO_3.out (by decide))); replace HK := Aside0.mk (KeepBut.trans (kI1 GW136) (KeepBut.of_grown hg g) (Kd.R_base2 HO_3.out)); have HO175 := Aside0.mk ho; clear HO_3; clear ho hb hg hat))
              go_roundg kj32
              case measure => have := HJ3.out; have := HK2.out; have := HJ16.out; have := HJ32.out; omega
              case rel => exact ⟨(y173), (wrap64 (x4_2 - 1)), (x5_32), (t171), (t172), tE, tE, H', ⟨by have := HJ3.out; have := HK2.out; have := HJ16.out; have := HJ32.out; omega⟩, ⟨by (with_reducible repeat (first | apply Kd.R_alloc | apply Kd.R_drewN | apply Kd.R_drew)); exact Kd.R_mono HO175.out (fun _ hk => trivial)⟩, ⟨iI45_0_12_1 NB0_136⟩, ⟨kI1 GW136⟩, ⟨lI45_0_1 GE136⟩⟩
             ·rw [if_neg c71] at H
              exact absurd H (by simp)
            ·rw [if_neg c69] at H
             have c69b0 : (t146 == 2) = false := beq_eq_false_iff_ne.mpr c69
             have c69b1 : (t146 != 2) = true := bne_iff_ne.mpr c69
             by_cases c82 : t146 = 3
             ·rw [if_pos c82] at H
              have c82b0 : (t146 == 3) = true := beq_iff_eq.mpr c82
              have c82b1 : (t146 != 3) = false := bne_eq_false_iff_eq.mpr c82
              clear c82
              obtain ⟨y176, hy176⟩ : ∃ y_ : List Int, y_ = (([0, 1000, 1001] : List Int)) := ⟨_, rfl⟩
              replace H : ((spec_l1Cur_among.f s0_0 t147 t148 y176).bind fun bt179 => (if x3_2.length < 4398046511104 then (spec_l1Cur_line10.l0 kj32 (x3_2 ++ [(⟨(wrap64 (x5_2 + (wrap64 (1 + t130)))), x137001_16, x137002_16, bt179.1⟩ : S33)]) (wrap64 (x4_2 - 1)) x5_32 s0_0 bt179.2.1 bt179.2.2) else (none))) = some (r1, r2, r3) := by first | (rw [hy176]; with_reducible exact H) | (have H2_ := (Option.bind_some _ _).symm.trans H; rw [hy176]; with_reducible exact H2_) | (have H2_ := (Option.bind_some _ _).symm.trans H; with_reducible exact H2_) | with_reducible exact H | (rw [hy176]; exact H) | exact H
              have Ny176 := Aside0.mk hy176
              clear hy176
              replace H := Option.bind_eq_some_iff.mp H
              obtain ⟨⟨t179, t180, t181⟩, A830, H⟩ := H
              replace H : (if x3_2.length < 4398046511104 then (spec_l1Cur_line10.l0 kj32 (x3_2 ++ [(⟨(wrap64 (x5_2 + (wrap64 (1 + t130)))), x137001_16, x137002_16, t179⟩ : S33)]) (wrap64 (x4_2 - 1)) x5_32 s0_0 t180 t181) else (none)) = some (r1, r2, r3) := H
              have A83 := Aside0.mk A830
              clear A830
              by_cases c84 : x3_2.length < 4398046511104
              ·rw [if_pos c84] at H
               have LMc84 := Aside0.mk c84
               clear c84
               obtain ⟨y182, hy182⟩ : ∃ y_ : List (S33), y_ = (x3_2 ++ [(⟨(wrap64 (x5_2 + (wrap64 (1 + t130)))), x137001_16, x137002_16, t179⟩ : S33)]) := ⟨_, rfl⟩
               replace H : (spec_l1Cur_line10.l0 kj32 y182 (wrap64 (x4_2 - 1)) x5_32 s0_0 t180 t181) = some (r1, r2, r3) := by first | (rw [hy182]; with_reducible exact H) | (have H2_ := (Option.bind_some _ _).symm.trans H; rw [hy182]; with_reducible exact H2_) | (have H2_ := (Option.bind_some _ _).symm.trans H; with_reducible exact H2_) | with_reducible exact H | (rw [hy182]; exact H) | exact H
               have Ny182 := Aside0.mk hy182
               clear hy182
               have H' := Aside0.mk H
               clear H
               go_wp2_with (first | ((with_reducible refine gate_callee (f := 14) rfl ?_); refine goesL_ (some 52) rfl rfl Try.func14 (by kernel_rfl) rfl #[.pointer (some ⟨g, 0, none⟩), .int .i64 120] rfl aE ?_; (with_reducible refine (spec_l1Cur_pick.calls g s0_0 x1001_32 x1002_32 120 t146 t147 t148 w0 _ ?side1 ?side2 A42.out).mono ?_); (case side1 => exact iI45_0_12_1 NB0_136); (case side2 => exact lI45_0_1 GE136); rintro e w85 ⟨rfl, hi, hb, hk⟩; refine ⟨_, rfl, ?_⟩; replace HO_3 := Aside0.mk (Kd.R_mono (Kd.R_keep (IsS45.apart (show IsS45 w0 _ g s0_0 x1001_32 x1002_32 from iI45_0_12_1 NB0_136) (rU HO_3.out) (by decide)) hk (fun _ h => h.2)) (fun _ h => h.1)); replace BK136 := Aside0.mk (KeepBut.blk hk (g' := gb136) (o := .cells #[.int .i64 (wrap64 (x5_2 + (wrap64 (1 + t130)))), .int .i64 x137001_16, .int .i64 x137002_16, .int .i64 (wrap64 (1 + t130))] 33 (0, 0)) (bV BK136) NB136_0.out (by simp)); replace HK := Aside0.mk (KeepBut.trans (kI1 GW136) hk (.inl rfl)); replace HB := Aside0.mk hb; replace HI0 := Aside0.mk hi; (try clear hb); (try clear hk); (try clear hi)) | ((with_reducible refine gate_dst (N := 74) rfl ?_); refine Kd.R_lit (Kd.int .i64) _ 3 ?hg (N := 74) ?hd (xs := ([0, 1000, 1001] : List Int)) (inner := [.int .i64 0, .int .i64 1000, .int .i64 1001]) (ok := fun _ => True) (okp := fun _ => True) ?hr ?hp (fun _ hk => hk) trivial (Below.refl _ _) (Nat.le_refl _) (by simp) ?_; (case hd => rfl); (case hg => rfl); (case hr => exact sE); (case hp => exact (Reps.one (show Kd.M (Kd.int .i64) _ _ _ 0 [.int .i64 0] from rfl) (Reps.one (show Kd.M (Kd.int .i64) _ _ _ 1000 [.int .i64 1000] from rfl) (Reps.one (show Kd.M (Kd.int .i64) _ _ _ 1001 [.int .i64 1001] from rfl) (Reps.none _ _))))); intro v177 w86 ho87 hb hg_ hnew_; clear hg_ hnew_; (first | rw [← Ny176.out] at ho87 | (simp only [Int.reduceToNat] at ho87; rw [← Ny176.out] at ho87)); replace HO_3 := Aside0.mk (Kd.R_below (rU HO_3.out) hb); have HO178 := Aside0.mk (Kd.R_lower ho87 (keep_size (w := w) (g := g) (row := none) (kI1 GW136))); replace BK136 := bB (bV BK136) hb; replace HK := Aside0.mk (KeepBut.trans (kI1 GW136) (KeepBut.of_below hb g none) (.inl rfl)); replace HB := Aside0.mk (below_step (lI45_0_1 GE136) hb); replace HI0 := Aside0.mk (IsS45.below (iI45_0_12_1 NB0_136) hb); clear hb ho87; obtain ⟨Ao88, co88, eo88⟩ := Kd.R_slice HO178.out; subst eo88) | ((with_reducible refine gate_callee (f := 16) rfl ?_); refine goesL_ (some 75) rfl rfl Try.func16 (by kernel_rfl) rfl #[.pointer (some ⟨g, 0, none⟩), .slice Ao88 y176.length co88] rfl aE ?_; (with_reducible refine (spec_l1Cur_among.calls g s0_0 t147 t148 _ _ y176 t179 t180 t181 w0 _ ?side1 ?side2 ?side3 ?side4 ?side5 A83.out).mono ?_); (case side1 => exact iI45_0_12_1 NB0_136); (case side2 => exact lI45_0_1 GE136); (case side3 => exact cU (Kd.R_reads' HO178.out).2.2); (case side4 => exact (Kd.R_reads' HO178.out).2.1); (case side5 => exact far_slice (IsS45.own_ne HI0.out HO178.out (by decide))); rintro e w89 ⟨rfl, hi, hb, hk⟩; refine ⟨_, rfl, ?_⟩; replace HO_3 := Aside0.mk (Kd.R_mono (Kd.R_keep (IsS45.apart (show IsS45 w0 _ g s0_0 t147 t148 from iI45_0_12_1 NB0_136) (rU HO_3.out) (by decide)) hk (fun _ h => h.2)) (fun _ h => h.1)); replace BK136 := Aside0.mk (KeepBut.blk hk (g' := gb136) (o := .cells #[.int .i64 (wrap64 (x5_2 + (wrap64 (1 + t130)))), .int .i64 x137001_16, .int .i64 x137002_16, .int .i64 (wrap64 (1 + t130))] 33 (0, 0)) (bV BK136) NB136_0.out (by simp)); replace HO178 := Aside0.mk (Kd.R_mono (Kd.R_keep (IsS45.apart (show IsS45 w0 _ g s0_0 t147 t148 from iI45_0_12_1 NB0_136) (rU HO178.out) (by decide)) hk (fun _ h => h.2)) (fun _ h => h.1)); replace HK := Aside0.mk (KeepBut.trans (kI1 GW136) hk (.inl rfl)); replace HB := Aside0.mk hb; replace HI0 := Aside0.mk hi; (try clear hb); (try clear hk); (try clear hi); have hnb90 := NB136_0.out; have hnc90 := NB0_136.out; have hcz91_0 := cz BK136 0 (.int .i64 (wrap64 (x5_2 + (wrap64 (1 + t130))))); have hcz91_1 := cz BK136 1 (.int .i64 x137001_16); have hcz91_2 := cz BK136 2 (.int .i64 x137002_16); have hcz91_3 := cz BK136 3 (.int .i64 (wrap64 (1 + t130))); have hfz91_0 := fz BK136 0; have hfz91_1 := fz BK136 1; have hfz91_2 := fz BK136 2; have hfz91_3 := fz BK136 3) | ((with_reducible refine gate_store (t := 3) (p := 76) rfl ?_); refine store_event (t := 3) (p := 76) (v := ?vo_w92) (w1 := (w89.setCell ⟨gb136, 3, none⟩ (.int .i64 t179))) ?hg ?ho ?hn ?hr ?_; (case ho => rfl); (case hg => rfl); (case hn => rfl); (case hr => first | (go_simp; done) | (go_simp; rfl) | (have hq0_ := (blk_cell BK136.out 3).trans (show _ = some _ from rfl); have hf0_ := blk_frozen BK136.out 3; first | (go_simp; done) | (go_simp; rfl))); intro w92 hw; replace HO_3 : Aside0 (Kd.R k33 33 w92 w.heap.size (fun k_ => k_ ≠ gb136) u3 x3_2) := ⟨(by rw [hw]; exact (by (with_reducible repeat (first | apply Kd.R_alloc | apply Kd.R_drewN | apply Kd.R_drew)); exact Kd.R_mono (Kd.R_far (p := ⟨gb136, 3, none⟩) (Kd.R_mono HO_3.out (fun k_ hk => (⟨hk, hk⟩ : _ ∧ k_ ≠ gb136))) (fun _ hk => hk.2) (.int .i64 t179)) (fun _ hk => hk.1)))⟩; replace HO178 : Aside0 (Kd.R (Kd.int .i64) 3 w92 w.heap.size (fun _ => True) (.slice Ao88 y176.length co88) y176) := ⟨(by rw [hw]; exact (by (with_reducible repeat (first | apply Kd.R_alloc | apply Kd.R_drewN | apply Kd.R_drew)); exact Kd.R_mono (Kd.R_far (p := ⟨gb136, 3, none⟩) (Kd.R_types HO178.out BK136.out (by decide)) (fun _ hk => hk.2) (.int .i64 t179)) (fun _ hk => trivial)))⟩; replace BK136 : Aside0 (w92.heap[gb136]? = some (.cells #[.int .i64 (wrap64 (x5_2 + (wrap64 (1 + t130)))), .int .i64 x137001_16, .int .i64 x137002_16, .int .i64 t179] 33 (0, 0))) := ⟨(by rw [hw]; exact (by refine bU ?_; refine blk_put (cs := #[.int .i64 (wrap64 (x5_2 + (wrap64 (1 + t130)))), .int .i64 x137001_16, .int .i64 x137002_16, .int .i64 (wrap64 (1 + t130))]) ?_ 3 _ rfl; refine bU ?_; exact BK136.out))⟩; replace HK : Aside0 (KeepBut w w92 g none) := ⟨(by rw [hw]; exact (kI1 GW136))⟩; replace HB : Aside0 (Below w0.heap.size w0 w92) := ⟨(by rw [hw]; exact (lI45_0_1 GE136))⟩; replace HI0 : Aside0 (IsS45 w0 w92 g s0_0 t180 t181) := ⟨(by rw [hw]; exact (iI45_0_12_1 NB0_136))⟩; clear hw; have hcz93_0 := cz BK136 0 (.int .i64 (wrap64 (x5_2 + (wrap64 (1 + t130))))); have hcz93_1 := cz BK136 1 (.int .i64 x137001_16); have hcz93_2 := cz BK136 2 (.int .i64 x137002_16); have hcz93_3 := cz BK136 3 (.int .i64 t179); have hfz93_0 := fz BK136 0; have hfz93_1 := fz BK136 1; have hfz93_2 := fz BK136 2; have hfz93_3 := fz BK136 3) | ((with_reducible refine gate_builtin (b := .append) (xs := #[.tmp 77, .tmp 79]) rfl ?_); at_builtin; refine Kd.R_append k33 w.heap.size rfl (.tmp 77) (.tmp 79) 23 33 (.agg #[(.int .i64 0), (.int .i64 0), (.int .i64 0), (.int .i64 0)]) 32 rfl Try.underlying23 info33 rfl (by decide) (by omega) u3 x3_2 (⟨(wrap64 (x5_2 + (wrap64 (1 + t130)))), x137001_16, x137002_16, t179⟩ : S33) [.int .i64 (wrap64 (x5_2 + (wrap64 (1 + t130)))), .int .i64 x137001_16, .int .i64 x137002_16, .int .i64 t179] (fun k_ => k_ ≠ gb136) (fun _ => False) rfl rfl ?aP (fun _ hk => hk.elim) ?aF ?aO (Below.refl _ _) ?aS ?aL ?_; (case aP => exact k33_mkM _ _ _ (⟨(wrap64 (x5_2 + (wrap64 (1 + t130)))), x137001_16, x137002_16, t179⟩ : S33)); (case aF => exact (fun k_ hk => Kd.freshB (g := gb136) (o := .cells #[.int .i64 (wrap64 (x5_2 + (wrap64 (1 + t130)))), .int .i64 x137001_16, .int .i64 x137002_16, .int .i64 t179] 33 (0, 0)) (bV BK136) k_ hk)); (case aO => exact (rU HO_3.out)); (case aS => exact (keep_size (w := w) (g := g) (row := none) (kI1 GW136))); (case aL => have := LMc84.out; omega); intro v183 w94 ho hb hg hat; rw [← Ny182.out] at ho; replace BK136 := Aside0.mk (blk_grown (g := gb136) (o := .cells #[.int .i64 (wrap64 (x5_2 + (wrap64 (1 + t130)))), .int .i64 x137001_16, .int .i64 x137002_16, .int .i64 t179] 33 (0, 0)) (bV BK136) hg (Kd.R_away HO_3.out (fun _ hk => hk))); replace HO178 := Aside0.mk (Kd.R_over' (rU HO178.out) (Kd.R_typed (rU HO_3.out)) (by decide) hg); replace HB := Aside0.mk (below_weaken (lI45_0_1 GE136) HL.out hb); replace HI0 := Aside0.mk (IsS45.grown (iI45_0_12_1 NB0_136) hg (IsS45.own_ne HI0.out HO_3.out (by decide))); replace HK := Aside0.mk (KeepBut.trans (kI1 GW136) (KeepBut.of_grown hg g) (Kd.R_base2 HO_3.out)); have HO184 := Aside0.mk ho; clear HO_3; clear ho hb hg hat))
               go_roundg kj32
               case measure => have := HJ3.out; have := HK2.out; have := HJ16.out; have := HJ32.out; omega
               case rel => exact ⟨(y182), (wrap64 (x4_2 - 1)), (x5_32), (t180), (t181), tE, tE, H', ⟨by have := HJ3.out; have := HK2.out; have := HJ16.out; have := HJ32.out; omega⟩, ⟨by (with_reducible repeat (first | apply Kd.R_alloc | apply Kd.R_drewN | apply Kd.R_drew)); exact Kd.R_mono HO184.out (fun _ hk => trivial)⟩, ⟨iI45_0_12_1 NB0_136⟩, ⟨kI1 GW136⟩, ⟨lI45_0_1 GE136⟩⟩
              ·rw [if_neg c84] at H
               exact absurd H (by simp)
             ·rw [if_neg c82] at H
              have c82b0 : (t146 == 3) = false := beq_eq_false_iff_ne.mpr c82
              have c82b1 : (t146 != 3) = true := bne_iff_ne.mpr c82
              by_cases c95 : x3_2.length < 4398046511104
              ·rw [if_pos c95] at H
               have LMc95 := Aside0.mk c95
               clear c95
               obtain ⟨y185, hy185⟩ : ∃ y_ : List (S33), y_ = (x3_2 ++ [(⟨(wrap64 (x5_2 + (wrap64 (1 + t130)))), x137001_16, x137002_16, (wrap64 (1 + t130))⟩ : S33)]) := ⟨_, rfl⟩
               replace H : (spec_l1Cur_line10.l0 kj32 y185 (wrap64 (x4_2 - 1)) x5_32 s0_0 t147 t148) = some (r1, r2, r3) := by first | (rw [hy185]; with_reducible exact H) | (have H2_ := (Option.bind_some _ _).symm.trans H; rw [hy185]; with_reducible exact H2_) | (have H2_ := (Option.bind_some _ _).symm.trans H; with_reducible exact H2_) | with_reducible exact H | (rw [hy185]; exact H) | exact H
               have Ny185 := Aside0.mk hy185
               clear hy185
               have H' := Aside0.mk H
               clear H
               go_wp2_with (first | ((with_reducible refine gate_callee (f := 14) rfl ?_); refine goesL_ (some 52) rfl rfl Try.func14 (by kernel_rfl) rfl #[.pointer (some ⟨g, 0, none⟩), .int .i64 120] rfl aE ?_; (with_reducible refine (spec_l1Cur_pick.calls g s0_0 x1001_32 x1002_32 120 t146 t147 t148 w0 _ ?side1 ?side2 A42.out).mono ?_); (case side1 => exact iI45_0_12_1 NB0_136); (case side2 => exact lI45_0_1 GE136); rintro e w96 ⟨rfl, hi, hb, hk⟩; refine ⟨_, rfl, ?_⟩; replace HO_3 := Aside0.mk (Kd.R_mono (Kd.R_keep (IsS45.apart (show IsS45 w0 _ g s0_0 x1001_32 x1002_32 from iI45_0_12_1 NB0_136) (rU HO_3.out) (by decide)) hk (fun _ h => h.2)) (fun _ h => h.1)); replace BK136 := Aside0.mk (KeepBut.blk hk (g' := gb136) (o := .cells #[.int .i64 (wrap64 (x5_2 + (wrap64 (1 + t130)))), .int .i64 x137001_16, .int .i64 x137002_16, .int .i64 (wrap64 (1 + t130))] 33 (0, 0)) (bV BK136) NB136_0.out (by simp)); replace HK := Aside0.mk (KeepBut.trans (kI1 GW136) hk (.inl rfl)); replace HB := Aside0.mk hb; replace HI0 := Aside0.mk hi; (try clear hb); (try clear hk); (try clear hi); have hnb97 := NB136_0.out; have hnc97 := NB0_136.out; have hcz98_0 := cz BK136 0 (.int .i64 (wrap64 (x5_2 + (wrap64 (1 + t130))))); have hcz98_1 := cz BK136 1 (.int .i64 x137001_16); have hcz98_2 := cz BK136 2 (.int .i64 x137002_16); have hcz98_3 := cz BK136 3 (.int .i64 (wrap64 (1 + t130))); have hfz98_0 := fz BK136 0; have hfz98_1 := fz BK136 1; have hfz98_2 := fz BK136 2; have hfz98_3 := fz BK136 3) | ((with_reducible refine gate_builtin (b := .append) (xs := #[.tmp 77, .tmp 79]) rfl ?_); at_builtin; refine Kd.R_append k33 w.heap.size rfl (.tmp 77) (.tmp 79) 23 33 (.agg #[(.int .i64 0), (.int .i64 0), (.int .i64 0), (.int .i64 0)]) 32 rfl Try.underlying23 info33 rfl (by decide) (by omega) u3 x3_2 (⟨(wrap64 (x5_2 + (wrap64 (1 + t130)))), x137001_16, x137002_16, (wrap64 (1 + t130))⟩ : S33) [.int .i64 (wrap64 (x5_2 + (wrap64 (1 + t130)))), .int .i64 x137001_16, .int .i64 x137002_16, .int .i64 (wrap64 (1 + t130))] (fun k_ => k_ ≠ gb136) (fun _ => False) rfl rfl ?aP (fun _ hk => hk.elim) ?aF ?aO (Below.refl _ _) ?aS ?aL ?_; (case aP => exact k33_mkM _ _ _ (⟨(wrap64 (x5_2 + (wrap64 (1 + t130)))), x137001_16, x137002_16, (wrap64 (1 + t130))⟩ : S33)); (case aF => exact (fun k_ hk => Kd.freshB (g := gb136) (o := .cells #[.int .i64 (wrap64 (x5_2 + (wrap64 (1 + t130)))), .int .i64 x137001_16, .int .i64 x137002_16, .int .i64 (wrap64 (1 + t130))] 33 (0, 0)) (bV BK136) k_ hk)); (case aO => exact (rU HO_3.out)); (case aS => exact (keep_size (w := w) (g := g) (row := none) (kI1 GW136))); (case aL => have := LMc95.out; omega); intro v186 w99 ho hb hg hat; rw [← Ny185.out] at ho; replace BK136 := Aside0.mk (blk_grown (g := gb136) (o := .cells #[.int .i64 (wrap64 (x5_2 + (wrap64 (1 + t130)))), .int .i64 x137001_16, .int .i64 x137002_16, .int .i64 (wrap64 (1 + t130))] 33 (0, 0)) (bV BK136) hg (Kd.R_away HO_3.out (fun _ hk => hk))); replace HB := Aside0.mk (below_weaken (lI45_0_1 GE136) HL.out hb); replace HI0 := Aside0.mk (IsS45.grown (iI45_0_12_1 NB0_136) hg (IsS45.own_ne HI0.out HO_3.out (by decide))); replace HK := Aside0.mk (KeepBut.trans (kI1 GW136) (KeepBut.of_grown hg g) (Kd.R_base2 HO_3.out)); have HO187 := Aside0.mk ho; clear HO_3; clear ho hb hg hat))
               go_roundg kj32
               case measure => have := HJ3.out; have := HK2.out; have := HJ16.out; have := HJ32.out; omega
               case rel => exact ⟨(y185), (wrap64 (x4_2 - 1)), (x5_32), (t147), (t148), tE, tE, H', ⟨by have := HJ3.out; have := HK2.out; have := HJ16.out; have := HJ32.out; omega⟩, ⟨by (with_reducible repeat (first | apply Kd.R_alloc | apply Kd.R_drewN | apply Kd.R_drew)); exact Kd.R_mono HO187.out (fun _ hk => trivial)⟩, ⟨iI45_0_12_1 NB0_136⟩, ⟨kI1 GW136⟩, ⟨lI45_0_1 GE136⟩⟩
              ·rw [if_neg c95] at H
               exact absurd H (by simp)
     ·rw [if_neg c12] at H
      have c12b0 : decide (0 < x4_2) = false := decide_eq_false c12
      clear c12
      simp only [Option.some.injEq, Prod.mk.injEq] at H
      obtain ⟨rfl, rfl, rfl⟩ := H
      go_wp2
      go_ret
      exact ⟨_, eE, by (with_reducible repeat (first | apply Kd.R_alloc | apply Kd.R_drewN | apply Kd.R_drew)); exact HO_3.out, iI45_0_12_0, lI45_0_0, kI0⟩
def spec_l1Cur_bounceOf.f (s0_0 : List Int) (s0_1 : Int) (s0_2 : Int) : Option (Int × Int × Int) := (spec_l1Cur_one.f s0_0 s0_1 s0_2 30).bind fun bt188 => (if bt188.1 = true then ((spec_l1Cur_among.f s0_0 bt188.2.1 bt188.2.2 (([(-1), 101] : List Int))).bind fun bt194 => (some (bt194.1, bt194.2.1, bt194.2.2))) else ((spec_l1Cur_among.f s0_0 bt188.2.1 bt188.2.2 (([0, 100, 50, 30, 99] : List Int))).bind fun bt200 => (some (bt200.1, bt200.2.1, bt200.2.2))))
set_option maxHeartbeats 8000000 in
set_option maxRecDepth 100000 in
theorem spec_l1Cur_bounceOf.calls (g : Nat) (s0_0 : List Int) (s0_1 : Int) (s0_2 : Int) (r1 : Int) (r2 : Int) (r3 : Int) (w0 w : World) (hI : IsS45 w0 w g s0_0 s0_1 s0_2) (hB : Below w0.heap.size w0 w) (h : spec_l1Cur_bounceOf.f s0_0 s0_1 s0_2 = some (r1, r2, r3)) :
  Calls Try.prog 17 #[.pointer (some ⟨g, 0, none⟩)] w fun e w' => e = .returned (.int .i64 r1) ∧ IsS45 w0 w' g s0_0 r2 r3 ∧ Below w0.heap.size w0 w' ∧ KeepBut w w' g none := by
 have HI0 := Aside0.mk hI
 have HK := Aside0.mk (KeepBut.refl w g none)
 have HL := Aside0.mk hB.size
 clear hI
 have HW0 := Aside0.mk hB.size
 have HB := Aside0.mk hB
 clear hB
 have H : ((spec_l1Cur_one.f s0_0 s0_1 s0_2 30).bind fun bt188 => (if bt188.1 = true then ((spec_l1Cur_among.f s0_0 bt188.2.1 bt188.2.2 (([(-1), 101] : List Int))).bind fun bt194 => (some (bt194.1, bt194.2.1, bt194.2.2))) else ((spec_l1Cur_among.f s0_0 bt188.2.1 bt188.2.2 (([0, 100, 50, 30, 99] : List Int))).bind fun bt200 => (some (bt200.1, bt200.2.1, bt200.2.2))))) = some (r1, r2, r3) := h
 clear h
 replace H := Option.bind_eq_some_iff.mp H
 obtain ⟨⟨t188, t189, t190⟩, A20, H⟩ := H
 replace H : (if t188 = true then ((spec_l1Cur_among.f s0_0 t189 t190 (([(-1), 101] : List Int))).bind fun bt194 => (some (bt194.1, bt194.2.1, bt194.2.2))) else ((spec_l1Cur_among.f s0_0 t189 t190 (([0, 100, 50, 30, 99] : List Int))).bind fun bt200 => (some (bt200.1, bt200.2.1, bt200.2.2)))) = some (r1, r2, r3) := H
 have A2 := Aside0.mk A20
 clear A20
 by_cases c3 : t188 = true
 ·subst c3
  have H1 : ((spec_l1Cur_among.f s0_0 t189 t190 (([(-1), 101] : List Int))).bind fun bt194 => (some (bt194.1, bt194.2.1, bt194.2.2))) = some (r1, r2, r3) := by rw [if_pos rfl] at H; exact H
  clear H
  have H := H1
  clear H1
  obtain ⟨y191, hy191⟩ : ∃ y_ : List Int, y_ = (([(-1), 101] : List Int)) := ⟨_, rfl⟩
  replace H : ((spec_l1Cur_among.f s0_0 t189 t190 y191).bind fun bt194 => (some (bt194.1, bt194.2.1, bt194.2.2))) = some (r1, r2, r3) := by first | (rw [hy191]; with_reducible exact H) | (have H2_ := (Option.bind_some _ _).symm.trans H; rw [hy191]; with_reducible exact H2_) | (have H2_ := (Option.bind_some _ _).symm.trans H; with_reducible exact H2_) | with_reducible exact H | (rw [hy191]; exact H) | exact H
  have Ny191 := Aside0.mk hy191
  clear hy191
  replace H := Option.bind_eq_some_iff.mp H
  obtain ⟨⟨t194, t195, t196⟩, A40, H⟩ := H
  replace H : (some (t194, t195, t196)) = some (r1, r2, r3) := H
  have A4 := Aside0.mk A40
  clear A40
  simp only [Option.some.injEq, Prod.mk.injEq] at H
  obtain ⟨rfl, rfl, rfl⟩ := H
  go_enter Try.func17, Try.ntmps17
  go_wp2_with (first | ((with_reducible refine gate_callee (f := 15) rfl ?_); refine goesL_ (some 4) rfl rfl Try.func15 (by kernel_rfl) rfl #[.pointer (some ⟨g, 0, none⟩), .int .i64 30] rfl aE ?_; (with_reducible refine (spec_l1Cur_one.calls g s0_0 s0_1 s0_2 30 true t189 t190 w0 _ ?side1 ?side2 A2.out).mono ?_); (case side1 => exact iI45_0_12_0); (case side2 => exact lI45_0_0); rintro e w5 ⟨rfl, hi, hb, hk⟩; refine ⟨_, rfl, ?_⟩; replace HK := Aside0.mk (KeepBut.trans (kI0) hk (.inl rfl)); replace HB := Aside0.mk hb; replace HI0 := Aside0.mk hi; (try clear hb); (try clear hk); (try clear hi)) | ((with_reducible refine gate_dst (N := 6) rfl ?_); refine Kd.R_lit (Kd.int .i64) _ 3 ?hg (N := 6) ?hd (xs := ([(-1), 101] : List Int)) (inner := [.int .i64 (-1), .int .i64 101]) (ok := fun _ => True) (okp := fun _ => True) ?hr ?hp (fun _ hk => hk) trivial (Below.refl _ _) (Nat.le_refl _) (by simp) ?_; (case hd => rfl); (case hg => rfl); (case hr => exact sE); (case hp => exact (Reps.one (show Kd.M (Kd.int .i64) _ _ _ (-1) [.int .i64 (-1)] from rfl) (Reps.one (show Kd.M (Kd.int .i64) _ _ _ 101 [.int .i64 101] from rfl) (Reps.none _ _)))); intro v192 w6 ho7 hb hg_ hnew_; clear hg_ hnew_; (first | rw [← Ny191.out] at ho7 | (simp only [Int.reduceToNat] at ho7; rw [← Ny191.out] at ho7)); have HO193 := Aside0.mk (Kd.R_lower ho7 (keep_size (w := w) (g := g) (row := none) (kI0))); replace HK := Aside0.mk (KeepBut.trans (kI0) (KeepBut.of_below hb g none) (.inl rfl)); replace HB := Aside0.mk (below_step (lI45_0_0) hb); replace HI0 := Aside0.mk (IsS45.below (iI45_0_12_0) hb); clear hb ho7; obtain ⟨Ao8, co8, eo8⟩ := Kd.R_slice HO193.out; subst eo8) | ((with_reducible refine gate_callee (f := 16) rfl ?_); refine goesL_ (some 7) rfl rfl Try.func16 (by kernel_rfl) rfl #[.pointer (some ⟨g, 0, none⟩), .slice Ao8 y191.length co8] rfl aE ?_; (with_reducible refine (spec_l1Cur_among.calls g s0_0 t189 t190 _ _ y191 t194 t195 t196 w0 _ ?side1 ?side2 ?side3 ?side4 ?side5 A4.out).mono ?_); (case side1 => exact iI45_0_12_0); (case side2 => exact lI45_0_0); (case side3 => exact cU (Kd.R_reads' HO193.out).2.2); (case side4 => exact (Kd.R_reads' HO193.out).2.1); (case side5 => exact far_slice (IsS45.own_ne HI0.out HO193.out (by decide))); rintro e w9 ⟨rfl, hi, hb, hk⟩; refine ⟨_, rfl, ?_⟩; replace HO193 := Aside0.mk (Kd.R_mono (Kd.R_keep (IsS45.apart (show IsS45 w0 _ g s0_0 t189 t190 from iI45_0_12_0) (rU HO193.out) (by decide)) hk (fun _ h => h.2)) (fun _ h => h.1)); replace HK := Aside0.mk (KeepBut.trans (kI0) hk (.inl rfl)); replace HB := Aside0.mk hb; replace HI0 := Aside0.mk hi; (try clear hb); (try clear hk); (try clear hi)))
  go_ret
  exact ⟨eE, iI45_0_12_0, lI45_0_0, kI0⟩
 ·replace c3 := Bool.eq_false_iff.mpr c3
  subst c3
  have H1 : ((spec_l1Cur_among.f s0_0 t189 t190 (([0, 100, 50, 30, 99] : List Int))).bind fun bt200 => (some (bt200.1, bt200.2.1, bt200.2.2))) = some (r1, r2, r3) := by rw [if_neg (show ¬ (false = true) by decide)] at H; exact H
  clear H
  have H := H1
  clear H1
  obtain ⟨y197, hy197⟩ : ∃ y_ : List Int, y_ = (([0, 100, 50, 30, 99] : List Int)) := ⟨_, rfl⟩
  replace H : ((spec_l1Cur_among.f s0_0 t189 t190 y197).bind fun bt200 => (some (bt200.1, bt200.2.1, bt200.2.2))) = some (r1, r2, r3) := by first | (rw [hy197]; with_reducible exact H) | (have H2_ := (Option.bind_some _ _).symm.trans H; rw [hy197]; with_reducible exact H2_) | (have H2_ := (Option.bind_some _ _).symm.trans H; with_reducible exact H2_) | with_reducible exact H | (rw [hy197]; exact H) | exact H
  have Ny197 := Aside0.mk hy197
  clear hy197
  replace H := Option.bind_eq_some_iff.mp H
  obtain ⟨⟨t200, t201, t202⟩, A100, H⟩ := H
  replace H : (some (t200, t201, t202)) = some (r1, r2, r3) := H
  have A10 := Aside0.mk A100
  clear A100
  simp only [Option.some.injEq, Prod.mk.injEq] at H
  obtain ⟨rfl, rfl, rfl⟩ := H
  go_enter Try.func17, Try.ntmps17
  go_wp2_with (first | ((with_reducible refine gate_callee (f := 15) rfl ?_); refine goesL_ (some 4) rfl rfl Try.func15 (by kernel_rfl) rfl #[.pointer (some ⟨g, 0, none⟩), .int .i64 30] rfl aE ?_; (with_reducible refine (spec_l1Cur_one.calls g s0_0 s0_1 s0_2 30 false t189 t190 w0 _ ?side1 ?side2 A2.out).mono ?_); (case side1 => exact iI45_0_12_0); (case side2 => exact lI45_0_0); rintro e w11 ⟨rfl, hi, hb, hk⟩; refine ⟨_, rfl, ?_⟩; replace HK := Aside0.mk (KeepBut.trans (kI0) hk (.inl rfl)); replace HB := Aside0.mk hb; replace HI0 := Aside0.mk hi; (try clear hb); (try clear hk); (try clear hi)) | ((with_reducible refine gate_dst (N := 9) rfl ?_); refine Kd.R_lit (Kd.int .i64) _ 3 ?hg (N := 9) ?hd (xs := ([0, 100, 50, 30, 99] : List Int)) (inner := [.int .i64 0, .int .i64 100, .int .i64 50, .int .i64 30, .int .i64 99]) (ok := fun _ => True) (okp := fun _ => True) ?hr ?hp (fun _ hk => hk) trivial (Below.refl _ _) (Nat.le_refl _) (by simp) ?_; (case hd => rfl); (case hg => rfl); (case hr => exact sE); (case hp => exact (Reps.one (show Kd.M (Kd.int .i64) _ _ _ 0 [.int .i64 0] from rfl) (Reps.one (show Kd.M (Kd.int .i64) _ _ _ 100 [.int .i64 100] from rfl) (Reps.one (show Kd.M (Kd.int .i64) _ _ _ 50 [.int .i64 50] from rfl) (Reps.one (show Kd.M (Kd.int .i64) _ _ _ 30 [.int .i64 30] from rfl) (Reps.one (show Kd.M (Kd.int .i64) _ _ _ 99 [.int .i64 99] from rfl) (Reps.none _ _))))))); intro v198 w12 ho13 hb hg_ hnew_; clear hg_ hnew_; (first | rw [← Ny197.out] at ho13 | (simp only [Int.reduceToNat] at ho13; rw [← Ny197.out] at ho13)); have HO199 := Aside0.mk (Kd.R_lower ho13 (keep_size (w := w) (g := g) (row := none) (kI0))); replace HK := Aside0.mk (KeepBut.trans (kI0) (KeepBut.of_below hb g none) (.inl rfl)); replace HB := Aside0.mk (below_step (lI45_0_0) hb); replace HI0 := Aside0.mk (IsS45.below (iI45_0_12_0) hb); clear hb ho13; obtain ⟨Ao14, co14, eo14⟩ := Kd.R_slice HO199.out; subst eo14) | ((with_reducible refine gate_callee (f := 16) rfl ?_); refine goesL_ (some 10) rfl rfl Try.func16 (by kernel_rfl) rfl #[.pointer (some ⟨g, 0, none⟩), .slice Ao14 y197.length co14] rfl aE ?_; (with_reducible refine (spec_l1Cur_among.calls g s0_0 t189 t190 _ _ y197 t200 t201 t202 w0 _ ?side1 ?side2 ?side3 ?side4 ?side5 A10.out).mono ?_); (case side1 => exact iI45_0_12_0); (case side2 => exact lI45_0_0); (case side3 => exact cU (Kd.R_reads' HO199.out).2.2); (case side4 => exact (Kd.R_reads' HO199.out).2.1); (case side5 => exact far_slice (IsS45.own_ne HI0.out HO199.out (by decide))); rintro e w15 ⟨rfl, hi, hb, hk⟩; refine ⟨_, rfl, ?_⟩; replace HO199 := Aside0.mk (Kd.R_mono (Kd.R_keep (IsS45.apart (show IsS45 w0 _ g s0_0 t189 t190 from iI45_0_12_0) (rU HO199.out) (by decide)) hk (fun _ h => h.2)) (fun _ h => h.1)); replace HK := Aside0.mk (KeepBut.trans (kI0) hk (.inl rfl)); replace HB := Aside0.mk hb; replace HI0 := Aside0.mk hi; (try clear hb); (try clear hk); (try clear hi)))
  go_ret
  exact ⟨eE, iI45_0_12_0, lI45_0_0, kI0⟩
def spec_DrawPushLine.f (k : Nat) (l0 : List Int) : Option ((List (S33)) × Int × Int) := (spec_l1Cur_line10.f k l0 0 0).bind fun bt204 => ((spec_l1Cur_pick.f l0 bt204.2.1 bt204.2.2 8).bind fun bt209 => ((spec_l1Cur_one.f l0 bt209.2.1 bt209.2.2 30).bind fun bt212 => (if bt212.1 = true then ((spec_l1Cur_among.f l0 bt212.2.1 bt212.2.2 (([(-1), 50, 51] : List Int))).bind fun bt218 => ((spec_l1Cur_bounceOf.f l0 bt218.2.1 bt218.2.2).bind fun bt221 => (some (bt204.1, bt221.1, bt218.1)))) else ((spec_l1Cur_bounceOf.f l0 bt212.2.1 bt212.2.2).bind fun bt224 => (some (bt204.1, bt224.1, bt209.1))))))
theorem spec_DrawPushLine.mono : ∀ a0 k, LeO (spec_DrawPushLine.f k a0) (spec_DrawPushLine.f (k + 1) a0) := by
 intro a0 k
 unfold spec_DrawPushLine.f
 repeat' first
   | (with_reducible exact spec_l1Cur_line10.mono _ _ _ _)
   | (with_reducible first | exact LeO.refl _ | exact LeO.none _ | refine LeO.ite ?_ ?_ | refine LeO.bind ?_ (fun _ => ?_))
   | exact spec_l1Cur_line10.mono _ _ _ _ | exact LeO.none _ | refine LeO.ite ?_ ?_ | refine LeO.bind ?_ (fun _ => ?_)
set_option maxHeartbeats 8000000 in
set_option maxRecDepth 100000 in
theorem spec_DrawPushLine.calls (k : Nat) (A0 : Option Addr) (c0 : Nat) (l0 : List Int) (r1 : List (S33)) (r2 : Int) (r3 : Int) (w : World) (hr0 : Kd.C (Kd.int .u8) w A0 l0.length l0) (hc0 : l0.length ≤ c0) (h : spec_DrawPushLine.f k l0 = some (r1, r2, r3)) :
  Calls Try.prog 4 #[.slice A0 l0.length c0] w fun e w' => ∃ v0_ : Value, e = .returned (.tuple #[v0_, .int .i64 r2, .int .i64 r3]) ∧ Kd.R k33 33 w' w.heap.size (fun _ => True) v0_ r1 ∧ Below w.heap.size w w' := by
 have hu45 := Try.underlying45
 have HR0 := Aside0.mk hr0
 have HC0 := Aside0.mk hc0
 clear hr0 hc0
 have HB := Aside0.mk (Below.refl w.heap.size w)
 have H : ((spec_l1Cur_line10.f k l0 0 0).bind fun bt204 => ((spec_l1Cur_pick.f l0 bt204.2.1 bt204.2.2 8).bind fun bt209 => ((spec_l1Cur_one.f l0 bt209.2.1 bt209.2.2 30).bind fun bt212 => (if bt212.1 = true then ((spec_l1Cur_among.f l0 bt212.2.1 bt212.2.2 (([(-1), 50, 51] : List Int))).bind fun bt218 => ((spec_l1Cur_bounceOf.f l0 bt218.2.1 bt218.2.2).bind fun bt221 => (some (bt204.1, bt221.1, bt218.1)))) else ((spec_l1Cur_bounceOf.f l0 bt212.2.1 bt212.2.2).bind fun bt224 => (some (bt204.1, bt224.1, bt209.1))))))) = some (r1, r2, r3) := h
 clear h
 replace H := Option.bind_eq_some_iff.mp H
 obtain ⟨⟨t204, t207, t208⟩, A20, H⟩ := H
 replace H : ((spec_l1Cur_pick.f l0 t207 t208 8).bind fun bt209 => ((spec_l1Cur_one.f l0 bt209.2.1 bt209.2.2 30).bind fun bt212 => (if bt212.1 = true then ((spec_l1Cur_among.f l0 bt212.2.1 bt212.2.2 (([(-1), 50, 51] : List Int))).bind fun bt218 => ((spec_l1Cur_bounceOf.f l0 bt218.2.1 bt218.2.2).bind fun bt221 => (some (t204, bt221.1, bt218.1)))) else ((spec_l1Cur_bounceOf.f l0 bt212.2.1 bt212.2.2).bind fun bt224 => (some (t204, bt224.1, bt209.1)))))) = some (r1, r2, r3) := H
 have A2 := Aside0.mk A20
 clear A20
 replace H := Option.bind_eq_some_iff.mp H
 obtain ⟨⟨t209, t210, t211⟩, A30, H⟩ := H
 replace H : ((spec_l1Cur_one.f l0 t210 t211 30).bind fun bt212 => (if bt212.1 = true then ((spec_l1Cur_among.f l0 bt212.2.1 bt212.2.2 (([(-1), 50, 51] : List Int))).bind fun bt218 => ((spec_l1Cur_bounceOf.f l0 bt218.2.1 bt218.2.2).bind fun bt221 => (some (t204, bt221.1, bt218.1)))) else ((spec_l1Cur_bounceOf.f l0 bt212.2.1 bt212.2.2).bind fun bt224 => (some (t204, bt224.1, t209))))) = some (r1, r2, r3) := H
 have A3 := Aside0.mk A30
 clear A30
 replace H := Option.bind_eq_some_iff.mp H
 obtain ⟨⟨t212, t213, t214⟩, A40, H⟩ := H
 replace H : (if t212 = true then ((spec_l1Cur_among.f l0 t213 t214 (([(-1), 50, 51] : List Int))).bind fun bt218 => ((spec_l1Cur_bounceOf.f l0 bt218.2.1 bt218.2.2).bind fun bt221 => (some (t204, bt221.1, bt218.1)))) else ((spec_l1Cur_bounceOf.f l0 t213 t214).bind fun bt224 => (some (t204, bt224.1, t209)))) = some (r1, r2, r3) := H
 have A4 := Aside0.mk A40
 clear A40
 by_cases c5 : t212 = true
 ·subst c5
  have H1 : ((spec_l1Cur_among.f l0 t213 t214 (([(-1), 50, 51] : List Int))).bind fun bt218 => ((spec_l1Cur_bounceOf.f l0 bt218.2.1 bt218.2.2).bind fun bt221 => (some (t204, bt221.1, bt218.1)))) = some (r1, r2, r3) := by rw [if_pos rfl] at H; exact H
  clear H
  have H := H1
  clear H1
  obtain ⟨y215, hy215⟩ : ∃ y_ : List Int, y_ = (([(-1), 50, 51] : List Int)) := ⟨_, rfl⟩
  replace H : ((spec_l1Cur_among.f l0 t213 t214 y215).bind fun bt218 => ((spec_l1Cur_bounceOf.f l0 bt218.2.1 bt218.2.2).bind fun bt221 => (some (t204, bt221.1, bt218.1)))) = some (r1, r2, r3) := by first | (rw [hy215]; with_reducible exact H) | (have H2_ := (Option.bind_some _ _).symm.trans H; rw [hy215]; with_reducible exact H2_) | (have H2_ := (Option.bind_some _ _).symm.trans H; with_reducible exact H2_) | with_reducible exact H | (rw [hy215]; exact H) | exact H
  have Ny215 := Aside0.mk hy215
  clear hy215
  replace H := Option.bind_eq_some_iff.mp H
  obtain ⟨⟨t218, t219, t220⟩, A60, H⟩ := H
  replace H : ((spec_l1Cur_bounceOf.f l0 t219 t220).bind fun bt221 => (some (t204, bt221.1, t218))) = some (r1, r2, r3) := H
  have A6 := Aside0.mk A60
  clear A60
  replace H := Option.bind_eq_some_iff.mp H
  obtain ⟨⟨t221, t222, t223⟩, A70, H⟩ := H
  replace H : (some (t204, t221, t218)) = some (r1, r2, r3) := H
  have A7 := Aside0.mk A70
  clear A70
  simp only [Option.some.injEq, Prod.mk.injEq] at H
  obtain ⟨rfl, rfl, rfl⟩ := H
  go_enter Try.func4, Try.ntmps4
  go_wp2_with (first | ((with_reducible refine gate_dst (N := 10) rfl ?_); refine box_event rfl (N := 10) rfl (cs := #[.slice A0 l0.length c0, .int .i64 0, .int .u64 0]) (t := 45) sE ?_; intro gb203 hg w8 hbox hb; have HI203 := Aside0.mk ((show IsS45 w w8 gb203 l0 0 0 from ⟨_, _, hbox, (by rw [hg]; exact (below_size (lU)) : w.heap.size ≤ gb203), HR0.out⟩)); replace HB := bH (lU) hb; clear hb hbox hg) | ((with_reducible refine gate_callee (f := 13) rfl ?_); refine goesL_ (some 12) rfl rfl Try.func13 (by kernel_rfl) rfl #[.pointer (some ⟨gb203, 0, none⟩)] rfl aE ?_; (with_reducible refine (spec_l1Cur_line10.calls k gb203 l0 0 0 t204 t207 t208 w _ ?side1 ?side2 A2.out).mono ?_); (case side1 => exact iI45_203_12_0); (case side2 => exact lI45_203_0); rintro e w9 ⟨v205, rfl, ho0, hi, hb, hk⟩; refine ⟨_, rfl, ?_⟩; have HO206 := Aside0.mk (Kd.R_lower ho0 (below_size (lI45_203_0))); replace HB := Aside0.mk hb; replace HI203 := Aside0.mk hi; (try clear hb); (try clear hk); (try clear hi); (try clear ho0)) | ((with_reducible refine gate_callee (f := 14) rfl ?_); refine goesL_ (some 14) rfl rfl Try.func14 (by kernel_rfl) rfl #[.pointer (some ⟨gb203, 0, none⟩), .int .i64 8] rfl aE ?_; (with_reducible refine (spec_l1Cur_pick.calls gb203 l0 t207 t208 8 t209 t210 t211 w _ ?side1 ?side2 A3.out).mono ?_); (case side1 => exact iI45_203_12_0); (case side2 => exact lI45_203_0); rintro e w10 ⟨rfl, hi, hb, hk⟩; refine ⟨_, rfl, ?_⟩; replace HO206 := Aside0.mk (Kd.R_mono (Kd.R_keep (IsS45.apart (show IsS45 w _ gb203 l0 t207 t208 from iI45_203_12_0) (rU HO206.out) (by decide)) hk (fun _ h => h.2)) (fun _ h => h.1)); replace HB := Aside0.mk hb; replace HI203 := Aside0.mk hi; (try clear hb); (try clear hk); (try clear hi)) | ((with_reducible refine gate_callee (f := 15) rfl ?_); refine goesL_ (some 16) rfl rfl Try.func15 (by kernel_rfl) rfl #[.pointer (some ⟨gb203, 0, none⟩), .int .i64 30] rfl aE ?_; (with_reducible refine (spec_l1Cur_one.calls gb203 l0 t210 t211 30 true t213 t214 w _ ?side1 ?side2 A4.out).mono ?_); (case side1 => exact iI45_203_12_0); (case side2 => exact lI45_203_0); rintro e w11 ⟨rfl, hi, hb, hk⟩; refine ⟨_, rfl, ?_⟩; replace HO206 := Aside0.mk (Kd.R_mono (Kd.R_keep (IsS45.apart (show IsS45 w _ gb203 l0 t210 t211 from iI45_203_12_0) (rU HO206.out) (by decide)) hk (fun _ h => h.2)) (fun _ h => h.1)); replace HB := Aside0.mk hb; replace HI203 := Aside0.mk hi; (try clear hb); (try clear hk); (try clear hi)) | ((with_reducible refine gate_dst (N := 18) rfl ?_); refine Kd.R_lit (Kd.int .i64) _ 3 ?hg (N := 18) ?hd (xs := ([(-1), 50, 51] : List Int)) (inner := [.int .i64 (-1), .int .i64 50, .int .i64 51]) (ok := fun _ => True) (okp := fun _ => True) ?hr ?hp (fun _ hk => hk) trivial (Below.refl _ _) (Nat.le_refl _) (by simp) ?_; (case hd => rfl); (case hg => rfl); (case hr => exact sE); (case hp => exact (Reps.one (show Kd.M (Kd.int .i64) _ _ _ (-1) [.int .i64 (-1)] from rfl) (Reps.one (show Kd.M (Kd.int .i64) _ _ _ 50 [.int .i64 50] from rfl) (Reps.one (show Kd.M (Kd.int .i64) _ _ _ 51 [.int .i64 51] from rfl) (Reps.none _ _))))); intro v216 w12 ho13 hb hg_ hnew_; clear hg_ hnew_; (first | rw [← Ny215.out] at ho13 | (simp only [Int.reduceToNat] at ho13; rw [← Ny215.out] at ho13)); replace HO206 := Aside0.mk (Kd.R_below (rU HO206.out) hb); have HO217 := Aside0.mk (Kd.R_lower ho13 (below_size (lI45_203_0))); replace HB := Aside0.mk (below_step (lI45_203_0) hb); replace HI203 := Aside0.mk (IsS45.below (iI45_203_12_0) hb); clear hb ho13; obtain ⟨Ao14, co14, eo14⟩ := Kd.R_slice HO217.out; subst eo14) | ((with_reducible refine gate_callee (f := 16) rfl ?_); refine goesL_ (some 19) rfl rfl Try.func16 (by kernel_rfl) rfl #[.pointer (some ⟨gb203, 0, none⟩), .slice Ao14 y215.length co14] rfl aE ?_; (with_reducible refine (spec_l1Cur_among.calls gb203 l0 t213 t214 _ _ y215 t218 t219 t220 w _ ?side1 ?side2 ?side3 ?side4 ?side5 A6.out).mono ?_); (case side1 => exact iI45_203_12_0); (case side2 => exact lI45_203_0); (case side3 => exact cU (Kd.R_reads' HO217.out).2.2); (case side4 => exact (Kd.R_reads' HO217.out).2.1); (case side5 => exact far_slice (IsS45.own_ne HI203.out HO217.out (by decide))); rintro e w15 ⟨rfl, hi, hb, hk⟩; refine ⟨_, rfl, ?_⟩; replace HO206 := Aside0.mk (Kd.R_mono (Kd.R_keep (IsS45.apart (show IsS45 w _ gb203 l0 t213 t214 from iI45_203_12_0) (rU HO206.out) (by decide)) hk (fun _ h => h.2)) (fun _ h => h.1)); replace HO217 := Aside0.mk (Kd.R_mono (Kd.R_keep (IsS45.apart (show IsS45 w _ gb203 l0 t213 t214 from iI45_203_12_0) (rU HO217.out) (by decide)) hk (fun _ h => h.2)) (fun _ h => h.1)); replace HB := Aside0.mk hb; replace HI203 := Aside0.mk hi; (try clear hb); (try clear hk); (try clear hi)) | ((with_reducible refine gate_callee (f := 17) rfl ?_); refine goesL_ (some 22) rfl rfl Try.func17 (by kernel_rfl) rfl #[.pointer (some ⟨gb203, 0, none⟩)] rfl aE ?_; (with_reducible refine (spec_l1Cur_bounceOf.calls gb203 l0 t219 t220 t221 t222 t223 w _ ?side1 ?side2 A7.out).mono ?_); (case side1 => exact iI45_203_12_0); (case side2 => exact lI45_203_0); rintro e w16 ⟨rfl, hi, hb, hk⟩; refine ⟨_, rfl, ?_⟩; replace HO206 := Aside0.mk (Kd.R_mono (Kd.R_keep (IsS45.apart (show IsS45 w _ gb203 l0 t219 t220 from iI45_203_12_0) (rU HO206.out) (by decide)) hk (fun _ h => h.2)) (fun _ h => h.1)); replace HO217 := Aside0.mk (Kd.R_mono (Kd.R_keep (IsS45.apart (show IsS45 w _ gb203 l0 t219 t220 from iI45_203_12_0) (rU HO217.out) (by decide)) hk (fun _ h => h.2)) (fun _ h => h.1)); replace HB := Aside0.mk hb; replace HI203 := Aside0.mk hi; (try clear hb); (try clear hk); (try clear hi)))
  go_ret3
  exact ⟨_, eE, by (with_reducible repeat (first | apply Kd.R_alloc | apply Kd.R_drewN | apply Kd.R_drew)); exact HO206.out, lI45_203_0⟩
 ·replace c5 := Bool.eq_false_iff.mpr c5
  subst c5
  have H1 : ((spec_l1Cur_bounceOf.f l0 t213 t214).bind fun bt224 => (some (t204, bt224.1, t209))) = some (r1, r2, r3) := by rw [if_neg (show ¬ (false = true) by decide)] at H; exact H
  clear H
  have H := H1
  clear H1
  replace H := Option.bind_eq_some_iff.mp H
  obtain ⟨⟨t224, t225, t226⟩, A170, H⟩ := H
  replace H : (some (t204, t224, t209)) = some (r1, r2, r3) := H
  have A17 := Aside0.mk A170
  clear A170
  simp only [Option.some.injEq, Prod.mk.injEq] at H
  obtain ⟨rfl, rfl, rfl⟩ := H
  go_enter Try.func4, Try.ntmps4
  go_wp2_with (first | ((with_reducible refine gate_dst (N := 10) rfl ?_); refine box_event rfl (N := 10) rfl (cs := #[.slice A0 l0.length c0, .int .i64 0, .int .u64 0]) (t := 45) sE ?_; intro gb203 hg w18 hbox hb; have HI203 := Aside0.mk ((show IsS45 w w18 gb203 l0 0 0 from ⟨_, _, hbox, (by rw [hg]; exact (below_size (lU)) : w.heap.size ≤ gb203), HR0.out⟩)); replace HB := bH (lU) hb; clear hb hbox hg) | ((with_reducible refine gate_callee (f := 13) rfl ?_); refine goesL_ (some 12) rfl rfl Try.func13 (by kernel_rfl) rfl #[.pointer (some ⟨gb203, 0, none⟩)] rfl aE ?_; (with_reducible refine (spec_l1Cur_line10.calls k gb203 l0 0 0 t204 t207 t208 w _ ?side1 ?side2 A2.out).mono ?_); (case side1 => exact iI45_203_12_0); (case side2 => exact lI45_203_0); rintro e w19 ⟨v205, rfl, ho0, hi, hb, hk⟩; refine ⟨_, rfl, ?_⟩; have HO206 := Aside0.mk (Kd.R_lower ho0 (below_size (lI45_203_0))); replace HB := Aside0.mk hb; replace HI203 := Aside0.mk hi; (try clear hb); (try clear hk); (try clear hi); (try clear ho0)) | ((with_reducible refine gate_callee (f := 14) rfl ?_); refine goesL_ (some 14) rfl rfl Try.func14 (by kernel_rfl) rfl #[.pointer (some ⟨gb203, 0, none⟩), .int .i64 8] rfl aE ?_; (with_reducible refine (spec_l1Cur_pick.calls gb203 l0 t207 t208 8 t209 t210 t211 w _ ?side1 ?side2 A3.out).mono ?_); (case side1 => exact iI45_203_12_0); (case side2 => exact lI45_203_0); rintro e w20 ⟨rfl, hi, hb, hk⟩; refine ⟨_, rfl, ?_⟩; replace HO206 := Aside0.mk (Kd.R_mono (Kd.R_keep (IsS45.apart (show IsS45 w _ gb203 l0 t207 t208 from iI45_203_12_0) (rU HO206.out) (by decide)) hk (fun _ h => h.2)) (fun _ h => h.1)); replace HB := Aside0.mk hb; replace HI203 := Aside0.mk hi; (try clear hb); (try clear hk); (try clear hi)) | ((with_reducible refine gate_callee (f := 15) rfl ?_); refine goesL_ (some 16) rfl rfl Try.func15 (by kernel_rfl) rfl #[.pointer (some ⟨gb203, 0, none⟩), .int .i64 30] rfl aE ?_; (with_reducible refine (spec_l1Cur_one.calls gb203 l0 t210 t211 30 false t213 t214 w _ ?side1 ?side2 A4.out).mono ?_); (case side1 => exact iI45_203_12_0); (case side2 => exact lI45_203_0); rintro e w21 ⟨rfl, hi, hb, hk⟩; refine ⟨_, rfl, ?_⟩; replace HO206 := Aside0.mk (Kd.R_mono (Kd.R_keep (IsS45.apart (show IsS45 w _ gb203 l0 t210 t211 from iI45_203_12_0) (rU HO206.out) (by decide)) hk (fun _ h => h.2)) (fun _ h => h.1)); replace HB := Aside0.mk hb; replace HI203 := Aside0.mk hi; (try clear hb); (try clear hk); (try clear hi)) | ((with_reducible refine gate_callee (f := 17) rfl ?_); refine goesL_ (some 22) rfl rfl Try.func17 (by kernel_rfl) rfl #[.pointer (some ⟨gb203, 0, none⟩)] rfl aE ?_; (with_reducible refine (spec_l1Cur_bounceOf.calls gb203 l0 t213 t214 t224 t225 t226 w _ ?side1 ?side2 A17.out).mono ?_); (case side1 => exact iI45_203_12_0); (case side2 => exact lI45_203_0); rintro e w22 ⟨rfl, hi, hb, hk⟩; refine ⟨_, rfl, ?_⟩; replace HO206 := Aside0.mk (Kd.R_mono (Kd.R_keep (IsS45.apart (show IsS45 w _ gb203 l0 t213 t214 from iI45_203_12_0) (rU HO206.out) (by decide)) hk (fun _ h => h.2)) (fun _ h => h.1)); replace HB := Aside0.mk hb; replace HI203 := Aside0.mk hi; (try clear hb); (try clear hk); (try clear hi)))
  go_ret3
  exact ⟨_, eE, by (with_reducible repeat (first | apply Kd.R_alloc | apply Kd.R_drewN | apply Kd.R_drew)); exact HO206.out, lI45_203_0⟩
def impl_inRange.f (a0 : Int) (a1 : Int) (a2 : Int) : Option (Bool) := if a1 ≤ a0 then (some (decide (a0 ≤ a2))) else (some false)
set_option maxHeartbeats 8000000 in
set_option maxRecDepth 100000 in
theorem impl_inRange.calls (a0 : Int) (a1 : Int) (a2 : Int) (r : Bool) (w : World) (h : impl_inRange.f a0 a1 a2 = some r) :
  Calls Try.prog 20 #[.int .i64 a0, .int .i64 a1, .int .i64 a2] w fun e w' => e = .returned (.bool r) ∧ Drawn0 w w' := by
 have H : (if a1 ≤ a0 then (some (decide (a0 ≤ a2))) else (some false)) = some r := h
 clear h
 by_cases c4 : a1 ≤ a0
 ·rw [if_pos c4] at H
  have c4b0 : decide (a1 ≤ a0) = true := decide_eq_true c4
  clear c4
  obtain rfl := Option.some.inj H
  go_enter Try.func20, Try.ntmps20
  go_wp2
  go_ret
  exact ⟨by first | rfl | (simp; done) | (simp [*]; done) | exact not_isEmpty _ | exact (not_isEmpty _).symm | exact is_empty _ | exact (is_empty _).symm, by repeat (first | exact Drawn0.refl _ | apply Drawn0.step)⟩
 ·rw [if_neg c4] at H
  have c4b0 : decide (a1 ≤ a0) = false := decide_eq_false c4
  clear c4
  obtain rfl := Option.some.inj H
  go_enter Try.func20, Try.ntmps20
  go_wp2
  go_ret
  exact ⟨by first | rfl | (simp; done) | (simp [*]; done) | exact not_isEmpty _ | exact (not_isEmpty _).symm | exact is_empty _ | exact (is_empty _).symm, by repeat (first | exact Drawn0.refl _ | apply Drawn0.step)⟩
end Go.Proofs.Ytnacjhgpanedoab.PFnPushed
namespace Go.Proofs.Ytnacjhgpanedoab.PFnPushed
open Go.RowKit Go.Proofs.YtnacjhgpanedoabW.PrintWords Go.Proofs.YtnacjhgpanedoabW.PrintLast Go.Proofs.YtnacjhgpanedoabW.PrintMore
attribute [local go_sem] max2_int min2_int max_two min_two max_three min_three max_four min_four   -- for this text's walks alone
set_option linter.unusedVariables false
set_option linter.unusedSimpArgs false
def impl_isBody.f (a0_0 : Int) (a0_1 : Int) (a0_2 : Int) (a0_3 : Int) : Option (Bool) := (impl_inRange.f a0_0 (-1000000000) 1000000000).bind fun t228 => (if t228 = true then ((impl_inRange.f a0_1 (-1000000) 1000000).bind fun t229 => (if t229 = true then ((impl_inRange.f a0_2 0 12).bind fun t230 => (if t230 = true then (if a0_2 > 0 then ((impl_inRange.f a0_3 1 1000).bind fun t231 => (some t231)) else (if a0_1 = 0 then ((impl_inRange.f a0_3 1 1000).bind fun t232 => (some t232)) else (some false))) else (some false))) else (some false))) else (some false))
set_option maxHeartbeats 8000000 in
set_option maxRecDepth 100000 in
theorem impl_isBody.calls (a0_0 : Int) (a0_1 : Int) (a0_2 : Int) (a0_3 : Int) (r : Bool) (w : World) (h : impl_isBody.f a0_0 a0_1 a0_2 a0_3 = some r) :
  Calls Try.prog 23 #[.agg #[.int .i64 a0_0, .int .i64 a0_1, .int .i64 a0_2, .int .i64 a0_3]] w fun e w' => e = .returned (.bool r) ∧ Below w.heap.size w w' := by
 have hu33 := Try.underlying33
 have HB := Aside0.mk (Below.refl w.heap.size w)
 have H : ((impl_inRange.f a0_0 (-1000000000) 1000000000).bind fun t228 => (if t228 = true then ((impl_inRange.f a0_1 (-1000000) 1000000).bind fun t229 => (if t229 = true then ((impl_inRange.f a0_2 0 12).bind fun t230 => (if t230 = true then (if a0_2 > 0 then ((impl_inRange.f a0_3 1 1000).bind fun t231 => (some t231)) else (if a0_1 = 0 then ((impl_inRange.f a0_3 1 1000).bind fun t232 => (some t232)) else (some false))) else (some false))) else (some false))) else (some false))) = some r := h
 clear h
 replace H := Option.bind_eq_some_iff.mp H
 obtain ⟨t228, A20, H⟩ := H
 replace H : (if t228 = true then ((impl_inRange.f a0_1 (-1000000) 1000000).bind fun t229 => (if t229 = true then ((impl_inRange.f a0_2 0 12).bind fun t230 => (if t230 = true then (if a0_2 > 0 then ((impl_inRange.f a0_3 1 1000).bind fun t231 => (some t231)) else (if a0_1 = 0 then ((impl_inRange.f a0_3 1 1000).bind fun t232 => (some t232)) else (some false))) else (some false))) else (some false))) else (some false)) = some r := H
 have A2 := Aside0.mk A20
 clear A20
 by_cases c3 : t228 = true
 ·subst c3
  have H1 : ((impl_inRange.f a0_1 (-1000000) 1000000).bind fun t229 => (if t229 = true then ((impl_inRange.f a0_2 0 12).bind fun t230 => (if t230 = true then (if a0_2 > 0 then ((impl_inRange.f a0_3 1 1000).bind fun t231 => (some t231)) else (if a0_1 = 0 then ((impl_inRange.f a0_3 1 1000).bind fun t232 => (some t232)) else (some false))) else (some false))) else (some false))) = some r := by rw [if_pos rfl] at H; exact H
  clear H
  have H := H1
  clear H1
  replace H := Option.bind_eq_some_iff.mp H
  obtain ⟨t229, A40, H⟩ := H
  replace H : (if t229 = true then ((impl_inRange.f a0_2 0 12).bind fun t230 => (if t230 = true then (if a0_2 > 0 then ((impl_inRange.f a0_3 1 1000).bind fun t231 => (some t231)) else (if a0_1 = 0 then ((impl_inRange.f a0_3 1 1000).bind fun t232 => (some t232)) else (some false))) else (some false))) else (some false)) = some r := H
  have A4 := Aside0.mk A40
  clear A40
  by_cases c5 : t229 = true
  ·subst c5
   have H1 : ((impl_inRange.f a0_2 0 12).bind fun t230 => (if t230 = true then (if a0_2 > 0 then ((impl_inRange.f a0_3 1 1000).bind fun t231 => (some t231)) else (if a0_1 = 0 then ((impl_inRange.f a0_3 1 1000).bind fun t232 => (some t232)) else (some false))) else (some false))) = some r := by rw [if_pos rfl] at H; exact H
   clear H
   have H := H1
   clear H1
   replace H := Option.bind_eq_some_iff.mp H
   obtain ⟨t230, A60, H⟩ := H
   replace H : (if t230 = true then (if a0_2 > 0 then ((impl_inRange.f a0_3 1 1000).bind fun t231 => (some t231)) else (if a0_1 = 0 then ((impl_inRange.f a0_3 1 1000).bind fun t232 => (some t232)) else (some false))) else (some false)) = some r := H
   have A6 := Aside0.mk A60
   clear A60
   by_cases c7 : t230 = true
   ·subst c7
    have H1 : (if a0_2 > 0 then ((impl_inRange.f a0_3 1 1000).bind fun t231 => (some t231)) else (if a0_1 = 0 then ((impl_inRange.f a0_3 1 1000).bind fun t232 => (some t232)) else (some false))) = some r := by rw [if_pos rfl] at H; exact H
    clear H
    have H := H1
    clear H1
    by_cases c8 : a0_2 > 0
    ·rw [if_pos c8] at H
     have c8b0 : decide (0 < a0_2) = true := decide_eq_true c8
     clear c8
     replace H := Option.bind_eq_some_iff.mp H
     obtain ⟨t231, A90, H⟩ := H
     replace H : (some t231) = some r := H
     have A9 := Aside0.mk A90
     clear A90
     obtain rfl := Option.some.inj H
     go_enter Try.func23, Try.ntmps23
     go_wp2_with (first | ((with_reducible refine gate_dst (N := 1) rfl ?_); refine box_event rfl (N := 1) rfl (cs := #[.int .i64 a0_0, .int .i64 a0_1, .int .i64 a0_2, .int .i64 a0_3]) (t := 33) sE ?_; intro gb227 hg w10 hbox hb; have BK227 := Aside0.mk hbox; have GW227 := gS w hg (lU); have GE227 := gS w hg (lU); replace HB := bH (lU) hb; clear hb hbox hg; have hcz11_0 := cz BK227 0 (.int .i64 a0_0); have hcz11_1 := cz BK227 1 (.int .i64 a0_1); have hcz11_2 := cz BK227 2 (.int .i64 a0_2); have hcz11_3 := cz BK227 3 (.int .i64 a0_3); have hfz11_0 := fz BK227 0; have hfz11_1 := fz BK227 1; have hfz11_2 := fz BK227 2; have hfz11_3 := fz BK227 3) | ((with_reducible refine gate_callee (f := 20) rfl ?_); refine goesL_ (some 5) rfl rfl Try.func20 (by kernel_rfl) rfl #[.int .i64 a0_0, .int .i64 (-1000000000), .int .i64 1000000000] rfl aE ?_; (with_reducible refine (impl_inRange.calls a0_0 (-1000000000) 1000000000 true _ A2.out).mono ?_); rintro e w' ⟨rfl, ⟨nd, rfl⟩⟩; refine ⟨_, rfl, ?_⟩) | (go_at_call 20; (with_reducible refine (impl_inRange.calls a0_1 (-1000000) 1000000 true _ A4.out).mono ?_); rintro e w' ⟨rfl, ⟨nd, rfl⟩⟩) | (go_at_call 20; (with_reducible refine (impl_inRange.calls a0_2 0 12 true _ A6.out).mono ?_); rintro e w' ⟨rfl, ⟨nd, rfl⟩⟩) | (go_at_call 20; (with_reducible refine (impl_inRange.calls a0_3 1 1000 t231 _ A9.out).mono ?_); rintro e w' ⟨rfl, ⟨nd, rfl⟩⟩))
     go_ret
     exact ⟨eE, lV1 GE227⟩
    ·rw [if_neg c8] at H
     have c8b0 : decide (0 < a0_2) = false := decide_eq_false c8
     clear c8
     by_cases c12 : a0_1 = 0
     ·rw [if_pos c12] at H
      have c12b0 : (a0_1 == 0) = true := beq_iff_eq.mpr c12
      have c12b1 : (a0_1 != 0) = false := bne_eq_false_iff_eq.mpr c12
      clear c12
      replace H := Option.bind_eq_some_iff.mp H
      obtain ⟨t232, A130, H⟩ := H
      replace H : (some t232) = some r := H
      have A13 := Aside0.mk A130
      clear A130
      obtain rfl := Option.some.inj H
      go_enter Try.func23, Try.ntmps23
      go_wp2_with (first | ((with_reducible refine gate_dst (N := 1) rfl ?_); refine box_event rfl (N := 1) rfl (cs := #[.int .i64 a0_0, .int .i64 a0_1, .int .i64 a0_2, .int .i64 a0_3]) (t := 33) sE ?_; intro gb227 hg w14 hbox hb; have BK227 := Aside0.mk hbox; have GW227 := gS w hg (lU); have GE227 := gS w hg (lU); replace HB := bH (lU) hb; clear hb hbox hg; have hcz15_0 := cz BK227 0 (.int .i64 a0_0); have hcz15_1 := cz BK227 1 (.int .i64 a0_1); have hcz15_2 := cz BK227 2 (.int .i64 a0_2); have hcz15_3 := cz BK227 3 (.int .i64 a0_3); have hfz15_0 := fz BK227 0; have hfz15_1 := fz BK227 1; have hfz15_2 := fz BK227 2; have hfz15_3 := fz BK227 3) | ((with_reducible refine gate_callee (f := 20) rfl ?_); refine goesL_ (some 5) rfl rfl Try.func20 (by kernel_rfl) rfl #[.int .i64 a0_0, .int .i64 (-1000000000), .int .i64 1000000000] rfl aE ?_; (with_reducible refine (impl_inRange.calls a0_0 (-1000000000) 1000000000 true _ A2.out).mono ?_); rintro e w' ⟨rfl, ⟨nd, rfl⟩⟩; refine ⟨_, rfl, ?_⟩) | (go_at_call 20; (with_reducible refine (impl_inRange.calls a0_1 (-1000000) 1000000 true _ A4.out).mono ?_); rintro e w' ⟨rfl, ⟨nd, rfl⟩⟩) | (go_at_call 20; (with_reducible refine (impl_inRange.calls a0_2 0 12 true _ A6.out).mono ?_); rintro e w' ⟨rfl, ⟨nd, rfl⟩⟩) | (go_at_call 20; (with_reducible refine (impl_inRange.calls a0_3 1 1000 t232 _ A13.out).mono ?_); rintro e w' ⟨rfl, ⟨nd, rfl⟩⟩))
      go_ret
      exact ⟨eE, lV1 GE227⟩
     ·rw [if_neg c12] at H
      have c12b0 : (a0_1 == 0) = false := beq_eq_false_iff_ne.mpr c12
      have c12b1 : (a0_1 != 0) = true := bne_iff_ne.mpr c12
      obtain rfl := Option.some.inj H
      go_enter Try.func23, Try.ntmps23
      go_wp2_with (first | ((with_reducible refine gate_dst (N := 1) rfl ?_); refine box_event rfl (N := 1) rfl (cs := #[.int .i64 a0_0, .int .i64 a0_1, .int .i64 a0_2, .int .i64 a0_3]) (t := 33) sE ?_; intro gb227 hg w16 hbox hb; have BK227 := Aside0.mk hbox; have GW227 := gS w hg (lU); have GE227 := gS w hg (lU); replace HB := bH (lU) hb; clear hb hbox hg; have hcz17_0 := cz BK227 0 (.int .i64 a0_0); have hcz17_1 := cz BK227 1 (.int .i64 a0_1); have hcz17_2 := cz BK227 2 (.int .i64 a0_2); have hcz17_3 := cz BK227 3 (.int .i64 a0_3); have hfz17_0 := fz BK227 0; have hfz17_1 := fz BK227 1; have hfz17_2 := fz BK227 2; have hfz17_3 := fz BK227 3) | ((with_reducible refine gate_callee (f := 20) rfl ?_); refine goesL_ (some 5) rfl rfl Try.func20 (by kernel_rfl) rfl #[.int .i64 a0_0, .int .i64 (-1000000000), .int .i64 1000000000] rfl aE ?_; (with_reducible refine (impl_inRange.calls a0_0 (-1000000000) 1000000000 true _ A2.out).mono ?_); rintro e w' ⟨rfl, ⟨nd, rfl⟩⟩; refine ⟨_, rfl, ?_⟩) | (go_at_call 20; (with_reducible refine (impl_inRange.calls a0_1 (-1000000) 1000000 true _ A4.out).mono ?_); rintro e w' ⟨rfl, ⟨nd, rfl⟩⟩) | (go_at_call 20; (with_reducible refine (impl_inRange.calls a0_2 0 12 true _ A6.out).mono ?_); rintro e w' ⟨rfl, ⟨nd, rfl⟩⟩))
      go_ret
      exact ⟨eE, lV1 GE227⟩
   ·replace c7 := Bool.eq_false_iff.mpr c7
    subst c7
    have H1 : (some false) = some r := by rw [if_neg (show ¬ (false = true) by decide)] at H; exact H
    clear H
    have H := H1
    clear H1
    obtain rfl := Option.some.inj H
    go_enter Try.func23, Try.ntmps23
    go_wp2_with (first | ((with_reducible refine gate_dst (N := 1) rfl ?_); refine box_event rfl (N := 1) rfl (cs := #[.int .i64 a0_0, .int .i64 a0_1, .int .i64 a0_2, .int .i64 a0_3]) (t := 33) sE ?_; intro gb227 hg w18 hbox hb; have BK227 := Aside0.mk hbox; have GW227 := gS w hg (lU); have GE227 := gS w hg (lU); replace HB := bH (lU) hb; clear hb hbox hg; have hcz19_0 := cz BK227 0 (.int .i64 a0_0); have hcz19_1 := cz BK227 1 (.int .i64 a0_1); have hcz19_2 := cz BK227 2 (.int .i64 a0_2); have hcz19_3 := cz BK227 3 (.int .i64 a0_3); have hfz19_0 := fz BK227 0; have hfz19_1 := fz BK227 1; have hfz19_2 := fz BK227 2; have hfz19_3 := fz BK227 3) | ((with_reducible refine gate_callee (f := 20) rfl ?_); refine goesL_ (some 5) rfl rfl Try.func20 (by kernel_rfl) rfl #[.int .i64 a0_0, .int .i64 (-1000000000), .int .i64 1000000000] rfl aE ?_; (with_reducible refine (impl_inRange.calls a0_0 (-1000000000) 1000000000 true _ A2.out).mono ?_); rintro e w' ⟨rfl, ⟨nd, rfl⟩⟩; refine ⟨_, rfl, ?_⟩) | (go_at_call 20; (with_reducible refine (impl_inRange.calls a0_1 (-1000000) 1000000 true _ A4.out).mono ?_); rintro e w' ⟨rfl, ⟨nd, rfl⟩⟩) | (go_at_call 20; (with_reducible refine (impl_inRange.calls a0_2 0 12 false _ A6.out).mono ?_); rintro e w' ⟨rfl, ⟨nd, rfl⟩⟩))
    go_ret
    exact ⟨eE, lV1 GE227⟩
  ·replace c5 := Bool.eq_false_iff.mpr c5
   subst c5
   have H1 : (some false) = some r := by rw [if_neg (show ¬ (false = true) by decide)] at H; exact H
   clear H
   have H := H1
   clear H1
   obtain rfl := Option.some.inj H
   go_enter Try.func23, Try.ntmps23
   go_wp2_with (first | ((with_reducible refine gate_dst (N := 1) rfl ?_); refine box_event rfl (N := 1) rfl (cs := #[.int .i64 a0_0, .int .i64 a0_1, .int .i64 a0_2, .int .i64 a0_3]) (t := 33) sE ?_; intro gb227 hg w20 hbox hb; have BK227 := Aside0.mk hbox; have GW227 := gS w hg (lU); have GE227 := gS w hg (lU); replace HB := bH (lU) hb; clear hb hbox hg; have hcz21_0 := cz BK227 0 (.int .i64 a0_0); have hcz21_1 := cz BK227 1 (.int .i64 a0_1); have hcz21_2 := cz BK227 2 (.int .i64 a0_2); have hcz21_3 := cz BK227 3 (.int .i64 a0_3); have hfz21_0 := fz BK227 0; have hfz21_1 := fz BK227 1; have hfz21_2 := fz BK227 2; have hfz21_3 := fz BK227 3) | ((with_reducible refine gate_callee (f := 20) rfl ?_); refine goesL_ (some 5) rfl rfl Try.func20 (by kernel_rfl) rfl #[.int .i64 a0_0, .int .i64 (-1000000000), .int .i64 1000000000] rfl aE ?_; (with_reducible refine (impl_inRange.calls a0_0 (-1000000000) 1000000000 true _ A2.out).mono ?_); rintro e w' ⟨rfl, ⟨nd, rfl⟩⟩; refine ⟨_, rfl, ?_⟩) | (go_at_call 20; (with_reducible refine (impl_inRange.calls a0_1 (-1000000) 1000000 false _ A4.out).mono ?_); rintro e w' ⟨rfl, ⟨nd, rfl⟩⟩))
   go_ret
   exact ⟨eE, lV1 GE227⟩
 ·replace c3 := Bool.eq_false_iff.mpr c3
  subst c3
  have H1 : (some false) = some r := by rw [if_neg (show ¬ (false = true) by decide)] at H; exact H
  clear H
  have H := H1
  clear H1
  obtain rfl := Option.some.inj H
  go_enter Try.func23, Try.ntmps23
  go_wp2_with (first | ((with_reducible refine gate_dst (N := 1) rfl ?_); refine box_event rfl (N := 1) rfl (cs := #[.int .i64 a0_0, .int .i64 a0_1, .int .i64 a0_2, .int .i64 a0_3]) (t := 33) sE ?_; intro gb227 hg w22 hbox hb; have BK227 := Aside0.mk hbox; have GW227 := gS w hg (lU); have GE227 := gS w hg (lU); replace HB := bH (lU) hb; clear hb hbox hg; have hcz23_0 := cz BK227 0 (.int .i64 a0_0); have hcz23_1 := cz BK227 1 (.int .i64 a0_1); have hcz23_2 := cz BK227 2 (.int .i64 a0_2); have hcz23_3 := cz BK227 3 (.int .i64 a0_3); have hfz23_0 := fz BK227 0; have hfz23_1 := fz BK227 1; have hfz23_2 := fz BK227 2; have hfz23_3 := fz BK227 3) | ((with_reducible refine gate_callee (f := 20) rfl ?_); refine goesL_ (some 5) rfl rfl Try.func20 (by kernel_rfl) rfl #[.int .i64 a0_0, .int .i64 (-1000000000), .int .i64 1000000000] rfl aE ?_; (with_reducible refine (impl_inRange.calls a0_0 (-1000000000) 1000000000 false _ A2.out).mono ?_); rintro e w' ⟨rfl, ⟨nd, rfl⟩⟩; refine ⟨_, rfl, ?_⟩))
  go_ret
  exact ⟨eE, lV1 GE227⟩
def impl_GoodLine_1.f (a0_0 : Int) (a0_1 : Int) (a0_2 : Int) (a0_3 : Int) : Option (Bool) := (impl_isBody.f a0_0 a0_1 a0_2 a0_3).bind fun t234 => (some (!t234))
set_option maxHeartbeats 8000000 in
set_option maxRecDepth 100000 in
theorem impl_GoodLine_1.calls (a0_0 : Int) (a0_1 : Int) (a0_2 : Int) (a0_3 : Int) (r : Bool) (w : World) (h : impl_GoodLine_1.f a0_0 a0_1 a0_2 a0_3 = some r) :
  Calls Try.prog 30 #[.agg #[.int .i64 a0_0, .int .i64 a0_1, .int .i64 a0_2, .int .i64 a0_3]] w fun e w' => e = .returned (.bool r) ∧ Below w.heap.size w w' := by
 have hu33 := Try.underlying33
 have HB := Aside0.mk (Below.refl w.heap.size w)
 have H : ((impl_isBody.f a0_0 a0_1 a0_2 a0_3).bind fun t234 => (some (!t234))) = some r := h
 clear h
 replace H := Option.bind_eq_some_iff.mp H
 obtain ⟨t234, A20, H⟩ := H
 replace H : (some (!t234)) = some r := H
 have A2 := Aside0.mk A20
 clear A20
 obtain rfl := Option.some.inj H
 go_enter Try.func30, Try.ntmps30
 go_wp2_with (first | ((with_reducible refine gate_dst (N := 1) rfl ?_); refine box_event rfl (N := 1) rfl (cs := #[.int .i64 a0_0, .int .i64 a0_1, .int .i64 a0_2, .int .i64 a0_3]) (t := 33) sE ?_; intro gb233 hg w3 hbox hb; have BK233 := Aside0.mk hbox; have GW233 := gS w hg (lU); have GE233 := gS w hg (lU); replace HB := bH (lU) hb; clear hb hbox hg; have hcz4_0 := cz BK233 0 (.int .i64 a0_0); have hcz4_1 := cz BK233 1 (.int .i64 a0_1); have hcz4_2 := cz BK233 2 (.int .i64 a0_2); have hcz4_3 := cz BK233 3 (.int .i64 a0_3); have hfz4_0 := fz BK233 0; have hfz4_1 := fz BK233 1; have hfz4_2 := fz BK233 2; have hfz4_3 := fz BK233 3) | ((with_reducible refine gate_callee (f := 23) rfl ?_); refine goesL_ (some 4) rfl rfl Try.func23 (by kernel_rfl) rfl #[.agg #[.int .i64 a0_0, .int .i64 a0_1, .int .i64 a0_2, .int .i64 a0_3]] rfl aE ?_; (with_reducible refine (impl_isBody.calls a0_0 a0_1 a0_2 a0_3 t234 _ A2.out).mono ?_); rintro e w5 ⟨rfl, hb⟩; refine ⟨_, rfl, ?_⟩; replace BK233 := bB (bV BK233) hb; replace HB := bH (lV1 GE233) hb; (try clear hb)))
 go_ret
 exact ⟨eE, lV1 GE233⟩
def impl_apart.l0 : Nat → List (S33) → Int → Option (Bool)
 | 0, _, _ => none
 | k + 1, x0, x3 => if x3 < (x0.length : Int) then (if 0 ≤ (wrap64 (x3 - 1)) then (if (wrap64 (x3 - 1)) < (x0.length : Int) then (if 0 ≤ x3 then (if (wrap64 (((rd_T33 x0 (wrap64 (x3 - 1))).f0) + ((rd_T33 x0 (wrap64 (x3 - 1))).f3))) > (wrap64 (((rd_T33 x0 x3).f0) - ((rd_T33 x0 x3).f3))) then (some false) else (impl_apart.l0 k x0 (wrap64 (x3 + 1)))) else (none)) else (none)) else (none)) else (some true)
def impl_apart.f (k : Nat) (l0 : List (S33)) : Option (Bool) := impl_apart.l0 k l0 1
theorem impl_apart.mono_l : ∀ k, (∀ y0 y1, LeO (impl_apart.l0 k y0 y1) (impl_apart.l0 (k + 1) y0 y1))
 | 0 => fun _ _ r h => by simp [impl_apart.l0] at h
 | k + 1 => by
  have ih0 := impl_apart.mono_l k
  ·intro y0 y1
   unfold impl_apart.l0
   repeat' first
   | (with_reducible exact ih0 _ _)
   | (with_reducible first | exact LeO.refl _ | exact LeO.none _ | refine LeO.ite ?_ ?_ | refine LeO.bind ?_ (fun _ => ?_))
   | exact ih0 _ _ | exact LeO.none _ | refine LeO.ite ?_ ?_ | refine LeO.bind ?_ (fun _ => ?_)
theorem impl_apart.mono : ∀ a0 k, LeO (impl_apart.f k a0) (impl_apart.f (k + 1) a0) := by
 intro a0 k
 have ih0 := impl_apart.mono_l k
 unfold impl_apart.f
 repeat' first
   | (with_reducible exact ih0 _ _)
   | (with_reducible first | exact LeO.refl _ | exact LeO.none _ | refine LeO.ite ?_ ?_ | refine LeO.bind ?_ (fun _ => ?_))
   | exact ih0 _ _ | exact LeO.none _ | refine LeO.ite ?_ ?_ | refine LeO.bind ?_ (fun _ => ?_)
set_option maxHeartbeats 8000000 in
set_option maxRecDepth 100000 in
theorem impl_apart.calls (k : Nat) (A0 : Option Addr) (c0 : Nat) (l0 : List (S33)) (r : Bool) (w : World) (hr0 : Kd.C k33 w A0 l0.length l0) (hc0 : l0.length ≤ c0) (h : impl_apart.f k l0 = some r) :
  Calls Try.prog 31 #[.slice A0 l0.length c0] w fun e w' => e = .returned (.bool r) ∧ Drawn0 w w' := by
 have HR0 := Aside0.mk hr0
 have HC0 := Aside0.mk hc0
 clear hr0 hc0
 have H : (impl_apart.l0 k l0 1) = some r := h
 clear h
 have H' := Aside0.mk H
 clear H
 go_enter Try.func31, Try.ntmps31
 go_wp2
 repeat (go_quiet (fail); try go_wp2)
 go_loopg [3] k (fun kq v3 w' => ∃ (x3_1 : Int), v3 = .int .i64 x3_1 ∧ Aside0 (impl_apart.l0 kq l0 x3_1 = some r) ∧ Aside0 (kq ≤ k) ∧ Drawn0 w w')
 case atStart => exact ⟨(1), tE, H', ⟨Nat.le_refl _⟩, by repeat (first | exact Drawn0.refl _ | apply Drawn0.step)⟩
 case round =>
  clear H'
  obtain ⟨x3_1, rfl, HA, HK1, ⟨m1, rfl⟩⟩ := hrel
  cases gk with
  | zero => exact absurd HA.out (by simp [impl_apart.l0])
  | succ k1 =>
   have H := HA.out
   clear HA
   simp only [impl_apart.l0] at H
   by_cases c2 : x3_1 < (l0.length : Int)
   ·rw [if_pos c2] at H
    have c2b0 : decide (x3_1 < (l0.length : Int)) = true := decide_eq_true c2
    clear c2
    obtain ⟨ji3, hji3⟩ : ∃ j_ : Int, (wrap64 (x3_1 - 1)) = j_ := ⟨_, rfl⟩
    replace H : (if 0 ≤ (ji3) then (if (ji3) < (l0.length : Int) then (if 0 ≤ x3_1 then (if (wrap64 (((rd_T33 l0 (ji3)).f0) + ((rd_T33 l0 (ji3)).f3))) > (wrap64 (((rd_T33 l0 x3_1).f0) - ((rd_T33 l0 x3_1).f3))) then (some false) else (impl_apart.l0 k1 l0 (wrap64 (x3_1 + 1)))) else (none)) else (none)) else (none)) = some r := by first | (rw [hji3] at H; exact H) | (simp only [hji3] at H ⊢; exact H)
    have hji3w : (IntKind.i64.wrap (x3_1 - 1)) = ji3 := (i64_w _).trans hji3
    by_cases c4 : 0 ≤ (ji3)
    ·rw [if_pos c4] at H
     have c4b0 : decide (0 ≤ (ji3)) = true := decide_eq_true c4
     clear c4
     by_cases c5 : (ji3) < (l0.length : Int)
     ·rw [if_pos c5] at H
      have c5b0 : decide ((ji3) < (l0.length : Int)) = true := decide_eq_true c5
      clear c5
      by_cases c6 : 0 ≤ x3_1
      ·rw [if_pos c6] at H
       have c6b0 : decide (0 ≤ x3_1) = true := decide_eq_true c6
       clear c6
       by_cases c7 : (wrap64 (((rd_T33 l0 (ji3)).f0) + ((rd_T33 l0 (ji3)).f3))) > (wrap64 (((rd_T33 l0 x3_1).f0) - ((rd_T33 l0 x3_1).f3)))
       ·rw [if_pos c7] at H
        have c7b0 : decide ((wrap64 (((rd_T33 l0 x3_1).f0) - ((rd_T33 l0 x3_1).f3))) < (wrap64 (((rd_T33 l0 (ji3)).f0) + ((rd_T33 l0 (ji3)).f3)))) = true := decide_eq_true c7
        clear c7
        obtain rfl := Option.some.inj H
        have p235 : 0 ≤ ((ji3) : Int) := of_decide_eq_true hE
        have q235 : (ji3) < (l0.length : Int) := of_decide_eq_true hE
        obtain ⟨ad235, e235, hx235_0, hx235_1, hx235_2, hx235_3⟩ := at_T33 HR0.out (ji3) p235 q235
        cases e235
        replace p235 := eq_true p235
        replace q235 := eq_true q235
        have p236 : 0 ≤ ((ji3) : Int) := of_decide_eq_true hE
        have q236 : (ji3) < (l0.length : Int) := of_decide_eq_true hE
        obtain ⟨ad236, e236, hx236_0, hx236_1, hx236_2, hx236_3⟩ := at_T33 HR0.out (ji3) p236 q236
        obtain rfl : ad235 = ad236 := (by injection e236)
        replace p236 := eq_true p236
        replace q236 := eq_true q236
        have p237 : 0 ≤ (x3_1 : Int) := of_decide_eq_true hE
        have q237 : x3_1 < (l0.length : Int) := of_decide_eq_true hE
        obtain ⟨ad237, e237, hx237_0, hx237_1, hx237_2, hx237_3⟩ := at_T33 HR0.out x3_1 p237 q237
        obtain rfl : ad235 = ad237 := (by injection e237)
        replace p237 := eq_true p237
        replace q237 := eq_true q237
        have p238 : 0 ≤ (x3_1 : Int) := of_decide_eq_true hE
        have q238 : x3_1 < (l0.length : Int) := of_decide_eq_true hE
        obtain ⟨ad238, e238, hx238_0, hx238_1, hx238_2, hx238_3⟩ := at_T33 HR0.out x3_1 p238 q238
        obtain rfl : ad235 = ad238 := (by injection e238)
        replace p238 := eq_true p238
        replace q238 := eq_true q238
        go_wp2
        repeat (go_quiet (fail); try go_wp2)
        go_ret
        exact ⟨by first | rfl | (simp; done) | (simp only [← hji3] <;> (first | rfl | simp)) | (simp [*]; done) | exact not_isEmpty _ | exact (not_isEmpty _).symm | exact is_empty _ | exact (is_empty _).symm, by repeat (first | exact Drawn0.refl _ | apply Drawn0.step)⟩
       ·rw [if_neg c7] at H
        have c7b0 : decide ((wrap64 (((rd_T33 l0 x3_1).f0) - ((rd_T33 l0 x3_1).f3))) < (wrap64 (((rd_T33 l0 (ji3)).f0) + ((rd_T33 l0 (ji3)).f3)))) = false := decide_eq_false c7
        clear c7
        have H' := Aside0.mk H
        clear H
        have p235 : 0 ≤ ((ji3) : Int) := of_decide_eq_true hE
        have q235 : (ji3) < (l0.length : Int) := of_decide_eq_true hE
        obtain ⟨ad235, e235, hx235_0, hx235_1, hx235_2, hx235_3⟩ := at_T33 HR0.out (ji3) p235 q235
        cases e235
        replace p235 := eq_true p235
        replace q235 := eq_true q235
        have p236 : 0 ≤ ((ji3) : Int) := of_decide_eq_true hE
        have q236 : (ji3) < (l0.length : Int) := of_decide_eq_true hE
        obtain ⟨ad236, e236, hx236_0, hx236_1, hx236_2, hx236_3⟩ := at_T33 HR0.out (ji3) p236 q236
        obtain rfl : ad235 = ad236 := (by injection e236)
        replace p236 := eq_true p236
        replace q236 := eq_true q236
        have p237 : 0 ≤ (x3_1 : Int) := of_decide_eq_true hE
        have q237 : x3_1 < (l0.length : Int) := of_decide_eq_true hE
        obtain ⟨ad237, e237, hx237_0, hx237_1, hx237_2, hx237_3⟩ := at_T33 HR0.out x3_1 p237 q237
        obtain rfl : ad235 = ad237 := (by injection e237)
        replace p237 := eq_true p237
        replace q237 := eq_true q237
        have p238 : 0 ≤ (x3_1 : Int) := of_decide_eq_true hE
        have q238 : x3_1 < (l0.length : Int) := of_decide_eq_true hE
        obtain ⟨ad238, e238, hx238_0, hx238_1, hx238_2, hx238_3⟩ := at_T33 HR0.out x3_1 p238 q238
        obtain rfl : ad235 = ad238 := (by injection e238)
        replace p238 := eq_true p238
        replace q238 := eq_true q238
        go_wp2
        repeat (go_quiet (fail); try go_wp2)
        go_roundg k1
        case measure => have := HK1.out; omega
        case rel => exact ⟨(wrap64 (x3_1 + 1)), tE, H', ⟨by have := HK1.out; omega⟩, by repeat (first | exact Drawn0.refl _ | apply Drawn0.step)⟩
      ·rw [if_neg c6] at H
       exact absurd H (by simp)
     ·rw [if_neg c5] at H
      exact absurd H (by simp)
    ·rw [if_neg c4] at H
     exact absurd H (by simp)
   ·rw [if_neg c2] at H
    have c2b0 : decide (x3_1 < (l0.length : Int)) = false := decide_eq_false c2
    clear c2
    obtain rfl := Option.some.inj H
    go_wp2
    repeat (go_quiet (fail); try go_wp2)
    go_ret
    exact ⟨by first | rfl | (simp; done) | (simp [*]; done) | exact not_isEmpty _ | exact (not_isEmpty _).symm | exact is_empty _ | exact (is_empty _).symm, by repeat (first | exact Drawn0.refl _ | apply Drawn0.step)⟩
def slices_IndexFunc_w30.l0 : Nat → List (S33) → Int → Int → Option (Int)
 | 0, _, _, _ => none
 | k + 1, x0, x7, x8 => if x8 < x7 then (if 0 ≤ x8 then (if x8 < (x0.length : Int) then ((impl_GoodLine_1.f ((rd_T33 x0 x8).f0) ((rd_T33 x0 x8).f1) ((rd_T33 x0 x8).f2) ((rd_T33 x0 x8).f3)).bind fun t240 => (if t240 = true then (some x8) else (slices_IndexFunc_w30.l0 k x0 x7 (wrap64 (x8 + 1))))) else (none)) else (none)) else (some (-1))
def slices_IndexFunc_w30.f (k : Nat) (l0 : List (S33))  : Option (Int) := slices_IndexFunc_w30.l0 k l0 (l0.length : Int) 0
theorem slices_IndexFunc_w30.mono_l : ∀ k, (∀ y0 y1 y2, LeO (slices_IndexFunc_w30.l0 k y0 y1 y2) (slices_IndexFunc_w30.l0 (k + 1) y0 y1 y2))
 | 0 => fun _ _ _ r h => by simp [slices_IndexFunc_w30.l0] at h
 | k + 1 => by
  have ih0 := slices_IndexFunc_w30.mono_l k
  ·intro y0 y1 y2
   unfold slices_IndexFunc_w30.l0
   repeat' first
   | (with_reducible exact ih0 _ _ _)
   | (with_reducible first | exact LeO.refl _ | exact LeO.none _ | refine LeO.ite ?_ ?_ | refine LeO.bind ?_ (fun _ => ?_))
   | exact ih0 _ _ _ | exact LeO.none _ | refine LeO.ite ?_ ?_ | refine LeO.bind ?_ (fun _ => ?_)
theorem slices_IndexFunc_w30.mono : ∀ a0 k, LeO (slices_IndexFunc_w30.f k a0) (slices_IndexFunc_w30.f (k + 1) a0) := by
 intro a0 k
 have ih0 := slices_IndexFunc_w30.mono_l k
 unfold slices_IndexFunc_w30.f
 repeat' first
   | (with_reducible exact ih0 _ _ _)
   | (with_reducible first | exact LeO.refl _ | exact LeO.none _ | refine LeO.ite ?_ ?_ | refine LeO.bind ?_ (fun _ => ?_))
   | exact ih0 _ _ _ | exact LeO.none _ | refine LeO.ite ?_ ?_ | refine LeO.bind ?_ (fun _ => ?_)
set_option maxHeartbeats 8000000 in
set_option maxRecDepth 100000 in
theorem slices_IndexFunc_w30.calls (k : Nat) (A0 : Option Addr) (c0 : Nat) (l0 : List (S33))  (r : Int) (w : World) (hr0 : Kd.C k33 w A0 l0.length l0) (hc0 : l0.length ≤ c0) (h : slices_IndexFunc_w30.f k l0 = some r) :
  Calls Try.prog 37 #[.slice A0 l0.length c0, .func (.func 30) #[] #[]] w fun e w' => e = .returned (.int .i64 r) ∧ Below w.heap.size w w' := by
 have hu33 := Try.underlying33
 have HR0 := Aside0.mk hr0
 have HC0 := Aside0.mk hc0
 clear hr0 hc0
 have HB := Aside0.mk (Below.refl w.heap.size w)
 have H : (slices_IndexFunc_w30.l0 k l0 (l0.length : Int) 0) = some r := h
 clear h
 have H' := Aside0.mk H
 clear H
 go_enter Try.func37, Try.ntmps37
 go_wp2
 go_loopg [8] k (fun kq v8 w' => ∃ (x8_1 : Int), v8 = .int .i64 x8_1 ∧ Aside0 (slices_IndexFunc_w30.l0 kq l0 (l0.length : Int) x8_1 = some r) ∧ Aside0 (kq ≤ k) ∧ Aside0 (Below w.heap.size w w'))
 case atStart => exact ⟨(0), tE, H', ⟨Nat.le_refl _⟩, ⟨by repeat (first | (with_reducible first | exact HB.out | apply below_alloc | apply pw_below_drewN | apply below_drew1) | exact HB.out)⟩⟩
 case round =>
  clear H'
  obtain ⟨x8_1, rfl, HA, HK1, HB⟩ := hrel
  cases gk with
  | zero => exact absurd HA.out (by simp [slices_IndexFunc_w30.l0])
  | succ k1 =>
   have H := HA.out
   clear HA
   simp only [slices_IndexFunc_w30.l0] at H
   by_cases c3 : x8_1 < (l0.length : Int)
   ·rw [if_pos c3] at H
    have c3b0 : decide (x8_1 < (l0.length : Int)) = true := decide_eq_true c3
    clear c3
    by_cases c4 : 0 ≤ x8_1
    ·rw [if_pos c4] at H
     have c4b0 : decide (0 ≤ x8_1) = true := decide_eq_true c4
     clear c4
     by_cases c5 : x8_1 < (l0.length : Int)
     ·rw [if_pos c5] at H
      have c5b0 : decide (x8_1 < (l0.length : Int)) = true := decide_eq_true c5
      clear c5
      replace H := Option.bind_eq_some_iff.mp H
      obtain ⟨t240, A60, H⟩ := H
      replace H : (if t240 = true then (some x8_1) else (slices_IndexFunc_w30.l0 k1 l0 (l0.length : Int) (wrap64 (x8_1 + 1)))) = some r := H
      have A6 := Aside0.mk A60
      clear A60
      by_cases c7 : t240 = true
      ·subst c7
       have H1 : (some x8_1) = some r := by rw [if_pos rfl] at H; exact H
       clear H
       have H := H1
       clear H1
       obtain rfl := Option.some.inj H
       have p239 : 0 ≤ (x8_1 : Int) := of_decide_eq_true hE
       have q239 : x8_1 < (l0.length : Int) := of_decide_eq_true hE
       obtain ⟨ad239, e239, hx239_0, hx239_1, hx239_2, hx239_3⟩ := at_T33 HR0.out x8_1 p239 q239
       cases e239
       replace hx239_0 := (HB.out.cell (World.block_lt_of_cell? w _ hx239_0)).trans hx239_0
       replace hx239_1 := (HB.out.cell (World.block_lt_of_cell? w _ hx239_1)).trans hx239_1
       replace hx239_2 := (HB.out.cell (World.block_lt_of_cell? w _ hx239_2)).trans hx239_2
       replace hx239_3 := (HB.out.cell (World.block_lt_of_cell? w _ hx239_3)).trans hx239_3
       replace p239 := eq_true p239
       replace q239 := eq_true q239
       go_wp2_with (first | ((with_reducible refine gateD_ rfl ?_); refine goesD_ (some 16) rfl rfl Try.func30 (by kernel_rfl) rfl rfl rfl #[.agg #[.int .i64 ((rd_T33 l0 x8_1).f0), .int .i64 ((rd_T33 l0 x8_1).f1), .int .i64 ((rd_T33 l0 x8_1).f2), .int .i64 ((rd_T33 l0 x8_1).f3)]] aE ?_; (with_reducible refine (impl_GoodLine_1.calls ((rd_T33 l0 x8_1).f0) ((rd_T33 l0 x8_1).f1) ((rd_T33 l0 x8_1).f2) ((rd_T33 l0 x8_1).f3) true _ A6.out).mono ?_); rintro e w8 ⟨rfl, hb⟩; refine ⟨_, rfl, ?_⟩; replace HB := bH (lU) hb; (try clear hb)))
       go_ret
       exact ⟨eE, lU⟩
      ·replace c7 := Bool.eq_false_iff.mpr c7
       subst c7
       have H1 : (slices_IndexFunc_w30.l0 k1 l0 (l0.length : Int) (wrap64 (x8_1 + 1))) = some r := by rw [if_neg (show ¬ (false = true) by decide)] at H; exact H
       clear H
       have H := H1
       clear H1
       have H' := Aside0.mk H
       clear H
       have p239 : 0 ≤ (x8_1 : Int) := of_decide_eq_true hE
       have q239 : x8_1 < (l0.length : Int) := of_decide_eq_true hE
       obtain ⟨ad239, e239, hx239_0, hx239_1, hx239_2, hx239_3⟩ := at_T33 HR0.out x8_1 p239 q239
       cases e239
       replace hx239_0 := (HB.out.cell (World.block_lt_of_cell? w _ hx239_0)).trans hx239_0
       replace hx239_1 := (HB.out.cell (World.block_lt_of_cell? w _ hx239_1)).trans hx239_1
       replace hx239_2 := (HB.out.cell (World.block_lt_of_cell? w _ hx239_2)).trans hx239_2
       replace hx239_3 := (HB.out.cell (World.block_lt_of_cell? w _ hx239_3)).trans hx239_3
       replace p239 := eq_true p239
       replace q239 := eq_true q239
       go_wp2_with (first | ((with_reducible refine gateD_ rfl ?_); refine goesD_ (some 16) rfl rfl Try.func30 (by kernel_rfl) rfl rfl rfl #[.agg #[.int .i64 ((rd_T33 l0 x8_1).f0), .int .i64 ((rd_T33 l0 x8_1).f1), .int .i64 ((rd_T33 l0 x8_1).f2), .int .i64 ((rd_T33 l0 x8_1).f3)]] aE ?_; (with_reducible refine (impl_GoodLine_1.calls ((rd_T33 l0 x8_1).f0) ((rd_T33 l0 x8_1).f1) ((rd_T33 l0 x8_1).f2) ((rd_T33 l0 x8_1).f3) false _ A6.out).mono ?_); rintro e w9 ⟨rfl, hb⟩; refine ⟨_, rfl, ?_⟩; replace HB := bH (lU) hb; (try clear hb)))
       go_roundg k1
       case measure => have := HK1.out; omega
       case rel => exact ⟨(wrap64 (x8_1 + 1)), tE, H', ⟨by have := HK1.out; omega⟩, ⟨by repeat (first | (with_reducible first | exact HB.out | apply below_alloc | apply pw_below_drewN | apply below_drew1) | exact HB.out)⟩⟩
     ·rw [if_neg c5] at H
      exact absurd H (by simp)
    ·rw [if_neg c4] at H
     exact absurd H (by simp)
   ·rw [if_neg c3] at H
    have c3b0 : decide (x8_1 < (l0.length : Int)) = false := decide_eq_false c3
    clear c3
    obtain rfl := Option.some.inj H
    go_wp2
    go_ret
    exact ⟨eE, lU⟩
def slices_ContainsFunc_w30.f (k : Nat) (l0 : List (S33))  : Option (Bool) := (slices_IndexFunc_w30.f k l0).bind fun t241 => (some (decide (t241 ≥ 0)))
theorem slices_ContainsFunc_w30.mono : ∀ a0 k, LeO (slices_ContainsFunc_w30.f k a0) (slices_ContainsFunc_w30.f (k + 1) a0) := by
 intro a0 k
 unfold slices_ContainsFunc_w30.f
 repeat' first
   | (with_reducible exact slices_IndexFunc_w30.mono _ _)
   | (with_reducible first | exact LeO.refl _ | exact LeO.none _ | refine LeO.ite ?_ ?_ | refine LeO.bind ?_ (fun _ => ?_))
   | exact slices_IndexFunc_w30.mono _ _ | exact LeO.none _ | refine LeO.ite ?_ ?_ | refine LeO.bind ?_ (fun _ => ?_)
set_option maxHeartbeats 8000000 in
set_option maxRecDepth 100000 in
theorem slices_ContainsFunc_w30.calls (k : Nat) (A0 : Option Addr) (c0 : Nat) (l0 : List (S33))  (r : Bool) (w : World) (hr0 : Kd.C k33 w A0 l0.length l0) (hc0 : l0.length ≤ c0) (h : slices_ContainsFunc_w30.f k l0 = some r) :
  Calls Try.prog 29 #[.slice A0 l0.length c0, .func (.func 30) #[] #[]] w fun e w' => e = .returned (.bool r) ∧ Below w.heap.size w w' := by
 have HR0 := Aside0.mk hr0
 have HC0 := Aside0.mk hc0
 clear hr0 hc0
 have HB := Aside0.mk (Below.refl w.heap.size w)
 have H : ((slices_IndexFunc_w30.f k l0).bind fun t241 => (some (decide (t241 ≥ 0)))) = some r := h
 clear h
 replace H := Option.bind_eq_some_iff.mp H
 obtain ⟨t241, A30, H⟩ := H
 replace H : (some (decide (t241 ≥ 0))) = some r := H
 have A3 := Aside0.mk A30
 clear A30
 obtain rfl := Option.some.inj H
 go_enter Try.func29, Try.ntmps29
 go_wp2_with (first | ((with_reducible refine gate_callee (f := 37) rfl ?_); refine goesL_ (some 7) rfl rfl Try.func37 (by kernel_rfl) rfl #[.slice A0 l0.length c0, .func (.func 30) #[] #[]] rfl aE ?_; (with_reducible refine (slices_IndexFunc_w30.calls k _ _ l0  t241 _ ?side1 ?side2 A3.out).mono ?_); (case side1 => repeat (first | exact HR0.out | (with_reducible refine Kd.C_alloc ?_ _) | (with_reducible refine Kd.C_drewN ?_ _) | (with_reducible refine Kd.C_drew ?_))); (case side2 => exact HC0.out); rintro e w4 ⟨rfl, hb⟩; refine ⟨_, rfl, ?_⟩; replace HB := bH (lU) hb; (try clear hb)))
 go_ret
 exact ⟨eE, lU⟩
def impl_GoodLine.f (k : Nat) (l0 : List (S33)) : Option (Bool) := if (l0.length : Int) ≤ 20 then ((slices_ContainsFunc_w30.f k l0).bind fun t242 => (if t242 = true then (some false) else ((impl_apart.f k l0).bind fun t243 => (some t243)))) else (some false)
theorem impl_GoodLine.mono : ∀ a0 k, LeO (impl_GoodLine.f k a0) (impl_GoodLine.f (k + 1) a0) := by
 intro a0 k
 unfold impl_GoodLine.f
 repeat' first
   | (with_reducible exact impl_apart.mono _ _)
   | (with_reducible exact slices_ContainsFunc_w30.mono _ _)
   | (with_reducible first | exact LeO.refl _ | exact LeO.none _ | refine LeO.ite ?_ ?_ | refine LeO.bind ?_ (fun _ => ?_))
   | exact impl_apart.mono _ _
   | exact slices_ContainsFunc_w30.mono _ _ | exact LeO.none _ | refine LeO.ite ?_ ?_ | refine LeO.bind ?_ (fun _ => ?_)
set_option maxHeartbeats 8000000 in
set_option maxRecDepth 100000 in
theorem impl_GoodLine.calls (k : Nat) (A0 : Option Addr) (c0 : Nat) (l0 : List (S33)) (r : Bool) (w : World) (hr0 : Kd.C k33 w A0 l0.length l0) (hc0 : l0.length ≤ c0) (h : impl_GoodLine.f k l0 = some r) :
  Calls Try.prog 18 #[.slice A0 l0.length c0] w fun e w' => e = .returned (.bool r) ∧ Below w.heap.size w w' := by
 have HR0 := Aside0.mk hr0
 have HC0 := Aside0.mk hc0
 clear hr0 hc0
 have HB := Aside0.mk (Below.refl w.heap.size w)
 have H : (if (l0.length : Int) ≤ 20 then ((slices_ContainsFunc_w30.f k l0).bind fun t242 => (if t242 = true then (some false) else ((impl_apart.f k l0).bind fun t243 => (some t243)))) else (some false)) = some r := h
 clear h
 by_cases c2 : (l0.length : Int) ≤ 20
 ·rw [if_pos c2] at H
  have c2b0 : decide ((l0.length : Int) ≤ 20) = true := decide_eq_true c2
  have c2b1 : decide (l0.length ≤ 20) = true := decide_eq_true (by omega)
  clear c2
  replace H := Option.bind_eq_some_iff.mp H
  obtain ⟨t242, A30, H⟩ := H
  replace H : (if t242 = true then (some false) else ((impl_apart.f k l0).bind fun t243 => (some t243))) = some r := H
  have A3 := Aside0.mk A30
  clear A30
  by_cases c4 : t242 = true
  ·subst c4
   have H1 : (some false) = some r := by rw [if_pos rfl] at H; exact H
   clear H
   have H := H1
   clear H1
   obtain rfl := Option.some.inj H
   go_enter Try.func18, Try.ntmps18
   go_wp2_with (first | (go_at_call 29; (with_reducible refine (slices_ContainsFunc_w30.calls k _ _ l0  true _ ?side1 ?side2 A3.out).mono ?_); (case side1 => repeat (first | exact HR0.out | (with_reducible refine Kd.C_alloc ?_ _) | (with_reducible refine Kd.C_drewN ?_ _) | (with_reducible refine Kd.C_drew ?_))); (case side2 => exact HC0.out); rintro e w5 ⟨rfl, hb⟩; replace HB := bH (lU) hb; (try clear hb)))
   go_ret
   exact ⟨eE, lU⟩
  ·replace c4 := Bool.eq_false_iff.mpr c4
   subst c4
   have H1 : ((impl_apart.f k l0).bind fun t243 => (some t243)) = some r := by rw [if_neg (show ¬ (false = true) by decide)] at H; exact H
   clear H
   have H := H1
   clear H1
   replace H := Option.bind_eq_some_iff.mp H
   obtain ⟨t243, A60, H⟩ := H
   replace H : (some t243) = some r := H
   have A6 := Aside0.mk A60
   clear A60
   obtain rfl := Option.some.inj H
   go_enter Try.func18, Try.ntmps18
   go_wp2_with (first | (go_at_call 29; (with_reducible refine (slices_ContainsFunc_w30.calls k _ _ l0  false _ ?side1 ?side2 A3.out).mono ?_); (case side1 => repeat (first | exact HR0.out | (with_reducible refine Kd.C_alloc ?_ _) | (with_reducible refine Kd.C_drewN ?_ _) | (with_reducible refine Kd.C_drew ?_))); (case side2 => exact HC0.out); rintro e w7 ⟨rfl, hb⟩; replace HB := bH (lU) hb; (try clear hb)) | (go_at_call 31; (with_reducible refine (impl_apart.calls k _ _ l0 t243 _ ?side1 ?side2 A6.out).mono ?_); (case side1 => exact cU (Kd.C_below HR0.out HB.out)); (case side2 => exact HC0.out); rintro e w' ⟨rfl, ⟨nd, rfl⟩⟩))
   go_ret
   exact ⟨eE, lU⟩
 ·rw [if_neg c2] at H
  have c2b0 : decide ((l0.length : Int) ≤ 20) = false := decide_eq_false c2
  have c2b1 : decide (l0.length ≤ 20) = false := decide_eq_false (by omega)
  clear c2
  obtain rfl := Option.some.inj H
  go_enter Try.func18, Try.ntmps18
  go_wp2
  go_ret
  exact ⟨eE, lU⟩
def impl_isBounce.f (a0 : Int) : Option (Bool) := (impl_inRange.f a0 0 100).bind fun t244 => (some t244)
set_option maxHeartbeats 8000000 in
set_option maxRecDepth 100000 in
theorem impl_isBounce.calls (a0 : Int) (r : Bool) (w : World) (h : impl_isBounce.f a0 = some r) :
  Calls Try.prog 19 #[.int .i64 a0] w fun e w' => e = .returned (.bool r) ∧ Drawn0 w w' := by
 have H : ((impl_inRange.f a0 0 100).bind fun t244 => (some t244)) = some r := h
 clear h
 replace H := Option.bind_eq_some_iff.mp H
 obtain ⟨t244, A20, H⟩ := H
 replace H : (some t244) = some r := H
 have A2 := Aside0.mk A20
 clear A20
 obtain rfl := Option.some.inj H
 go_enter Try.func19, Try.ntmps19
 go_wp2_with (first | ((with_reducible refine gate_callee (f := 20) rfl ?_); refine goesL_ (some 4) rfl rfl Try.func20 (by kernel_rfl) rfl #[.int .i64 a0, .int .i64 0, .int .i64 100] rfl aE ?_; (with_reducible refine (impl_inRange.calls a0 0 100 t244 _ A2.out).mono ?_); rintro e w' ⟨rfl, ⟨nd, rfl⟩⟩; refine ⟨_, rfl, ?_⟩))
 go_ret
 exact ⟨by first | rfl | (simp; done) | (simp [*]; done) | exact not_isEmpty _ | exact (not_isEmpty _).symm | exact is_empty _ | exact (is_empty _).symm, by repeat (first | exact Drawn0.refl _ | apply Drawn0.step)⟩
def impl_Body_21.f (l0 : List (S33)) : Option (List (S33)) := if l0.length < 4398046511104 then (some l0) else (none)
set_option maxHeartbeats 8000000 in
set_option maxRecDepth 100000 in
theorem impl_Body_21.calls (A0 : Option Addr) (c0 : Nat) (l0 : List (S33)) (r : List (S33)) (w : World) (hr0 : Kd.C k33 w A0 l0.length l0) (hc0 : l0.length ≤ c0) (h : impl_Body_21.f l0 = some r) :
  Calls Try.prog 21 #[.slice A0 l0.length c0] w fun e w' => ∃ v0_ : Value, e = .returned (v0_) ∧ Kd.R k33 33 w' w.heap.size (fun _ => True) v0_ r ∧ Below w.heap.size w w' := by
 have hl : l0.length < 4398046511104 ∧ l0 = r := by
  unfold impl_Body_21.f at h
  split at h
  ·exact ⟨by assumption, Option.some.inj h⟩
  ·cases h
 clear h
 obtain ⟨hl, rfl⟩ := hl
 have HL := Aside0.mk hl
 have HR0 := Aside0.mk hr0
 clear hr0 hl
 have HT := Try.underlying23
 have u0 : ∀ w, Sem.run Try.prog (underlying 23) w = .ok (TypeDesc.slice 33) w := run_underlying HT
 have q0 : ∀ (w : World) (a : Option Addr) (n c n' c' : Nat), (binOp .eql 23 (.slice a n c) (.slice none n' c')).run Try.prog w = .ok (.bool a.isNone) w := fun w a n c n' c' => Lib.run_eql_slice_nil w _ _ a n c n' c' HT
 cases A0 with
 | none =>
  obtain rfl : l0 = [] := by
   rcases Nat.eq_zero_or_pos l0.length with h0 | h0
   ·exact List.eq_nil_of_length_eq_zero h0
   ·obtain ⟨ad, h1, _⟩ := HR0.out.2.2 h0
    cases h1
  go_enter Try.func21, Try.ntmps21
  go_wp2
  go_ret
  exact ⟨_, rfl, Kd.R_nil _ _ _ _ _, Below.refl _ _⟩
 | some ad =>
  go_enter Try.func21, Try.ntmps21
  go_wp2_with (first | ((with_reducible refine gate_builtin (b := .append) (xs := #[.tmp 5, .tmp 6]) rfl ?_); at_builtin; refine Kd.R_append_rows k33 (w0 := w) w.heap.size rfl (.tmp 5) (.tmp 6) 23 33 (.agg #[(.int .i64 0), (.int .i64 0), (.int .i64 0), (.int .i64 0)]) 32 rfl Try.underlying23 info33 rfl (by decide) (by omega) (.slice (some ⟨w.heap.size, 0, none⟩) 0 0) [] l0 (some ad) l0.length c0 (fun _ => True) (fun _ => False) rfl rfl ?aO ?aR (fun _ _ h => h) (fun _ h => h.elim) ?aF ?aB ?aS ?aL ?_; (case aR => exact Kd.C_below HR0.out (below_alloc (Below.refl _ _) _)); (case aB => exact below_alloc (Below.refl _ _) _); (case aF => exact fun _ _ => trivial); (case aO => exact ⟨fun _ _ => trivial, [], World.ownsRow_made w #[] 0 (Nat.le_refl _) (Nat.zero_le _) rfl, ⟨rfl, fun j p hj => by simp at hj⟩⟩); (case aS => simp); (case aL => have := HL.out; simp only [List.length_nil, Nat.zero_add]; omega); intro v1 w1 ho hb hg hat; rw [List.nil_append] at ho; have HO := Aside0.mk ho; have HB := Aside0.mk hb; clear ho hb hg hat))
  go_ret
  exact ⟨_, rfl, HO.out, HB.out⟩
end Go.Proofs.Ytnacjhgpanedoab.PFnPushed
namespace Go.Proofs.Ytnacjhgpanedoab.PFnPushed
open Go.RowKit Go.Proofs.YtnacjhgpanedoabW.PrintWords Go.Proofs.YtnacjhgpanedoabW.PrintLast Go.Proofs.YtnacjhgpanedoabW.PrintMore
attribute [local go_sem] max2_int min2_int max_two min_two max_three min_three max_four min_four   -- for this text's walks alone
set_option linter.unusedVariables false
set_option linter.unusedSimpArgs false
mutual
def impl_pushed.j0 : Nat → Int → Int → Bool → Int → Int → Int → Int → Int → Int → Int → Int → Option (Int × Int × Int × Int × Int × Int × Int × Int)
 | 0, _, _, _, _, _, _, _, _, _, _, _ => none
 | k + 1, x2, x8, x47, x246000, x246001, x246002, x246003, x247000, x247001, x247002, x247003 => if x47 = true then (some (x246000, x246001, x246002, x246003, x247000, x247001, x247002, x247003)) else (if x247002 = 0 then (impl_pushed.j1 k (wrap64 (Int.tdiv (wrap64 ((wrap64 (100 + x2)) * x246001)) 100)) x246000 x246001 x246002 x246003 x247000 x247001 x247002 x247003) else (if x246002 = 0 then (impl_pushed.j1 k (wrap64 (Int.tdiv (wrap64 ((wrap64 (100 + x2)) * (wrap64 (-x247001)))) 100)) x246000 x246001 x246002 x246003 x247000 x247001 x247002 x247003) else (if (wrap64 (100 * (wrap64 (x246002 + x247002)))) = 0 then (none) else (impl_pushed.j1 k (wrap64 (Int.tdiv (wrap64 ((wrap64 (100 + x2)) * x8)) (wrap64 (100 * (wrap64 (x246002 + x247002)))))) x246000 x246001 x246002 x246003 x247000 x247001 x247002 x247003))))
def impl_pushed.j1 : Nat → Int → Int → Int → Int → Int → Int → Int → Int → Int → Option (Int × Int × Int × Int × Int × Int × Int × Int)
 | 0, _, _, _, _, _, _, _, _, _ => none
 | k + 1, x9, x246000, x246001, x246002, x246003, x247000, x247001, x247002, x247003 => if x246002 > 0 then (impl_pushed.j2 k x9 x246000 (wrap64 (x246001 - x9)) x246002 x246003 x247000 x247001 x247002 x247003) else (impl_pushed.j2 k x9 x246000 x246001 x246002 x246003 x247000 x247001 x247002 x247003)
def impl_pushed.j2 : Nat → Int → Int → Int → Int → Int → Int → Int → Int → Int → Option (Int × Int × Int × Int × Int × Int × Int × Int)
 | 0, _, _, _, _, _, _, _, _, _ => none
 | k + 1, x9, x246000, x246001, x246002, x246003, x247000, x247001, x247002, x247003 => if x247002 > 0 then (some (x246000, x246001, x246002, x246003, x247000, wrap64 (x247001 + x9), x247002, x247003)) else (some (x246000, x246001, x246002, x246003, x247000, x247001, x247002, x247003))
end
def impl_pushed.f (k : Nat) (a0_0 : Int) (a0_1 : Int) (a0_2 : Int) (a0_3 : Int) (a1_0 : Int) (a1_1 : Int) (a1_2 : Int) (a1_3 : Int) (a2 : Int) : Option (Int × Int × Int × Int × Int × Int × Int × Int) := if (wrap64 (a0_0 + a0_3)) < (wrap64 (a1_0 - a1_3)) then (impl_pushed.j0 k a2 (wrap64 ((wrap64 (a0_1 * (mx a1_2 1))) - (wrap64 (a1_1 * (mx a0_2 1))))) true a0_0 a0_1 a0_2 a0_3 a1_0 a1_1 a1_2 a1_3) else (if a0_2 = 0 then (if a1_2 = 0 then (impl_pushed.j0 k a2 (wrap64 ((wrap64 (a0_1 * (mx a1_2 1))) - (wrap64 (a1_1 * (mx a0_2 1))))) true a0_0 a0_1 a0_2 a0_3 a1_0 a1_1 a1_2 a1_3) else (impl_pushed.j0 k a2 (wrap64 ((wrap64 (a0_1 * (mx a1_2 1))) - (wrap64 (a1_1 * (mx a0_2 1))))) (decide ((wrap64 ((wrap64 (a0_1 * (mx a1_2 1))) - (wrap64 (a1_1 * (mx a0_2 1))))) ≤ 0)) a0_0 a0_1 a0_2 a0_3 a1_0 a1_1 a1_2 a1_3)) else (impl_pushed.j0 k a2 (wrap64 ((wrap64 (a0_1 * (mx a1_2 1))) - (wrap64 (a1_1 * (mx a0_2 1))))) (decide ((wrap64 ((wrap64 (a0_1 * (mx a1_2 1))) - (wrap64 (a1_1 * (mx a0_2 1))))) ≤ 0)) a0_0 a0_1 a0_2 a0_3 a1_0 a1_1 a1_2 a1_3))
theorem impl_pushed.mono_l : ∀ k, (∀ y0 y1 y2 y3 y4 y5 y6 y7 y8 y9 y10, LeO (impl_pushed.j0 k y0 y1 y2 y3 y4 y5 y6 y7 y8 y9 y10) (impl_pushed.j0 (k + 1) y0 y1 y2 y3 y4 y5 y6 y7 y8 y9 y10)) ∧ (∀ y0 y1 y2 y3 y4 y5 y6 y7 y8, LeO (impl_pushed.j1 k y0 y1 y2 y3 y4 y5 y6 y7 y8) (impl_pushed.j1 (k + 1) y0 y1 y2 y3 y4 y5 y6 y7 y8)) ∧ (∀ y0 y1 y2 y3 y4 y5 y6 y7 y8, LeO (impl_pushed.j2 k y0 y1 y2 y3 y4 y5 y6 y7 y8) (impl_pushed.j2 (k + 1) y0 y1 y2 y3 y4 y5 y6 y7 y8))
 | 0 => ⟨fun _ _ _ _ _ _ _ _ _ _ _ r h => by simp [impl_pushed.j0] at h, fun _ _ _ _ _ _ _ _ _ r h => by simp [impl_pushed.j1] at h, fun _ _ _ _ _ _ _ _ _ r h => by simp [impl_pushed.j2] at h⟩
 | k + 1 => by
  obtain ⟨ih0, ih1, ih2⟩ := impl_pushed.mono_l k
  refine ⟨?_, ?_, ?_⟩
  ·intro y0 y1 y2 y3 y4 y5 y6 y7 y8 y9 y10
   unfold impl_pushed.j0
   repeat' first
   | (with_reducible exact ih0 _ _ _ _ _ _ _ _ _ _ _)
   | (with_reducible exact ih1 _ _ _ _ _ _ _ _ _)
   | (with_reducible exact ih2 _ _ _ _ _ _ _ _ _)
   | (with_reducible first | exact LeO.refl _ | exact LeO.none _ | refine LeO.ite ?_ ?_ | refine LeO.bind ?_ (fun _ => ?_))
   | exact ih0 _ _ _ _ _ _ _ _ _ _ _
   | exact ih1 _ _ _ _ _ _ _ _ _
   | exact ih2 _ _ _ _ _ _ _ _ _ | exact LeO.none _ | refine LeO.ite ?_ ?_ | refine LeO.bind ?_ (fun _ => ?_)
  ·intro y0 y1 y2 y3 y4 y5 y6 y7 y8
   unfold impl_pushed.j1
   repeat' first
   | (with_reducible exact ih0 _ _ _ _ _ _ _ _ _ _ _)
   | (with_reducible exact ih1 _ _ _ _ _ _ _ _ _)
   | (with_reducible exact ih2 _ _ _ _ _ _ _ _ _)
   | (with_reducible first | exact LeO.refl _ | exact LeO.none _ | refine LeO.ite ?_ ?_ | refine LeO.bind ?_ (fun _ => ?_))
   | exact ih0 _ _ _ _ _ _ _ _ _ _ _
   | exact ih1 _ _ _ _ _ _ _ _ _
   | exact ih2 _ _ _ _ _ _ _ _ _ | exact LeO.none _ | refine LeO.ite ?_ ?_ | refine LeO.bind ?_ (fun _ => ?_)
  ·intro y0 y1 y2 y3 y4 y5 y6 y7 y8
   unfold impl_pushed.j2
   repeat' first
   | (with_reducible exact ih0 _ _ _ _ _ _ _ _ _ _ _)
   | (with_reducible exact ih1 _ _ _ _ _ _ _ _ _)
   | (with_reducible exact ih2 _ _ _ _ _ _ _ _ _)
   | (with_reducible first | exact LeO.refl _ | exact LeO.none _ | refine LeO.ite ?_ ?_ | refine LeO.bind ?_ (fun _ => ?_))
   | exact ih0 _ _ _ _ _ _ _ _ _ _ _
   | exact ih1 _ _ _ _ _ _ _ _ _
   | exact ih2 _ _ _ _ _ _ _ _ _ | exact LeO.none _ | refine LeO.ite ?_ ?_ | refine LeO.bind ?_ (fun _ => ?_)
theorem impl_pushed.mono : ∀ a0 a1 a2 a3 a4 a5 a6 a7 a8 k, LeO (impl_pushed.f k a0 a1 a2 a3 a4 a5 a6 a7 a8) (impl_pushed.f (k + 1) a0 a1 a2 a3 a4 a5 a6 a7 a8) := by
 intro a0 a1 a2 a3 a4 a5 a6 a7 a8 k
 obtain ⟨ih0, ih1, ih2⟩ := impl_pushed.mono_l k
 unfold impl_pushed.f
 repeat' first
   | (with_reducible exact ih0 _ _ _ _ _ _ _ _ _ _ _)
   | (with_reducible exact ih1 _ _ _ _ _ _ _ _ _)
   | (with_reducible exact ih2 _ _ _ _ _ _ _ _ _)
   | (with_reducible first | exact LeO.refl _ | exact LeO.none _ | refine LeO.ite ?_ ?_ | refine LeO.bind ?_ (fun _ => ?_))
   | exact ih0 _ _ _ _ _ _ _ _ _ _ _
   | exact ih1 _ _ _ _ _ _ _ _ _
   | exact ih2 _ _ _ _ _ _ _ _ _ | exact LeO.none _ | refine LeO.ite ?_ ?_ | refine LeO.bind ?_ (fun _ => ?_)
set_option maxHeartbeats 8000000 in
set_option maxRecDepth 100000 in
theorem impl_pushed.calls (k : Nat) (a0_0 : Int) (a0_1 : Int) (a0_2 : Int) (a0_3 : Int) (a1_0 : Int) (a1_1 : Int) (a1_2 : Int) (a1_3 : Int) (a2 : Int) (r1 : Int) (r2 : Int) (r3 : Int) (r4 : Int) (r5 : Int) (r6 : Int) (r7 : Int) (r8 : Int) (w : World) (h : impl_pushed.f k a0_0 a0_1 a0_2 a0_3 a1_0 a1_1 a1_2 a1_3 a2 = some (r1, r2, r3, r4, r5, r6, r7, r8)) :
  Calls Try.prog 22 #[.agg #[.int .i64 a0_0, .int .i64 a0_1, .int .i64 a0_2, .int .i64 a0_3], .agg #[.int .i64 a1_0, .int .i64 a1_1, .int .i64 a1_2, .int .i64 a1_3], .int .i64 a2] w fun e w' => e = .returned (.tuple #[.agg #[.int .i64 r1, .int .i64 r2, .int .i64 r3, .int .i64 r4], .agg #[.int .i64 r5, .int .i64 r6, .int .i64 r7, .int .i64 r8]]) ∧ Below w.heap.size w w' := by
 have hu33 := Try.underlying33
 have HB := Aside0.mk (Below.refl w.heap.size w)
 have H : (if (wrap64 (a0_0 + a0_3)) < (wrap64 (a1_0 - a1_3)) then (impl_pushed.j0 k a2 (wrap64 ((wrap64 (a0_1 * (mx a1_2 1))) - (wrap64 (a1_1 * (mx a0_2 1))))) true a0_0 a0_1 a0_2 a0_3 a1_0 a1_1 a1_2 a1_3) else (if a0_2 = 0 then (if a1_2 = 0 then (impl_pushed.j0 k a2 (wrap64 ((wrap64 (a0_1 * (mx a1_2 1))) - (wrap64 (a1_1 * (mx a0_2 1))))) true a0_0 a0_1 a0_2 a0_3 a1_0 a1_1 a1_2 a1_3) else (impl_pushed.j0 k a2 (wrap64 ((wrap64 (a0_1 * (mx a1_2 1))) - (wrap64 (a1_1 * (mx a0_2 1))))) (decide ((wrap64 ((wrap64 (a0_1 * (mx a1_2 1))) - (wrap64 (a1_1 * (mx a0_2 1))))) ≤ 0)) a0_0 a0_1 a0_2 a0_3 a1_0 a1_1 a1_2 a1_3)) else (impl_pushed.j0 k a2 (wrap64 ((wrap64 (a0_1 * (mx a1_2 1))) - (wrap64 (a1_1 * (mx a0_2 1))))) (decide ((wrap64 ((wrap64 (a0_1 * (mx a1_2 1))) - (wrap64 (a1_1 * (mx a0_2 1))))) ≤ 0)) a0_0 a0_1 a0_2 a0_3 a1_0 a1_1 a1_2 a1_3))) = some (r1, r2, r3, r4, r5, r6, r7, r8) := h
 clear h
 obtain ⟨ji4, hji4⟩ : ∃ j_ : Int, (mx a1_2 1) = j_ := ⟨_, rfl⟩
 replace H : (if (wrap64 (a0_0 + a0_3)) < (wrap64 (a1_0 - a1_3)) then (impl_pushed.j0 k a2 (wrap64 ((wrap64 (a0_1 * (ji4))) - (wrap64 (a1_1 * (mx a0_2 1))))) true a0_0 a0_1 a0_2 a0_3 a1_0 a1_1 a1_2 a1_3) else (if a0_2 = 0 then (if a1_2 = 0 then (impl_pushed.j0 k a2 (wrap64 ((wrap64 (a0_1 * (ji4))) - (wrap64 (a1_1 * (mx a0_2 1))))) true a0_0 a0_1 a0_2 a0_3 a1_0 a1_1 a1_2 a1_3) else (impl_pushed.j0 k a2 (wrap64 ((wrap64 (a0_1 * (ji4))) - (wrap64 (a1_1 * (mx a0_2 1))))) (decide ((wrap64 ((wrap64 (a0_1 * (ji4))) - (wrap64 (a1_1 * (mx a0_2 1))))) ≤ 0)) a0_0 a0_1 a0_2 a0_3 a1_0 a1_1 a1_2 a1_3)) else (impl_pushed.j0 k a2 (wrap64 ((wrap64 (a0_1 * (ji4))) - (wrap64 (a1_1 * (mx a0_2 1))))) (decide ((wrap64 ((wrap64 (a0_1 * (ji4))) - (wrap64 (a1_1 * (mx a0_2 1))))) ≤ 0)) a0_0 a0_1 a0_2 a0_3 a1_0 a1_1 a1_2 a1_3))) = some (r1, r2, r3, r4, r5, r6, r7, r8) := by first | (rw [hji4] at H; exact H) | (simp only [hji4] at H ⊢; exact H)
 (try (have hji4l : 1 ≤ ji4 := by (rw [← hji4]; unfold mx; (repeat' split) <;> omega)))
 (try (have hji4m : 0 ≤ ji4 := by omega))
 have hji4_ : (if a1_2 < 1 then 1 else a1_2) = ji4 := hji4
 obtain ⟨ji5, hji5⟩ : ∃ j_ : Int, (mx a0_2 1) = j_ := ⟨_, rfl⟩
 replace H : (if (wrap64 (a0_0 + a0_3)) < (wrap64 (a1_0 - a1_3)) then (impl_pushed.j0 k a2 (wrap64 ((wrap64 (a0_1 * (ji4))) - (wrap64 (a1_1 * (ji5))))) true a0_0 a0_1 a0_2 a0_3 a1_0 a1_1 a1_2 a1_3) else (if a0_2 = 0 then (if a1_2 = 0 then (impl_pushed.j0 k a2 (wrap64 ((wrap64 (a0_1 * (ji4))) - (wrap64 (a1_1 * (ji5))))) true a0_0 a0_1 a0_2 a0_3 a1_0 a1_1 a1_2 a1_3) else (impl_pushed.j0 k a2 (wrap64 ((wrap64 (a0_1 * (ji4))) - (wrap64 (a1_1 * (ji5))))) (decide ((wrap64 ((wrap64 (a0_1 * (ji4))) - (wrap64 (a1_1 * (ji5))))) ≤ 0)) a0_0 a0_1 a0_2 a0_3 a1_0 a1_1 a1_2 a1_3)) else (impl_pushed.j0 k a2 (wrap64 ((wrap64 (a0_1 * (ji4))) - (wrap64 (a1_1 * (ji5))))) (decide ((wrap64 ((wrap64 (a0_1 * (ji4))) - (wrap64 (a1_1 * (ji5))))) ≤ 0)) a0_0 a0_1 a0_2 a0_3 a1_0 a1_1 a1_2 a1_3))) = some (r1, r2, r3, r4, r5, r6, r7, r8) := by first | (rw [hji5] at H; exact H) | (simp only [hji5] at H ⊢; exact H)
 (try (have hji5l : 1 ≤ ji5 := by (rw [← hji5]; unfold mx; (repeat' split) <;> omega)))
 (try (have hji5m : 0 ≤ ji5 := by omega))
 have hji5_ : (if a0_2 < 1 then 1 else a0_2) = ji5 := hji5
 have HC6 := Aside0.mk H
 clear H
 go_enter Try.func22, Try.ntmps22
 go_upto_region 2 with (first | ((with_reducible refine gate_dst (N := 3) rfl ?_); refine box_event rfl (N := 3) rfl (cs := #[.int .i64 a0_0, .int .i64 a0_1, .int .i64 a0_2, .int .i64 a0_3]) (t := 33) sE ?_; intro gb245 hg w7 hbox hb; have BK245 := Aside0.mk hbox; have GW245 := gS w hg (lU); have GE245 := gS w hg (lU); replace HB := bH (lU) hb; clear hb hbox hg) | ((with_reducible refine gate_dst (N := 4) rfl ?_); refine box_event rfl (N := 4) rfl (cs := #[.int .i64 a1_0, .int .i64 a1_1, .int .i64 a1_2, .int .i64 a1_3]) (t := 33) sE ?_; intro gb246 hg w8 hbox hb; have BK246 := Aside0.mk hbox; have GW246 := gS w hg (lV1 GE245); have GE246 := gS w hg (lV1 GE245); replace HB := bH (lV1 GE245) hb; have NB245_246 := nL hg (bV BK245); have NB246_245 := nG hg (bV BK245); replace BK245 := bB (bV BK245) hb; clear hb hbox hg) | ((with_reducible refine gate_dst (N := 6) rfl ?_); refine box_event rfl (N := 6) rfl (cs := #[.int .i64 0, .int .i64 0, .int .i64 0, .int .i64 0]) (t := 33) sE ?_; intro gb247 hg w9 hbox hb; have BK247 := Aside0.mk hbox; have GW247 := gS w hg (lV2 GE245 GE246); have GE247 := gS w hg (lV2 GE245 GE246); replace HB := bH (lV2 GE245 GE246) hb; have NB245_247 := nL hg (bV BK245); have NB247_245 := nG hg (bV BK245); replace BK245 := bB (bV BK245) hb; have NB246_247 := nL hg (bV BK246); have NB247_246 := nG hg (bV BK246); replace BK246 := bB (bV BK246) hb; clear hb hbox hg) | ((with_reducible refine gate_dst (N := 7) rfl ?_); refine box_event rfl (N := 7) rfl (cs := #[.int .i64 0, .int .i64 0, .int .i64 0, .int .i64 0]) (t := 33) sE ?_; intro gb248 hg w10 hbox hb; have BK248 := Aside0.mk hbox; have GW248 := gS w hg (lV3 GE245 GE246 GE247); have GE248 := gS w hg (lV3 GE245 GE246 GE247); replace HB := bH (lV3 GE245 GE246 GE247) hb; have NB245_248 := nL hg (bV BK245); have NB248_245 := nG hg (bV BK245); replace BK245 := bB (bV BK245) hb; have NB246_248 := nL hg (bV BK246); have NB248_246 := nG hg (bV BK246); replace BK246 := bB (bV BK246) hb; have NB247_248 := nL hg (bV BK247); have NB248_247 := nG hg (bV BK247); replace BK247 := bB (bV BK247) hb; clear hb hbox hg; have hnb11 := NB245_246.out; have hnc11 := NB246_245.out; have hnb12 := NB245_247.out; have hnc12 := NB247_245.out; have hnb13 := NB245_248.out; have hnc13 := NB248_245.out; have hcz14_0 := cz BK245 0 (.int .i64 a0_0); have hcz14_1 := cz BK245 1 (.int .i64 a0_1); have hcz14_2 := cz BK245 2 (.int .i64 a0_2); have hcz14_3 := cz BK245 3 (.int .i64 a0_3); have hfz14_0 := fz BK245 0; have hfz14_1 := fz BK245 1; have hfz14_2 := fz BK245 2; have hfz14_3 := fz BK245 3; have hnb15 := NB246_247.out; have hnc15 := NB247_246.out; have hnb16 := NB246_248.out; have hnc16 := NB248_246.out; have hcz17_0 := cz BK246 0 (.int .i64 a1_0); have hcz17_1 := cz BK246 1 (.int .i64 a1_1); have hcz17_2 := cz BK246 2 (.int .i64 a1_2); have hcz17_3 := cz BK246 3 (.int .i64 a1_3); have hfz17_0 := fz BK246 0; have hfz17_1 := fz BK246 1; have hfz17_2 := fz BK246 2; have hfz17_3 := fz BK246 3))
 (try simp only [Act.put, List.setIfInBounds_toArray, List.set_cons_zero, List.set_cons_succ])
 go_cut [47] (fun v47 wc => ∃ (kq : Nat) (x47_5 : Bool), v47 = .bool x47_5 ∧ Aside0 (impl_pushed.j0 kq a2 (wrap64 ((wrap64 (a0_1 * (ji4))) - (wrap64 (a1_1 * (ji5))))) x47_5 a0_0 a0_1 a0_2 a0_3 a1_0 a1_1 a1_2 a1_3 = some (r1, r2, r3, r4, r5, r6, r7, r8)) ∧ Aside0 (kq ≤ k) ∧ Aside0 (wc.heap[gb245]? = some (.cells #[.int .i64 a0_0, .int .i64 a0_1, .int .i64 a0_2, .int .i64 a0_3] 33 (0, 0))) ∧ Aside0 (wc.heap[gb246]? = some (.cells #[.int .i64 a1_0, .int .i64 a1_1, .int .i64 a1_2, .int .i64 a1_3] 33 (0, 0))) ∧ Aside0 (wc.heap[gb247]? = some (.cells #[.int .i64 0, .int .i64 0, .int .i64 0, .int .i64 0] 33 (0, 0))) ∧ Aside0 (wc.heap[gb248]? = some (.cells #[.int .i64 0, .int .i64 0, .int .i64 0, .int .i64 0] 33 (0, 0))) ∧ Aside0 (Below w.heap.size w wc))
 case first =>
  have H := HC6.out
  clear HC6
  by_cases c18 : (wrap64 (a0_0 + a0_3)) < (wrap64 (a1_0 - a1_3))
  ·rw [if_pos c18] at H
   have c18b0 : decide ((wrap64 (a0_0 + a0_3)) < (wrap64 (a1_0 - a1_3))) = true := decide_eq_true c18
   clear c18
   (first | rw [c18b0] | (simp only [i64_w, i32_w]; rw [c18b0]) | (rw [c18b2]; simp only [Bool.not_false, Bool.not_true]) | skip)
   have H' := Aside0.mk H
   clear H
   have hnb19 := NB245_246.out
   have hnc19 := NB246_245.out
   have hnb20 := NB245_247.out
   have hnc20 := NB247_245.out
   have hnb21 := NB245_248.out
   have hnc21 := NB248_245.out
   have hcz22_0 := cz BK245 0 (.int .i64 a0_0)
   have hcz22_1 := cz BK245 1 (.int .i64 a0_1)
   have hcz22_2 := cz BK245 2 (.int .i64 a0_2)
   have hcz22_3 := cz BK245 3 (.int .i64 a0_3)
   have hfz22_0 := fz BK245 0
   have hfz22_1 := fz BK245 1
   have hfz22_2 := fz BK245 2
   have hfz22_3 := fz BK245 3
   have hnb23 := NB246_247.out
   have hnc23 := NB247_246.out
   have hnb24 := NB246_248.out
   have hnc24 := NB248_246.out
   have hcz25_0 := cz BK246 0 (.int .i64 a1_0)
   have hcz25_1 := cz BK246 1 (.int .i64 a1_1)
   have hcz25_2 := cz BK246 2 (.int .i64 a1_2)
   have hcz25_3 := cz BK246 3 (.int .i64 a1_3)
   have hfz25_0 := fz BK246 0
   have hfz25_1 := fz BK246 1
   have hfz25_2 := fz BK246 2
   have hfz25_3 := fz BK246 3
   go_wp2
   go_meet
   case rel => exact ⟨_, (true), tE, H', ⟨by first | omega | exact Nat.le_refl _⟩, ⟨by refine bU ?_; exact BK245.out⟩, ⟨by refine bU ?_; exact BK246.out⟩, ⟨by refine bU ?_; exact BK247.out⟩, ⟨by refine bU ?_; exact BK248.out⟩, ⟨by repeat (first | (with_reducible first | exact HB.out | apply below_alloc | apply pw_below_drewN | apply below_drew1 | refine below_set ?_ GE245.out | refine below_set ?_ GE246.out | refine below_set ?_ GE247.out | refine below_set ?_ GE248.out) | exact HB.out)⟩⟩
  ·rw [if_neg c18] at H
   have c18b0 : decide ((wrap64 (a0_0 + a0_3)) < (wrap64 (a1_0 - a1_3))) = false := decide_eq_false c18
   clear c18
   (first | rw [c18b0] | (simp only [i64_w, i32_w]; rw [c18b0]) | (rw [c18b2]; simp only [Bool.not_false, Bool.not_true]) | skip)
   by_cases c26 : a0_2 = 0
   ·rw [if_pos c26] at H
    have c26b0 : (a0_2 == 0) = true := beq_iff_eq.mpr c26
    have c26b1 : (a0_2 != 0) = false := bne_eq_false_iff_eq.mpr c26
    clear c26
    by_cases c27 : a1_2 = 0
    ·rw [if_pos c27] at H
     have c27b0 : (a1_2 == 0) = true := beq_iff_eq.mpr c27
     have c27b1 : (a1_2 != 0) = false := bne_eq_false_iff_eq.mpr c27
     clear c27
     have H' := Aside0.mk H
     clear H
     have hnb28 := NB245_246.out
     have hnc28 := NB246_245.out
     have hnb29 := NB245_247.out
     have hnc29 := NB247_245.out
     have hnb30 := NB245_248.out
     have hnc30 := NB248_245.out
     have hcz31_0 := cz BK245 0 (.int .i64 a0_0)
     have hcz31_1 := cz BK245 1 (.int .i64 a0_1)
     have hcz31_2 := cz BK245 2 (.int .i64 a0_2)
     have hcz31_3 := cz BK245 3 (.int .i64 a0_3)
     have hfz31_0 := fz BK245 0
     have hfz31_1 := fz BK245 1
     have hfz31_2 := fz BK245 2
     have hfz31_3 := fz BK245 3
     have hnb32 := NB246_247.out
     have hnc32 := NB247_246.out
     have hnb33 := NB246_248.out
     have hnc33 := NB248_246.out
     have hcz34_0 := cz BK246 0 (.int .i64 a1_0)
     have hcz34_1 := cz BK246 1 (.int .i64 a1_1)
     have hcz34_2 := cz BK246 2 (.int .i64 a1_2)
     have hcz34_3 := cz BK246 3 (.int .i64 a1_3)
     have hfz34_0 := fz BK246 0
     have hfz34_1 := fz BK246 1
     have hfz34_2 := fz BK246 2
     have hfz34_3 := fz BK246 3
     go_wp2
     go_meet
     case rel => exact ⟨_, (true), tE, H', ⟨by first | omega | exact Nat.le_refl _⟩, ⟨by refine bU ?_; exact BK245.out⟩, ⟨by refine bU ?_; exact BK246.out⟩, ⟨by refine bU ?_; exact BK247.out⟩, ⟨by refine bU ?_; exact BK248.out⟩, ⟨by repeat (first | (with_reducible first | exact HB.out | apply below_alloc | apply pw_below_drewN | apply below_drew1 | refine below_set ?_ GE245.out | refine below_set ?_ GE246.out | refine below_set ?_ GE247.out | refine below_set ?_ GE248.out) | exact HB.out)⟩⟩
    ·rw [if_neg c27] at H
     have c27b0 : (a1_2 == 0) = false := beq_eq_false_iff_ne.mpr c27
     have c27b1 : (a1_2 != 0) = true := bne_iff_ne.mpr c27
     have H' := Aside0.mk H
     clear H
     have hnb35 := NB245_246.out
     have hnc35 := NB246_245.out
     have hnb36 := NB245_247.out
     have hnc36 := NB247_245.out
     have hnb37 := NB245_248.out
     have hnc37 := NB248_245.out
     have hcz38_0 := cz BK245 0 (.int .i64 a0_0)
     have hcz38_1 := cz BK245 1 (.int .i64 a0_1)
     have hcz38_2 := cz BK245 2 (.int .i64 a0_2)
     have hcz38_3 := cz BK245 3 (.int .i64 a0_3)
     have hfz38_0 := fz BK245 0
     have hfz38_1 := fz BK245 1
     have hfz38_2 := fz BK245 2
     have hfz38_3 := fz BK245 3
     have hnb39 := NB246_247.out
     have hnc39 := NB247_246.out
     have hnb40 := NB246_248.out
     have hnc40 := NB248_246.out
     have hcz41_0 := cz BK246 0 (.int .i64 a1_0)
     have hcz41_1 := cz BK246 1 (.int .i64 a1_1)
     have hcz41_2 := cz BK246 2 (.int .i64 a1_2)
     have hcz41_3 := cz BK246 3 (.int .i64 a1_3)
     have hfz41_0 := fz BK246 0
     have hfz41_1 := fz BK246 1
     have hfz41_2 := fz BK246 2
     have hfz41_3 := fz BK246 3
     go_wp2
     go_meet
     case rel => exact ⟨_, (decide ((wrap64 ((wrap64 (a0_1 * (ji4))) - (wrap64 (a1_1 * (ji5))))) ≤ 0)), (by first | rfl | (simp; done) | (simp only [← hji4, ← hji5] <;> (first | rfl | simp)) | (simp [*]; done) | exact not_isEmpty _ | exact (not_isEmpty _).symm | exact is_empty _ | exact (is_empty _).symm), H', ⟨by first | omega | exact Nat.le_refl _⟩, ⟨by refine bU ?_; exact BK245.out⟩, ⟨by refine bU ?_; exact BK246.out⟩, ⟨by refine bU ?_; exact BK247.out⟩, ⟨by refine bU ?_; exact BK248.out⟩, ⟨by repeat (first | (with_reducible first | exact HB.out | apply below_alloc | apply pw_below_drewN | apply below_drew1 | refine below_set ?_ GE245.out | refine below_set ?_ GE246.out | refine below_set ?_ GE247.out | refine below_set ?_ GE248.out) | exact HB.out)⟩⟩
   ·rw [if_neg c26] at H
    have c26b0 : (a0_2 == 0) = false := beq_eq_false_iff_ne.mpr c26
    have c26b1 : (a0_2 != 0) = true := bne_iff_ne.mpr c26
    have H' := Aside0.mk H
    clear H
    have hnb42 := NB245_246.out
    have hnc42 := NB246_245.out
    have hnb43 := NB245_247.out
    have hnc43 := NB247_245.out
    have hnb44 := NB245_248.out
    have hnc44 := NB248_245.out
    have hcz45_0 := cz BK245 0 (.int .i64 a0_0)
    have hcz45_1 := cz BK245 1 (.int .i64 a0_1)
    have hcz45_2 := cz BK245 2 (.int .i64 a0_2)
    have hcz45_3 := cz BK245 3 (.int .i64 a0_3)
    have hfz45_0 := fz BK245 0
    have hfz45_1 := fz BK245 1
    have hfz45_2 := fz BK245 2
    have hfz45_3 := fz BK245 3
    have hnb46 := NB246_247.out
    have hnc46 := NB247_246.out
    have hnb47 := NB246_248.out
    have hnc47 := NB248_246.out
    have hcz48_0 := cz BK246 0 (.int .i64 a1_0)
    have hcz48_1 := cz BK246 1 (.int .i64 a1_1)
    have hcz48_2 := cz BK246 2 (.int .i64 a1_2)
    have hcz48_3 := cz BK246 3 (.int .i64 a1_3)
    have hfz48_0 := fz BK246 0
    have hfz48_1 := fz BK246 1
    have hfz48_2 := fz BK246 2
    have hfz48_3 := fz BK246 3
    go_wp2
    go_meet
    case rel => exact ⟨_, (decide ((wrap64 ((wrap64 (a0_1 * (ji4))) - (wrap64 (a1_1 * (ji5))))) ≤ 0)), (by first | rfl | (simp; done) | (simp only [← hji4, ← hji5] <;> (first | rfl | simp)) | (simp [*]; done) | exact not_isEmpty _ | exact (not_isEmpty _).symm | exact is_empty _ | exact (is_empty _).symm), H', ⟨by first | omega | exact Nat.le_refl _⟩, ⟨by refine bU ?_; exact BK245.out⟩, ⟨by refine bU ?_; exact BK246.out⟩, ⟨by refine bU ?_; exact BK247.out⟩, ⟨by refine bU ?_; exact BK248.out⟩, ⟨by repeat (first | (with_reducible first | exact HB.out | apply below_alloc | apply pw_below_drewN | apply below_drew1 | refine below_set ?_ GE245.out | refine below_set ?_ GE246.out | refine below_set ?_ GE247.out | refine below_set ?_ GE248.out) | exact HB.out)⟩⟩
 case rest =>
  clear HC6
  try clear hcz14_0; try clear hcz14_1; try clear hcz14_2; try clear hcz14_3; try clear hcz17_0; try clear hcz17_1; try clear hcz17_2; try clear hcz17_3; try clear hfz14_0; try clear hfz14_1; try clear hfz14_2; try clear hfz14_3; try clear hfz17_0; try clear hfz17_1; try clear hfz17_2; try clear hfz17_3
  obtain ⟨kq, x47_5, rfl, HA, HJ5, BK245, BK246, BK247, BK248, HB⟩ := hcut
  cases kq with
  | zero => exact absurd HA.out (by simp [impl_pushed.j0])
  | succ kj5 =>
   have H := HA.out
   clear HA
   simp only [impl_pushed.j0] at H
   by_cases c49 : x47_5 = true
   ·subst c49
    have H1 : (some (a0_0, a0_1, a0_2, a0_3, a1_0, a1_1, a1_2, a1_3)) = some (r1, r2, r3, r4, r5, r6, r7, r8) := by rw [if_pos rfl] at H; exact H
    clear H
    have H := H1
    clear H1
    simp only [Option.some.injEq, Prod.mk.injEq] at H
    obtain ⟨rfl, rfl, rfl, rfl, rfl, rfl, rfl, rfl⟩ := H
    try go_wp2
    replace BK245 := Aside0.mk (blk_drew BK245.out)
    replace BK246 := Aside0.mk (blk_drew BK246.out)
    replace BK247 := Aside0.mk (blk_drew BK247.out)
    replace BK248 := Aside0.mk (blk_drew BK248.out)
    replace HB := Aside0.mk (below_drew1 HB.out)
    refine start_ (n := 4) (S := fun w' => w'.cell? ⟨gb245, 0, none⟩ = some (.int .i64 a0_0) ∧ w'.cell? ⟨gb245, 1, none⟩ = some (.int .i64 a0_1) ∧ w'.cell? ⟨gb245, 2, none⟩ = some (.int .i64 a0_2) ∧ w'.cell? ⟨gb245, 3, none⟩ = some (.int .i64 a0_3) ∧ w'.cell? ⟨gb246, 0, none⟩ = some (.int .i64 a1_0) ∧ w'.cell? ⟨gb246, 1, none⟩ = some (.int .i64 a1_1) ∧ w'.cell? ⟨gb246, 2, none⟩ = some (.int .i64 a1_2) ∧ w'.cell? ⟨gb246, 3, none⟩ = some (.int .i64 a1_3)) (ds := []) #[false, false, false, false] (by kernel_rfl) rfl rfl ⟨cz BK245 0 _, cz BK245 1 _, cz BK245 2 _, cz BK245 3 _, cz BK246 0 _, cz BK246 1 _, cz BK246 2 _, cz BK246 3 _⟩ (fun hHeld => ?_)
    generalize wc.drew = w50 at BK245 BK246 BK247 BK248 HB hHeld ⊢
    refine take_ (i := 0) (N := some 48) (v := ?_) (a' := ?_) #[true, false, false, false] rfl rfl (by kernel_rfl) (fun _ _ _ h => h) (Or.inl ⟨by rfl, ?_⟩) hHeld ?_ ?_
    rotate_left
    ·rintro w' ⟨s0, s1, s2, s3, s4, s5, s6, s7⟩
     go_simp
     with_reducible rfl
    rotate_left
    ·simp only [Act.put, List.setIfInBounds_toArray, List.set_cons_zero, List.set_cons_succ, i64_w, i32_w]
     rfl
    refine take_ (i := 1) (N := some 49) (v := ?_) (a' := ?_) #[true, true, false, false] rfl rfl (by kernel_rfl) (fun _ _ _ h => h) (Or.inl ⟨by rfl, ?_⟩) hHeld ?_ ?_
    rotate_left
    ·rintro w' ⟨s0, s1, s2, s3, s4, s5, s6, s7⟩
     go_simp
     with_reducible rfl
    rotate_left
    ·simp only [Act.put, List.setIfInBounds_toArray, List.set_cons_zero, List.set_cons_succ, i64_w, i32_w]
     rfl
    refine one_ (i := 2) (N := none) #[true, true, true, false] rfl rfl (by kernel_rfl) (by decide) (fun K hK => ?_)
    have hs51 : w50.cell? ⟨gb247, 0, none⟩ = some (.int .i64 0) := (blk_cell BK247.out 0).trans rfl
    have hfs51 := blk_frozen BK247.out 0
    have hns51_0 := NB245_247.out
    have hns51_1 := NB246_247.out
    have hns51_3 := NB248_247.out
    have hms51_0 := NB247_245.out
    have hms51_1 := NB247_246.out
    have hms51_3 := NB247_248.out
    have hs52 : w50.cell? ⟨gb247, 1, none⟩ = some (.int .i64 0) := (blk_cell BK247.out 1).trans rfl
    have hfs52 := blk_frozen BK247.out 1
    have hns52_0 := NB245_247.out
    have hns52_1 := NB246_247.out
    have hns52_3 := NB248_247.out
    have hms52_0 := NB247_245.out
    have hms52_1 := NB247_246.out
    have hms52_3 := NB247_248.out
    have hs53 : w50.cell? ⟨gb247, 2, none⟩ = some (.int .i64 0) := (blk_cell BK247.out 2).trans rfl
    have hfs53 := blk_frozen BK247.out 2
    have hns53_0 := NB245_247.out
    have hns53_1 := NB246_247.out
    have hns53_3 := NB248_247.out
    have hms53_0 := NB247_245.out
    have hms53_1 := NB247_246.out
    have hms53_3 := NB247_248.out
    have hs54 : w50.cell? ⟨gb247, 3, none⟩ = some (.int .i64 0) := (blk_cell BK247.out 3).trans rfl
    have hfs54 := blk_frozen BK247.out 3
    have hns54_0 := NB245_247.out
    have hns54_1 := NB246_247.out
    have hns54_3 := NB248_247.out
    have hms54_0 := NB247_245.out
    have hms54_1 := NB247_246.out
    have hms54_3 := NB247_248.out
    refine skip_ (w1 := ?_) (by rfl) rfl ?_ ?_
    rotate_left
    ·go_simp
     rfl
    refine hK.out _ _ ⟨(cf4 NB245_247.out hHeld.1), (cf4 NB245_247.out hHeld.2.1), (cf4 NB245_247.out hHeld.2.2.1), (cf4 NB245_247.out hHeld.2.2.2.1), (cf4 NB246_247.out hHeld.2.2.2.2.1), (cf4 NB246_247.out hHeld.2.2.2.2.2.1), (cf4 NB246_247.out hHeld.2.2.2.2.2.2.1), (cf4 NB246_247.out hHeld.2.2.2.2.2.2.2)⟩ (fun hHeld => ?_)
    clear hK K
    refine one_ (i := 3) (N := none) #[true, true, true, true] rfl rfl (by kernel_rfl) (by decide) (fun K hK => ?_)
    have hs55 : w50.cell? ⟨gb248, 0, none⟩ = some (.int .i64 0) := (blk_cell BK248.out 0).trans rfl
    have hfs55 := blk_frozen BK248.out 0
    have hns55_0 := NB245_248.out
    have hns55_1 := NB246_248.out
    have hns55_2 := NB247_248.out
    have hms55_0 := NB248_245.out
    have hms55_1 := NB248_246.out
    have hms55_2 := NB248_247.out
    have hs56 : w50.cell? ⟨gb248, 1, none⟩ = some (.int .i64 0) := (blk_cell BK248.out 1).trans rfl
    have hfs56 := blk_frozen BK248.out 1
    have hns56_0 := NB245_248.out
    have hns56_1 := NB246_248.out
    have hns56_2 := NB247_248.out
    have hms56_0 := NB248_245.out
    have hms56_1 := NB248_246.out
    have hms56_2 := NB248_247.out
    have hs57 : w50.cell? ⟨gb248, 2, none⟩ = some (.int .i64 0) := (blk_cell BK248.out 2).trans rfl
    have hfs57 := blk_frozen BK248.out 2
    have hns57_0 := NB245_248.out
    have hns57_1 := NB246_248.out
    have hns57_2 := NB247_248.out
    have hms57_0 := NB248_245.out
    have hms57_1 := NB248_246.out
    have hms57_2 := NB248_247.out
    have hs58 : w50.cell? ⟨gb248, 3, none⟩ = some (.int .i64 0) := (blk_cell BK248.out 3).trans rfl
    have hfs58 := blk_frozen BK248.out 3
    have hns58_0 := NB245_248.out
    have hns58_1 := NB246_248.out
    have hns58_2 := NB247_248.out
    have hms58_0 := NB248_245.out
    have hms58_1 := NB248_246.out
    have hms58_2 := NB248_247.out
    refine skip_ (w1 := ?_) (by rfl) rfl ?_ ?_
    rotate_left
    ·go_simp
     rfl
    refine hK.out _ _ ⟨(cf4 NB245_248.out hHeld.1), (cf4 NB245_248.out hHeld.2.1), (cf4 NB245_248.out hHeld.2.2.1), (cf4 NB245_248.out hHeld.2.2.2.1), (cf4 NB246_248.out hHeld.2.2.2.2.1), (cf4 NB246_248.out hHeld.2.2.2.2.2.1), (cf4 NB246_248.out hHeld.2.2.2.2.2.2.1), (cf4 NB246_248.out hHeld.2.2.2.2.2.2.2)⟩ (fun hHeld => ?_)
    clear hK K
    refine done_ (by kernel_rfl) ?_
    try go_wp2
    refine bodyPost_ret (results_cc rfl _ _ gb247 gb248 33 33 #[.int .i64 a0_0, .int .i64 a0_1, .int .i64 a0_2, .int .i64 a0_3] #[.int .i64 a1_0, .int .i64 a1_1, .int .i64 a1_2, .int .i64 a1_3] (0, 0) (0, 0) _ _ rfl (by refine bU ?_; refine blk_far ?_ NB247_248.out _; refine bU ?_; refine blk_far ?_ NB247_248.out _; refine bU ?_; refine blk_far ?_ NB247_248.out _; refine bU ?_; refine blk_far ?_ NB247_248.out _; refine bU ?_; refine blk_put (cs := #[.int .i64 a0_0, .int .i64 a0_1, .int .i64 a0_2, .int .i64 0]) ?_ 3 _ rfl; refine bU ?_; refine blk_put (cs := #[.int .i64 a0_0, .int .i64 a0_1, .int .i64 0, .int .i64 0]) ?_ 2 _ rfl; refine bU ?_; refine blk_put (cs := #[.int .i64 a0_0, .int .i64 0, .int .i64 0, .int .i64 0]) ?_ 1 _ rfl; refine bU ?_; refine blk_put (cs := #[.int .i64 0, .int .i64 0, .int .i64 0, .int .i64 0]) ?_ 0 _ rfl; refine bU ?_; exact BK247.out) Try.underlying33 rfl (by kernel_rfl) rfl (by refine bU ?_; refine blk_put (cs := #[.int .i64 a1_0, .int .i64 a1_1, .int .i64 a1_2, .int .i64 0]) ?_ 3 _ rfl; refine bU ?_; refine blk_put (cs := #[.int .i64 a1_0, .int .i64 a1_1, .int .i64 0, .int .i64 0]) ?_ 2 _ rfl; refine bU ?_; refine blk_put (cs := #[.int .i64 a1_0, .int .i64 0, .int .i64 0, .int .i64 0]) ?_ 1 _ rfl; refine bU ?_; refine blk_put (cs := #[.int .i64 0, .int .i64 0, .int .i64 0, .int .i64 0]) ?_ 0 _ rfl; refine bU ?_; refine blk_far ?_ NB248_247.out _; refine bU ?_; refine blk_far ?_ NB248_247.out _; refine bU ?_; refine blk_far ?_ NB248_247.out _; refine bU ?_; refine blk_far ?_ NB248_247.out _; refine bU ?_; exact BK248.out) Try.underlying33 rfl (by kernel_rfl)) rfl ?_
    exact ⟨by first | rfl | (simp [errW_none, errW_some] <;> rfl) | (simp only [← hji4, ← hji5]; first | rfl | (simp [errW_none, errW_some] <;> rfl)) | (simp [*, errW_none, errW_some] <;> rfl), lV4 GE245 GE246 GE247 GE248⟩
   ·replace c49 := Bool.eq_false_iff.mpr c49
    subst c49
    have H1 : (if a1_2 = 0 then (impl_pushed.j1 kj5 (wrap64 (Int.tdiv (wrap64 ((wrap64 (100 + a2)) * a0_1)) 100)) a0_0 a0_1 a0_2 a0_3 a1_0 a1_1 a1_2 a1_3) else (if a0_2 = 0 then (impl_pushed.j1 kj5 (wrap64 (Int.tdiv (wrap64 ((wrap64 (100 + a2)) * (wrap64 (-a1_1)))) 100)) a0_0 a0_1 a0_2 a0_3 a1_0 a1_1 a1_2 a1_3) else (if (wrap64 (100 * (wrap64 (a0_2 + a1_2)))) = 0 then (none) else (impl_pushed.j1 kj5 (wrap64 (Int.tdiv (wrap64 ((wrap64 (100 + a2)) * (wrap64 ((wrap64 (a0_1 * (ji4))) - (wrap64 (a1_1 * (ji5))))))) (wrap64 (100 * (wrap64 (a0_2 + a1_2)))))) a0_0 a0_1 a0_2 a0_3 a1_0 a1_1 a1_2 a1_3)))) = some (r1, r2, r3, r4, r5, r6, r7, r8) := by rw [if_neg (show ¬ (false = true) by decide)] at H; exact H
    clear H
    have H := H1
    clear H1
    have HC59 := Aside0.mk H
    clear H
    go_upto_block 0 with (fail)
    go_cut [9] (fun v9 wc => ∃ (kq : Nat) (x9_58 : Int), v9 = .int .i64 x9_58 ∧ Aside0 (impl_pushed.j1 kq x9_58 a0_0 a0_1 a0_2 a0_3 a1_0 a1_1 a1_2 a1_3 = some (r1, r2, r3, r4, r5, r6, r7, r8)) ∧ Aside0 (kq ≤ kj5) ∧ Aside0 (wc.heap[gb245]? = some (.cells #[.int .i64 a0_0, .int .i64 a0_1, .int .i64 a0_2, .int .i64 a0_3] 33 (0, 0))) ∧ Aside0 (wc.heap[gb246]? = some (.cells #[.int .i64 a1_0, .int .i64 a1_1, .int .i64 a1_2, .int .i64 a1_3] 33 (0, 0))) ∧ Aside0 (wc.heap[gb247]? = some (.cells #[.int .i64 0, .int .i64 0, .int .i64 0, .int .i64 0] 33 (0, 0))) ∧ Aside0 (wc.heap[gb248]? = some (.cells #[.int .i64 0, .int .i64 0, .int .i64 0, .int .i64 0] 33 (0, 0))) ∧ Aside0 (Below w.heap.size w wc))
    case first =>
     have H := HC59.out
     clear HC59
     by_cases c60 : a1_2 = 0
     ·rw [if_pos c60] at H
      have c60b0 : (a1_2 == 0) = true := beq_iff_eq.mpr c60
      have c60b1 : (a1_2 != 0) = false := bne_eq_false_iff_eq.mpr c60
      clear c60
      (first | rw [c60b0] | (simp only [i64_w, i32_w]; rw [c60b0]) | (rw [c60b2]; simp only [Bool.not_false, Bool.not_true]) | skip)
      have H' := Aside0.mk H
      clear H
      have hnb61 := NB246_245.out
      have hnc61 := NB245_246.out
      have hnb62 := NB246_247.out
      have hnc62 := NB247_246.out
      have hnb63 := NB246_248.out
      have hnc63 := NB248_246.out
      have hcz64_0 := cz BK246 0 (.int .i64 a1_0)
      have hcz64_1 := cz BK246 1 (.int .i64 a1_1)
      have hcz64_2 := cz BK246 2 (.int .i64 a1_2)
      have hcz64_3 := cz BK246 3 (.int .i64 a1_3)
      have hfz64_0 := fz BK246 0
      have hfz64_1 := fz BK246 1
      have hfz64_2 := fz BK246 2
      have hfz64_3 := fz BK246 3
      have hnb65 := NB245_247.out
      have hnc65 := NB247_245.out
      have hnb66 := NB245_248.out
      have hnc66 := NB248_245.out
      have hcz67_0 := cz BK245 0 (.int .i64 a0_0)
      have hcz67_1 := cz BK245 1 (.int .i64 a0_1)
      have hcz67_2 := cz BK245 2 (.int .i64 a0_2)
      have hcz67_3 := cz BK245 3 (.int .i64 a0_3)
      have hfz67_0 := fz BK245 0
      have hfz67_1 := fz BK245 1
      have hfz67_2 := fz BK245 2
      have hfz67_3 := fz BK245 3
      go_wp2
      go_meet
      case rel => exact ⟨_, (wrap64 (Int.tdiv (wrap64 ((wrap64 (100 + a2)) * a0_1)) 100)), tE, H', ⟨by have := HJ5.out; first | omega | exact Nat.le_refl _⟩, ⟨by refine bU ?_; exact BK245.out⟩, ⟨by refine bU ?_; exact BK246.out⟩, ⟨by refine bU ?_; exact BK247.out⟩, ⟨by refine bU ?_; exact BK248.out⟩, ⟨by repeat (first | (with_reducible first | exact HB.out | apply below_alloc | apply pw_below_drewN | apply below_drew1 | refine below_set ?_ GE245.out | refine below_set ?_ GE246.out | refine below_set ?_ GE247.out | refine below_set ?_ GE248.out) | exact HB.out)⟩⟩
     ·rw [if_neg c60] at H
      have c60b0 : (a1_2 == 0) = false := beq_eq_false_iff_ne.mpr c60
      have c60b1 : (a1_2 != 0) = true := bne_iff_ne.mpr c60
      (first | rw [c60b0] | (simp only [i64_w, i32_w]; rw [c60b0]) | (rw [c60b2]; simp only [Bool.not_false, Bool.not_true]) | skip)
      by_cases c68 : a0_2 = 0
      ·rw [if_pos c68] at H
       have c68b0 : (a0_2 == 0) = true := beq_iff_eq.mpr c68
       have c68b1 : (a0_2 != 0) = false := bne_eq_false_iff_eq.mpr c68
       clear c68
       have H' := Aside0.mk H
       clear H
       have hnb69 := NB246_245.out
       have hnc69 := NB245_246.out
       have hnb70 := NB246_247.out
       have hnc70 := NB247_246.out
       have hnb71 := NB246_248.out
       have hnc71 := NB248_246.out
       have hcz72_0 := cz BK246 0 (.int .i64 a1_0)
       have hcz72_1 := cz BK246 1 (.int .i64 a1_1)
       have hcz72_2 := cz BK246 2 (.int .i64 a1_2)
       have hcz72_3 := cz BK246 3 (.int .i64 a1_3)
       have hfz72_0 := fz BK246 0
       have hfz72_1 := fz BK246 1
       have hfz72_2 := fz BK246 2
       have hfz72_3 := fz BK246 3
       have hnb73 := NB245_247.out
       have hnc73 := NB247_245.out
       have hnb74 := NB245_248.out
       have hnc74 := NB248_245.out
       have hcz75_0 := cz BK245 0 (.int .i64 a0_0)
       have hcz75_1 := cz BK245 1 (.int .i64 a0_1)
       have hcz75_2 := cz BK245 2 (.int .i64 a0_2)
       have hcz75_3 := cz BK245 3 (.int .i64 a0_3)
       have hfz75_0 := fz BK245 0
       have hfz75_1 := fz BK245 1
       have hfz75_2 := fz BK245 2
       have hfz75_3 := fz BK245 3
       go_wp2
       go_meet
       case rel => exact ⟨_, (wrap64 (Int.tdiv (wrap64 ((wrap64 (100 + a2)) * (wrap64 (-a1_1)))) 100)), tE, H', ⟨by have := HJ5.out; first | omega | exact Nat.le_refl _⟩, ⟨by refine bU ?_; exact BK245.out⟩, ⟨by refine bU ?_; exact BK246.out⟩, ⟨by refine bU ?_; exact BK247.out⟩, ⟨by refine bU ?_; exact BK248.out⟩, ⟨by repeat (first | (with_reducible first | exact HB.out | apply below_alloc | apply pw_below_drewN | apply below_drew1 | refine below_set ?_ GE245.out | refine below_set ?_ GE246.out | refine below_set ?_ GE247.out | refine below_set ?_ GE248.out) | exact HB.out)⟩⟩
      ·rw [if_neg c68] at H
       have c68b0 : (a0_2 == 0) = false := beq_eq_false_iff_ne.mpr c68
       have c68b1 : (a0_2 != 0) = true := bne_iff_ne.mpr c68
       by_cases c76 : (wrap64 (100 * (wrap64 (a0_2 + a1_2)))) = 0
       ·rw [if_pos c76] at H
        exact absurd H (by simp)
       ·rw [if_neg c76] at H
        have c76b0 : ((wrap64 (100 * (wrap64 (a0_2 + a1_2)))) == 0) = false := beq_eq_false_iff_ne.mpr c76
        have c76b1 : ((wrap64 (100 * (wrap64 (a0_2 + a1_2)))) != 0) = true := bne_iff_ne.mpr c76
        have H' := Aside0.mk H
        clear H
        have hnb77 := NB246_245.out
        have hnc77 := NB245_246.out
        have hnb78 := NB246_247.out
        have hnc78 := NB247_246.out
        have hnb79 := NB246_248.out
        have hnc79 := NB248_246.out
        have hcz80_0 := cz BK246 0 (.int .i64 a1_0)
        have hcz80_1 := cz BK246 1 (.int .i64 a1_1)
        have hcz80_2 := cz BK246 2 (.int .i64 a1_2)
        have hcz80_3 := cz BK246 3 (.int .i64 a1_3)
        have hfz80_0 := fz BK246 0
        have hfz80_1 := fz BK246 1
        have hfz80_2 := fz BK246 2
        have hfz80_3 := fz BK246 3
        have hnb81 := NB245_247.out
        have hnc81 := NB247_245.out
        have hnb82 := NB245_248.out
        have hnc82 := NB248_245.out
        have hcz83_0 := cz BK245 0 (.int .i64 a0_0)
        have hcz83_1 := cz BK245 1 (.int .i64 a0_1)
        have hcz83_2 := cz BK245 2 (.int .i64 a0_2)
        have hcz83_3 := cz BK245 3 (.int .i64 a0_3)
        have hfz83_0 := fz BK245 0
        have hfz83_1 := fz BK245 1
        have hfz83_2 := fz BK245 2
        have hfz83_3 := fz BK245 3
        go_wp2
        go_meet
        case rel => exact ⟨_, (wrap64 (Int.tdiv (wrap64 ((wrap64 (100 + a2)) * (wrap64 ((wrap64 (a0_1 * (ji4))) - (wrap64 (a1_1 * (ji5))))))) (wrap64 (100 * (wrap64 (a0_2 + a1_2)))))), (by first | rfl | (simp; done) | (simp only [← hji4, ← hji5] <;> (first | rfl | simp)) | (simp [*]; done) | exact not_isEmpty _ | exact (not_isEmpty _).symm | exact is_empty _ | exact (is_empty _).symm), H', ⟨by have := HJ5.out; first | omega | exact Nat.le_refl _⟩, ⟨by refine bU ?_; exact BK245.out⟩, ⟨by refine bU ?_; exact BK246.out⟩, ⟨by refine bU ?_; exact BK247.out⟩, ⟨by refine bU ?_; exact BK248.out⟩, ⟨by repeat (first | (with_reducible first | exact HB.out | apply below_alloc | apply pw_below_drewN | apply below_drew1 | refine below_set ?_ GE245.out | refine below_set ?_ GE246.out | refine below_set ?_ GE247.out | refine below_set ?_ GE248.out) | exact HB.out)⟩⟩
    case rest =>
     clear HC59
     try clear c49; try clear hcz14_0; try clear hcz14_1; try clear hcz14_2; try clear hcz14_3; try clear hcz17_0; try clear hcz17_1; try clear hcz17_2; try clear hcz17_3; try clear hfz14_0; try clear hfz14_1; try clear hfz14_2; try clear hfz14_3; try clear hfz17_0; try clear hfz17_1; try clear hfz17_2; try clear hfz17_3
     obtain ⟨kq, x9_58, rfl, HA, HJ58, BK245, BK246, BK247, BK248, HB⟩ := hcut
     cases kq with
     | zero => exact absurd HA.out (by simp [impl_pushed.j1])
     | succ kj58 =>
      have H := HA.out
      clear HA
      simp only [impl_pushed.j1] at H
      have HC84 := Aside0.mk H
      clear H
      have hnb85 := NB245_246.out
      have hnc85 := NB246_245.out
      have hnb86 := NB245_247.out
      have hnc86 := NB247_245.out
      have hnb87 := NB245_248.out
      have hnc87 := NB248_245.out
      have hcz88_0 := cz BK245 0 (.int .i64 a0_0)
      have hcz88_1 := cz BK245 1 (.int .i64 a0_1)
      have hcz88_2 := cz BK245 2 (.int .i64 a0_2)
      have hcz88_3 := cz BK245 3 (.int .i64 a0_3)
      have hfz88_0 := fz BK245 0
      have hfz88_1 := fz BK245 1
      have hfz88_2 := fz BK245 2
      have hfz88_3 := fz BK245 3
      go_upto_if 84 with (fail)
      go_cut [] (fun wc => ∃ (kq : Nat) (x246001_83 : Int), Aside0 (impl_pushed.j2 kq x9_58 a0_0 x246001_83 a0_2 a0_3 a1_0 a1_1 a1_2 a1_3 = some (r1, r2, r3, r4, r5, r6, r7, r8)) ∧ Aside0 (kq ≤ kj58) ∧ Aside0 (wc.heap[gb245]? = some (.cells #[.int .i64 a0_0, .int .i64 x246001_83, .int .i64 a0_2, .int .i64 a0_3] 33 (0, 0))) ∧ Aside0 (wc.heap[gb246]? = some (.cells #[.int .i64 a1_0, .int .i64 a1_1, .int .i64 a1_2, .int .i64 a1_3] 33 (0, 0))) ∧ Aside0 (wc.heap[gb247]? = some (.cells #[.int .i64 0, .int .i64 0, .int .i64 0, .int .i64 0] 33 (0, 0))) ∧ Aside0 (wc.heap[gb248]? = some (.cells #[.int .i64 0, .int .i64 0, .int .i64 0, .int .i64 0] 33 (0, 0))) ∧ Aside0 (Below w.heap.size w wc))
      case first =>
       have H := HC84.out
       clear HC84
       by_cases c89 : a0_2 > 0
       ·rw [if_pos c89] at H
        have c89b0 : decide (0 < a0_2) = true := decide_eq_true c89
        clear c89
        (first | rw [c89b0] | (simp only [i64_w, i32_w]; rw [c89b0]) | (rw [c89b2]; simp only [Bool.not_false, Bool.not_true]) | skip)
        have H' := Aside0.mk H
        clear H
        have hnb90 := NB245_246.out
        have hnc90 := NB246_245.out
        have hnb91 := NB245_247.out
        have hnc91 := NB247_245.out
        have hnb92 := NB245_248.out
        have hnc92 := NB248_245.out
        have hcz93_0 := cz BK245 0 (.int .i64 a0_0)
        have hcz93_1 := cz BK245 1 (.int .i64 a0_1)
        have hcz93_2 := cz BK245 2 (.int .i64 a0_2)
        have hcz93_3 := cz BK245 3 (.int .i64 a0_3)
        have hfz93_0 := fz BK245 0
        have hfz93_1 := fz BK245 1
        have hfz93_2 := fz BK245 2
        have hfz93_3 := fz BK245 3
        go_wp2
        go_meet
        case rel => exact ⟨_, (wrap64 (a0_1 - x9_58)), H', ⟨by have := HJ5.out; have := HJ58.out; first | omega | exact Nat.le_refl _⟩, ⟨by refine bU ?_; refine blk_put (cs := #[.int .i64 a0_0, .int .i64 a0_1, .int .i64 a0_2, .int .i64 a0_3]) ?_ 1 _ rfl; refine bU ?_; exact BK245.out⟩, ⟨by refine bU ?_; refine blk_far ?_ NB246_245.out _; refine bU ?_; exact BK246.out⟩, ⟨by refine bU ?_; refine blk_far ?_ NB247_245.out _; refine bU ?_; exact BK247.out⟩, ⟨by refine bU ?_; refine blk_far ?_ NB248_245.out _; refine bU ?_; exact BK248.out⟩, ⟨by repeat (first | (with_reducible first | exact HB.out | apply below_alloc | apply pw_below_drewN | apply below_drew1 | refine below_set ?_ GE245.out | refine below_set ?_ GE246.out | refine below_set ?_ GE247.out | refine below_set ?_ GE248.out) | exact HB.out)⟩⟩
       ·rw [if_neg c89] at H
        have c89b0 : decide (0 < a0_2) = false := decide_eq_false c89
        clear c89
        (first | rw [c89b0] | (simp only [i64_w, i32_w]; rw [c89b0]) | (rw [c89b2]; simp only [Bool.not_false, Bool.not_true]) | skip)
        have H' := Aside0.mk H
        clear H
        go_wp2
        go_meet
        case rel => exact ⟨_, (a0_1), H', ⟨by have := HJ5.out; have := HJ58.out; first | omega | exact Nat.le_refl _⟩, ⟨by refine bU ?_; exact BK245.out⟩, ⟨by refine bU ?_; exact BK246.out⟩, ⟨by refine bU ?_; exact BK247.out⟩, ⟨by refine bU ?_; exact BK248.out⟩, ⟨by repeat (first | (with_reducible first | exact HB.out | apply below_alloc | apply pw_below_drewN | apply below_drew1 | refine below_set ?_ GE245.out | refine below_set ?_ GE246.out | refine below_set ?_ GE247.out | refine below_set ?_ GE248.out) | exact HB.out)⟩⟩
      case rest =>
       clear HC84
       try clear c49; try clear hcz14_0; try clear hcz14_1; try clear hcz14_2; try clear hcz14_3; try clear hcz17_0; try clear hcz17_1; try clear hcz17_2; try clear hcz17_3; try clear hcz88_0; try clear hcz88_1; try clear hcz88_2; try clear hcz88_3; try clear hfz14_0; try clear hfz14_1; try clear hfz14_2; try clear hfz14_3; try clear hfz17_0; try clear hfz17_1; try clear hfz17_2; try clear hfz17_3; try clear hfz88_0; try clear hfz88_1; try clear hfz88_2; try clear hfz88_3
       obtain ⟨kq, x246001_83, HA, HJ83, BK245, BK246, BK247, BK248, HB⟩ := hcut
       cases kq with
       | zero => exact absurd HA.out (by simp [impl_pushed.j2])
       | succ kj83 =>
        have H := HA.out
        clear HA
        simp only [impl_pushed.j2] at H
        by_cases c94 : a1_2 > 0
        ·rw [if_pos c94] at H
         have c94b0 : decide (0 < a1_2) = true := decide_eq_true c94
         clear c94
         simp only [Option.some.injEq, Prod.mk.injEq] at H
         obtain ⟨rfl, rfl, rfl, rfl, rfl, rfl, rfl, rfl⟩ := H
         have hnb95 := NB246_245.out
         have hnc95 := NB245_246.out
         have hnb96 := NB246_247.out
         have hnc96 := NB247_246.out
         have hnb97 := NB246_248.out
         have hnc97 := NB248_246.out
         have hcz98_0 := cz BK246 0 (.int .i64 a1_0)
         have hcz98_1 := cz BK246 1 (.int .i64 a1_1)
         have hcz98_2 := cz BK246 2 (.int .i64 a1_2)
         have hcz98_3 := cz BK246 3 (.int .i64 a1_3)
         have hfz98_0 := fz BK246 0
         have hfz98_1 := fz BK246 1
         have hfz98_2 := fz BK246 2
         have hfz98_3 := fz BK246 3
         try go_wp2
         have n0_ : Aside0 ((wc.setCell ⟨gb246, 1, none⟩ (.int .i64 (wrap64 (a1_1 + x9_58)))).heap[gb245]? = some (.cells #[.int .i64 a0_0, .int .i64 x246001_83, .int .i64 a0_2, .int .i64 a0_3] 33 (0, 0))) := ⟨by refine bU ?_; refine blk_far ?_ NB245_246.out _; refine bU ?_; exact BK245.out⟩
         have n1_ : Aside0 ((wc.setCell ⟨gb246, 1, none⟩ (.int .i64 (wrap64 (a1_1 + x9_58)))).heap[gb246]? = some (.cells #[.int .i64 a1_0, .int .i64 (wrap64 (a1_1 + x9_58)), .int .i64 a1_2, .int .i64 a1_3] 33 (0, 0))) := ⟨by refine bU ?_; refine blk_put (cs := #[.int .i64 a1_0, .int .i64 a1_1, .int .i64 a1_2, .int .i64 a1_3]) ?_ 1 _ rfl; refine bU ?_; exact BK246.out⟩
         have n2_ : Aside0 ((wc.setCell ⟨gb246, 1, none⟩ (.int .i64 (wrap64 (a1_1 + x9_58)))).heap[gb247]? = some (.cells #[.int .i64 0, .int .i64 0, .int .i64 0, .int .i64 0] 33 (0, 0))) := ⟨by refine bU ?_; refine blk_far ?_ NB247_246.out _; refine bU ?_; exact BK247.out⟩
         have n3_ : Aside0 ((wc.setCell ⟨gb246, 1, none⟩ (.int .i64 (wrap64 (a1_1 + x9_58)))).heap[gb248]? = some (.cells #[.int .i64 0, .int .i64 0, .int .i64 0, .int .i64 0] 33 (0, 0))) := ⟨by refine bU ?_; refine blk_far ?_ NB248_246.out _; refine bU ?_; exact BK248.out⟩
         have n4_ : Aside0 (Below w.heap.size w (wc.setCell ⟨gb246, 1, none⟩ (.int .i64 (wrap64 (a1_1 + x9_58))))) := ⟨by repeat (first | (with_reducible first | exact HB.out | apply below_alloc | apply pw_below_drewN | apply below_drew1 | refine below_set ?_ GE245.out | refine below_set ?_ GE246.out | refine below_set ?_ GE247.out | refine below_set ?_ GE248.out) | exact HB.out)⟩
         (try clear BK245)
         (try clear BK246)
         (try clear BK247)
         (try clear BK248)
         (try clear HB)
         generalize (wc.setCell ⟨gb246, 1, none⟩ (.int .i64 (wrap64 (a1_1 + x9_58)))) = w99 at n0_ n1_ n2_ n3_ n4_ ⊢
         have BK245 := n0_
         have BK246 := n1_
         have BK247 := n2_
         have BK248 := n3_
         have HB := n4_
         clear n0_ n1_ n2_ n3_ n4_
         replace BK245 := Aside0.mk (blk_drew BK245.out)
         replace BK246 := Aside0.mk (blk_drew BK246.out)
         replace BK247 := Aside0.mk (blk_drew BK247.out)
         replace BK248 := Aside0.mk (blk_drew BK248.out)
         replace HB := Aside0.mk (below_drew1 HB.out)
         refine start_ (n := 4) (S := fun w' => w'.cell? ⟨gb245, 0, none⟩ = some (.int .i64 a0_0) ∧ w'.cell? ⟨gb245, 1, none⟩ = some (.int .i64 x246001_83) ∧ w'.cell? ⟨gb245, 2, none⟩ = some (.int .i64 a0_2) ∧ w'.cell? ⟨gb245, 3, none⟩ = some (.int .i64 a0_3) ∧ w'.cell? ⟨gb246, 0, none⟩ = some (.int .i64 a1_0) ∧ w'.cell? ⟨gb246, 1, none⟩ = some (.int .i64 (wrap64 (a1_1 + x9_58))) ∧ w'.cell? ⟨gb246, 2, none⟩ = some (.int .i64 a1_2) ∧ w'.cell? ⟨gb246, 3, none⟩ = some (.int .i64 a1_3)) (ds := []) #[false, false, false, false] (by kernel_rfl) rfl rfl ⟨cz BK245 0 _, cz BK245 1 _, cz BK245 2 _, cz BK245 3 _, cz BK246 0 _, cz BK246 1 _, cz BK246 2 _, cz BK246 3 _⟩ (fun hHeld => ?_)
         generalize w99.drew = w100 at BK245 BK246 BK247 BK248 HB hHeld ⊢
         refine take_ (i := 0) (N := some 98) (v := ?_) (a' := ?_) #[true, false, false, false] rfl rfl (by kernel_rfl) (fun _ _ _ h => h) (Or.inl ⟨by rfl, ?_⟩) hHeld ?_ ?_
         rotate_left
         ·rintro w' ⟨s0, s1, s2, s3, s4, s5, s6, s7⟩
          go_simp
          with_reducible rfl
         rotate_left
         ·simp only [Act.put, List.setIfInBounds_toArray, List.set_cons_zero, List.set_cons_succ, i64_w, i32_w]
          rfl
         refine take_ (i := 1) (N := some 99) (v := ?_) (a' := ?_) #[true, true, false, false] rfl rfl (by kernel_rfl) (fun _ _ _ h => h) (Or.inl ⟨by rfl, ?_⟩) hHeld ?_ ?_
         rotate_left
         ·rintro w' ⟨s0, s1, s2, s3, s4, s5, s6, s7⟩
          go_simp
          with_reducible rfl
         rotate_left
         ·simp only [Act.put, List.setIfInBounds_toArray, List.set_cons_zero, List.set_cons_succ, i64_w, i32_w]
          rfl
         refine one_ (i := 2) (N := none) #[true, true, true, false] rfl rfl (by kernel_rfl) (by decide) (fun K hK => ?_)
         have hs101 : w100.cell? ⟨gb247, 0, none⟩ = some (.int .i64 0) := (blk_cell BK247.out 0).trans rfl
         have hfs101 := blk_frozen BK247.out 0
         have hns101_0 := NB245_247.out
         have hns101_1 := NB246_247.out
         have hns101_3 := NB248_247.out
         have hms101_0 := NB247_245.out
         have hms101_1 := NB247_246.out
         have hms101_3 := NB247_248.out
         have hs102 : w100.cell? ⟨gb247, 1, none⟩ = some (.int .i64 0) := (blk_cell BK247.out 1).trans rfl
         have hfs102 := blk_frozen BK247.out 1
         have hns102_0 := NB245_247.out
         have hns102_1 := NB246_247.out
         have hns102_3 := NB248_247.out
         have hms102_0 := NB247_245.out
         have hms102_1 := NB247_246.out
         have hms102_3 := NB247_248.out
         have hs103 : w100.cell? ⟨gb247, 2, none⟩ = some (.int .i64 0) := (blk_cell BK247.out 2).trans rfl
         have hfs103 := blk_frozen BK247.out 2
         have hns103_0 := NB245_247.out
         have hns103_1 := NB246_247.out
         have hns103_3 := NB248_247.out
         have hms103_0 := NB247_245.out
         have hms103_1 := NB247_246.out
         have hms103_3 := NB247_248.out
         have hs104 : w100.cell? ⟨gb247, 3, none⟩ = some (.int .i64 0) := (blk_cell BK247.out 3).trans rfl
         have hfs104 := blk_frozen BK247.out 3
         have hns104_0 := NB245_247.out
         have hns104_1 := NB246_247.out
         have hns104_3 := NB248_247.out
         have hms104_0 := NB247_245.out
         have hms104_1 := NB247_246.out
         have hms104_3 := NB247_248.out
         refine skip_ (w1 := ?_) (by rfl) rfl ?_ ?_
         rotate_left
         ·go_simp
          rfl
         refine hK.out _ _ ⟨(cf4 NB245_247.out hHeld.1), (cf4 NB245_247.out hHeld.2.1), (cf4 NB245_247.out hHeld.2.2.1), (cf4 NB245_247.out hHeld.2.2.2.1), (cf4 NB246_247.out hHeld.2.2.2.2.1), (cf4 NB246_247.out hHeld.2.2.2.2.2.1), (cf4 NB246_247.out hHeld.2.2.2.2.2.2.1), (cf4 NB246_247.out hHeld.2.2.2.2.2.2.2)⟩ (fun hHeld => ?_)
         clear hK K
         refine one_ (i := 3) (N := none) #[true, true, true, true] rfl rfl (by kernel_rfl) (by decide) (fun K hK => ?_)
         have hs105 : w100.cell? ⟨gb248, 0, none⟩ = some (.int .i64 0) := (blk_cell BK248.out 0).trans rfl
         have hfs105 := blk_frozen BK248.out 0
         have hns105_0 := NB245_248.out
         have hns105_1 := NB246_248.out
         have hns105_2 := NB247_248.out
         have hms105_0 := NB248_245.out
         have hms105_1 := NB248_246.out
         have hms105_2 := NB248_247.out
         have hs106 : w100.cell? ⟨gb248, 1, none⟩ = some (.int .i64 0) := (blk_cell BK248.out 1).trans rfl
         have hfs106 := blk_frozen BK248.out 1
         have hns106_0 := NB245_248.out
         have hns106_1 := NB246_248.out
         have hns106_2 := NB247_248.out
         have hms106_0 := NB248_245.out
         have hms106_1 := NB248_246.out
         have hms106_2 := NB248_247.out
         have hs107 : w100.cell? ⟨gb248, 2, none⟩ = some (.int .i64 0) := (blk_cell BK248.out 2).trans rfl
         have hfs107 := blk_frozen BK248.out 2
         have hns107_0 := NB245_248.out
         have hns107_1 := NB246_248.out
         have hns107_2 := NB247_248.out
         have hms107_0 := NB248_245.out
         have hms107_1 := NB248_246.out
         have hms107_2 := NB248_247.out
         have hs108 : w100.cell? ⟨gb248, 3, none⟩ = some (.int .i64 0) := (blk_cell BK248.out 3).trans rfl
         have hfs108 := blk_frozen BK248.out 3
         have hns108_0 := NB245_248.out
         have hns108_1 := NB246_248.out
         have hns108_2 := NB247_248.out
         have hms108_0 := NB248_245.out
         have hms108_1 := NB248_246.out
         have hms108_2 := NB248_247.out
         refine skip_ (w1 := ?_) (by rfl) rfl ?_ ?_
         rotate_left
         ·go_simp
          rfl
         refine hK.out _ _ ⟨(cf4 NB245_248.out hHeld.1), (cf4 NB245_248.out hHeld.2.1), (cf4 NB245_248.out hHeld.2.2.1), (cf4 NB245_248.out hHeld.2.2.2.1), (cf4 NB246_248.out hHeld.2.2.2.2.1), (cf4 NB246_248.out hHeld.2.2.2.2.2.1), (cf4 NB246_248.out hHeld.2.2.2.2.2.2.1), (cf4 NB246_248.out hHeld.2.2.2.2.2.2.2)⟩ (fun hHeld => ?_)
         clear hK K
         refine done_ (by kernel_rfl) ?_
         try go_wp2
         refine bodyPost_ret (results_cc rfl _ _ gb247 gb248 33 33 #[.int .i64 a0_0, .int .i64 x246001_83, .int .i64 a0_2, .int .i64 a0_3] #[.int .i64 a1_0, .int .i64 (wrap64 (a1_1 + x9_58)), .int .i64 a1_2, .int .i64 a1_3] (0, 0) (0, 0) _ _ rfl (by refine bU ?_; refine blk_far ?_ NB247_248.out _; refine bU ?_; refine blk_far ?_ NB247_248.out _; refine bU ?_; refine blk_far ?_ NB247_248.out _; refine bU ?_; refine blk_far ?_ NB247_248.out _; refine bU ?_; refine blk_put (cs := #[.int .i64 a0_0, .int .i64 x246001_83, .int .i64 a0_2, .int .i64 0]) ?_ 3 _ rfl; refine bU ?_; refine blk_put (cs := #[.int .i64 a0_0, .int .i64 x246001_83, .int .i64 0, .int .i64 0]) ?_ 2 _ rfl; refine bU ?_; refine blk_put (cs := #[.int .i64 a0_0, .int .i64 0, .int .i64 0, .int .i64 0]) ?_ 1 _ rfl; refine bU ?_; refine blk_put (cs := #[.int .i64 0, .int .i64 0, .int .i64 0, .int .i64 0]) ?_ 0 _ rfl; refine bU ?_; exact BK247.out) Try.underlying33 rfl (by kernel_rfl) rfl (by refine bU ?_; refine blk_put (cs := #[.int .i64 a1_0, .int .i64 (wrap64 (a1_1 + x9_58)), .int .i64 a1_2, .int .i64 0]) ?_ 3 _ rfl; refine bU ?_; refine blk_put (cs := #[.int .i64 a1_0, .int .i64 (wrap64 (a1_1 + x9_58)), .int .i64 0, .int .i64 0]) ?_ 2 _ rfl; refine bU ?_; refine blk_put (cs := #[.int .i64 a1_0, .int .i64 0, .int .i64 0, .int .i64 0]) ?_ 1 _ rfl; refine bU ?_; refine blk_put (cs := #[.int .i64 0, .int .i64 0, .int .i64 0, .int .i64 0]) ?_ 0 _ rfl; refine bU ?_; refine blk_far ?_ NB248_247.out _; refine bU ?_; refine blk_far ?_ NB248_247.out _; refine bU ?_; refine blk_far ?_ NB248_247.out _; refine bU ?_; refine blk_far ?_ NB248_247.out _; refine bU ?_; exact BK248.out) Try.underlying33 rfl (by kernel_rfl)) rfl ?_
         exact ⟨by first | rfl | (simp [errW_none, errW_some] <;> rfl) | (simp only [← hji4, ← hji5]; first | rfl | (simp [errW_none, errW_some] <;> rfl)) | (simp [*, errW_none, errW_some] <;> rfl), lV4 GE245 GE246 GE247 GE248⟩
        ·rw [if_neg c94] at H
         have c94b0 : decide (0 < a1_2) = false := decide_eq_false c94
         clear c94
         simp only [Option.some.injEq, Prod.mk.injEq] at H
         obtain ⟨rfl, rfl, rfl, rfl, rfl, rfl, rfl, rfl⟩ := H
         have hnb109 := NB246_245.out
         have hnc109 := NB245_246.out
         have hnb110 := NB246_247.out
         have hnc110 := NB247_246.out
         have hnb111 := NB246_248.out
         have hnc111 := NB248_246.out
         have hcz112_0 := cz BK246 0 (.int .i64 a1_0)
         have hcz112_1 := cz BK246 1 (.int .i64 a1_1)
         have hcz112_2 := cz BK246 2 (.int .i64 a1_2)
         have hcz112_3 := cz BK246 3 (.int .i64 a1_3)
         have hfz112_0 := fz BK246 0
         have hfz112_1 := fz BK246 1
         have hfz112_2 := fz BK246 2
         have hfz112_3 := fz BK246 3
         try go_wp2
         replace BK245 := Aside0.mk (blk_drew BK245.out)
         replace BK246 := Aside0.mk (blk_drew BK246.out)
         replace BK247 := Aside0.mk (blk_drew BK247.out)
         replace BK248 := Aside0.mk (blk_drew BK248.out)
         replace HB := Aside0.mk (below_drew1 HB.out)
         refine start_ (n := 4) (S := fun w' => w'.cell? ⟨gb245, 0, none⟩ = some (.int .i64 a0_0) ∧ w'.cell? ⟨gb245, 1, none⟩ = some (.int .i64 x246001_83) ∧ w'.cell? ⟨gb245, 2, none⟩ = some (.int .i64 a0_2) ∧ w'.cell? ⟨gb245, 3, none⟩ = some (.int .i64 a0_3) ∧ w'.cell? ⟨gb246, 0, none⟩ = some (.int .i64 a1_0) ∧ w'.cell? ⟨gb246, 1, none⟩ = some (.int .i64 a1_1) ∧ w'.cell? ⟨gb246, 2, none⟩ = some (.int .i64 a1_2) ∧ w'.cell? ⟨gb246, 3, none⟩ = some (.int .i64 a1_3)) (ds := []) #[false, false, false, false] (by kernel_rfl) rfl rfl ⟨cz BK245 0 _, cz BK245 1 _, cz BK245 2 _, cz BK245 3 _, cz BK246 0 _, cz BK246 1 _, cz BK246 2 _, cz BK246 3 _⟩ (fun hHeld => ?_)
         generalize wc.drew = w113 at BK245 BK246 BK247 BK248 HB hHeld ⊢
         refine take_ (i := 0) (N := some 98) (v := ?_) (a' := ?_) #[true, false, false, false] rfl rfl (by kernel_rfl) (fun _ _ _ h => h) (Or.inl ⟨by rfl, ?_⟩) hHeld ?_ ?_
         rotate_left
         ·rintro w' ⟨s0, s1, s2, s3, s4, s5, s6, s7⟩
          go_simp
          with_reducible rfl
         rotate_left
         ·simp only [Act.put, List.setIfInBounds_toArray, List.set_cons_zero, List.set_cons_succ, i64_w, i32_w]
          rfl
         refine take_ (i := 1) (N := some 99) (v := ?_) (a' := ?_) #[true, true, false, false] rfl rfl (by kernel_rfl) (fun _ _ _ h => h) (Or.inl ⟨by rfl, ?_⟩) hHeld ?_ ?_
         rotate_left
         ·rintro w' ⟨s0, s1, s2, s3, s4, s5, s6, s7⟩
          go_simp
          with_reducible rfl
         rotate_left
         ·simp only [Act.put, List.setIfInBounds_toArray, List.set_cons_zero, List.set_cons_succ, i64_w, i32_w]
          rfl
         refine one_ (i := 2) (N := none) #[true, true, true, false] rfl rfl (by kernel_rfl) (by decide) (fun K hK => ?_)
         have hs114 : w113.cell? ⟨gb247, 0, none⟩ = some (.int .i64 0) := (blk_cell BK247.out 0).trans rfl
         have hfs114 := blk_frozen BK247.out 0
         have hns114_0 := NB245_247.out
         have hns114_1 := NB246_247.out
         have hns114_3 := NB248_247.out
         have hms114_0 := NB247_245.out
         have hms114_1 := NB247_246.out
         have hms114_3 := NB247_248.out
         have hs115 : w113.cell? ⟨gb247, 1, none⟩ = some (.int .i64 0) := (blk_cell BK247.out 1).trans rfl
         have hfs115 := blk_frozen BK247.out 1
         have hns115_0 := NB245_247.out
         have hns115_1 := NB246_247.out
         have hns115_3 := NB248_247.out
         have hms115_0 := NB247_245.out
         have hms115_1 := NB247_246.out
         have hms115_3 := NB247_248.out
         have hs116 : w113.cell? ⟨gb247, 2, none⟩ = some (.int .i64 0) := (blk_cell BK247.out 2).trans rfl
         have hfs116 := blk_frozen BK247.out 2
         have hns116_0 := NB245_247.out
         have hns116_1 := NB246_247.out
         have hns116_3 := NB248_247.out
         have hms116_0 := NB247_245.out
         have hms116_1 := NB247_246.out
         have hms116_3 := NB247_248.out
         have hs117 : w113.cell? ⟨gb247, 3, none⟩ = some (.int .i64 0) := (blk_cell BK247.out 3).trans rfl
         have hfs117 := blk_frozen BK247.out 3
         have hns117_0 := NB245_247.out
         have hns117_1 := NB246_247.out
         have hns117_3 := NB248_247.out
         have hms117_0 := NB247_245.out
         have hms117_1 := NB247_246.out
         have hms117_3 := NB247_248.out
         refine skip_ (w1 := ?_) (by rfl) rfl ?_ ?_
         rotate_left
         ·go_simp
          rfl
         refine hK.out _ _ ⟨(cf4 NB245_247.out hHeld.1), (cf4 NB245_247.out hHeld.2.1), (cf4 NB245_247.out hHeld.2.2.1), (cf4 NB245_247.out hHeld.2.2.2.1), (cf4 NB246_247.out hHeld.2.2.2.2.1), (cf4 NB246_247.out hHeld.2.2.2.2.2.1), (cf4 NB246_247.out hHeld.2.2.2.2.2.2.1), (cf4 NB246_247.out hHeld.2.2.2.2.2.2.2)⟩ (fun hHeld => ?_)
         clear hK K
         refine one_ (i := 3) (N := none) #[true, true, true, true] rfl rfl (by kernel_rfl) (by decide) (fun K hK => ?_)
         have hs118 : w113.cell? ⟨gb248, 0, none⟩ = some (.int .i64 0) := (blk_cell BK248.out 0).trans rfl
         have hfs118 := blk_frozen BK248.out 0
         have hns118_0 := NB245_248.out
         have hns118_1 := NB246_248.out
         have hns118_2 := NB247_248.out
         have hms118_0 := NB248_245.out
         have hms118_1 := NB248_246.out
         have hms118_2 := NB248_247.out
         have hs119 : w113.cell? ⟨gb248, 1, none⟩ = some (.int .i64 0) := (blk_cell BK248.out 1).trans rfl
         have hfs119 := blk_frozen BK248.out 1
         have hns119_0 := NB245_248.out
         have hns119_1 := NB246_248.out
         have hns119_2 := NB247_248.out
         have hms119_0 := NB248_245.out
         have hms119_1 := NB248_246.out
         have hms119_2 := NB248_247.out
         have hs120 : w113.cell? ⟨gb248, 2, none⟩ = some (.int .i64 0) := (blk_cell BK248.out 2).trans rfl
         have hfs120 := blk_frozen BK248.out 2
         have hns120_0 := NB245_248.out
         have hns120_1 := NB246_248.out
         have hns120_2 := NB247_248.out
         have hms120_0 := NB248_245.out
         have hms120_1 := NB248_246.out
         have hms120_2 := NB248_247.out
         have hs121 : w113.cell? ⟨gb248, 3, none⟩ = some (.int .i64 0) := (blk_cell BK248.out 3).trans rfl
         have hfs121 := blk_frozen BK248.out 3
         have hns121_0 := NB245_248.out
         have hns121_1 := NB246_248.out
         have hns121_2 := NB247_248.out
         have hms121_0 := NB248_245.out
         have hms121_1 := NB248_246.out
         have hms121_2 := NB248_247.out
         refine skip_ (w1 := ?_) (by rfl) rfl ?_ ?_
         rotate_left
         ·go_simp
          rfl
         refine hK.out _ _ ⟨(cf4 NB245_248.out hHeld.1), (cf4 NB245_248.out hHeld.2.1), (cf4 NB245_248.out hHeld.2.2.1), (cf4 NB245_248.out hHeld.2.2.2.1), (cf4 NB246_248.out hHeld.2.2.2.2.1), (cf4 NB246_248.out hHeld.2.2.2.2.2.1), (cf4 NB246_248.out hHeld.2.2.2.2.2.2.1), (cf4 NB246_248.out hHeld.2.2.2.2.2.2.2)⟩ (fun hHeld => ?_)
         clear hK K
         refine done_ (by kernel_rfl) ?_
         try go_wp2
         refine bodyPost_ret (results_cc rfl _ _ gb247 gb248 33 33 #[.int .i64 a0_0, .int .i64 x246001_83, .int .i64 a0_2, .int .i64 a0_3] #[.int .i64 a1_0, .int .i64 a1_1, .int .i64 a1_2, .int .i64 a1_3] (0, 0) (0, 0) _ _ rfl (by refine bU ?_; refine blk_far ?_ NB247_248.out _; refine bU ?_; refine blk_far ?_ NB247_248.out _; refine bU ?_; refine blk_far ?_ NB247_248.out _; refine bU ?_; refine blk_far ?_ NB247_248.out _; refine bU ?_; refine blk_put (cs := #[.int .i64 a0_0, .int .i64 x246001_83, .int .i64 a0_2, .int .i64 0]) ?_ 3 _ rfl; refine bU ?_; refine blk_put (cs := #[.int .i64 a0_0, .int .i64 x246001_83, .int .i64 0, .int .i64 0]) ?_ 2 _ rfl; refine bU ?_; refine blk_put (cs := #[.int .i64 a0_0, .int .i64 0, .int .i64 0, .int .i64 0]) ?_ 1 _ rfl; refine bU ?_; refine blk_put (cs := #[.int .i64 0, .int .i64 0, .int .i64 0, .int .i64 0]) ?_ 0 _ rfl; refine bU ?_; exact BK247.out) Try.underlying33 rfl (by kernel_rfl) rfl (by refine bU ?_; refine blk_put (cs := #[.int .i64 a1_0, .int .i64 a1_1, .int .i64 a1_2, .int .i64 0]) ?_ 3 _ rfl; refine bU ?_; refine blk_put (cs := #[.int .i64 a1_0, .int .i64 a1_1, .int .i64 0, .int .i64 0]) ?_ 2 _ rfl; refine bU ?_; refine blk_put (cs := #[.int .i64 a1_0, .int .i64 0, .int .i64 0, .int .i64 0]) ?_ 1 _ rfl; refine bU ?_; refine blk_put (cs := #[.int .i64 0, .int .i64 0, .int .i64 0, .int .i64 0]) ?_ 0 _ rfl; refine bU ?_; refine blk_far ?_ NB248_247.out _; refine bU ?_; refine blk_far ?_ NB248_247.out _; refine bU ?_; refine blk_far ?_ NB248_247.out _; refine bU ?_; refine blk_far ?_ NB248_247.out _; refine bU ?_; exact BK248.out) Try.underlying33 rfl (by kernel_rfl)) rfl ?_
         exact ⟨by first | rfl | (simp [errW_none, errW_some] <;> rfl) | (simp only [← hji4, ← hji5]; first | rfl | (simp [errW_none, errW_some] <;> rfl)) | (simp [*, errW_none, errW_some] <;> rfl), lV4 GE245 GE246 GE247 GE248⟩
end Go.Proofs.Ytnacjhgpanedoab.PFnPushed
