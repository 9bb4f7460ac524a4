/- Texts of a row. -/
import Derived.Test.YtnacjhgpanedoabZFnPushed0
import Derived.Deep.RegionLaw
import Derived.Lib.SliceRun
import Derived.Laws.Externs
namespace Go.Proofs.YtnacjhgpanedoabW.PrintWords
open Go.RowKit
theorem bU {w W : World} {g : Nat} {o : Obj} (h : w.heap[g]? = some o) (k : w.heap[g]? = some o → W.heap[g]? = some o := by intro h_; (with_reducible repeat (first | refine blk_drewN ?_ _ | refine blk_drew ?_ | refine blk_alloc ?_ _)); exact h_) : W.heap[g]? = some o := k h
theorem rU {A B : Prop} (h : A) (k : A → B := by intro h_; (with_reducible repeat (first | apply Kd.R_alloc | apply Kd.R_drewN | apply Kd.R_drew)); exact h_) : B := k h
theorem lU {B : Prop} (k : B := by repeat (first | (with_reducible first | exact HB.out | apply below_alloc | apply pw_below_drewN | apply below_drew1) | exact HB.out)) : B := k
theorem gS (w : World) {W : World} {g : Nat} (hg : g = W.heap.size) (k : Below w.heap.size w W) : Aside0 (w.heap.size ≤ g) := ⟨by rw [hg]; exact below_size k⟩
theorem nL {W : World} {g g' : Nat} {o : Obj} (hg : g' = W.heap.size) (k : W.heap[g]? = some o) : Aside0 (g ≠ g') := ⟨by rw [hg]; exact Nat.ne_of_lt (blk_lt k)⟩
theorem nG {W : World} {g g' : Nat} {o : Obj} (hg : g' = W.heap.size) (k : W.heap[g]? = some o) : Aside0 (g' ≠ g) := ⟨by rw [hg]; exact Nat.ne_of_gt (blk_lt k)⟩
theorem aE {B : Prop} (k : B := by (try simp only [List.map_toArray, List.map_cons, List.map_nil]); first | done | rfl | (simp only [List.length_drop, List.length_take]; rfl)) : B := k
theorem tE {B : Prop} (k : B := by first | rfl | (simp; done) | (simp [*]; done) | exact not_isEmpty _ | exact (not_isEmpty _).symm | exact is_empty _ | exact (is_empty _).symm) : B := k
theorem hE {B : Prop} (k : B := by first | (with_reducible assumption) | assumption) : B := k
theorem cU {A B : Prop} (h : A) (k : A → B := by intro h_; repeat (first | exact h_ | (with_reducible refine Kd.C_alloc ?_ _) | (with_reducible refine Kd.C_drewN ?_ _) | (with_reducible refine Kd.C_drew ?_))) : B := k h
theorem sE {B : Prop} (k : B := by first | (go_simp; done) | (go_simp; rfl)) : B := k
theorem eE {B : Prop} (k : B := by first | rfl | (simp [errW_none, errW_some] <;> rfl) | (simp [*, errW_none, errW_some] <;> rfl)) : B := k
theorem bV {w W : World} {g : Nat} {o : Obj} (h : Aside0 (w.heap[g]? = some o)) (k : w.heap[g]? = some o → W.heap[g]? = some o := by intro h_; (with_reducible repeat (first | refine blk_drewN ?_ _ | refine blk_drew ?_ | refine blk_alloc ?_ _)); exact h_) : W.heap[g]? = some o := k h.out
theorem bG {w W : World} {g : Nat} {o : Obj} {C : Prop} (n : Aside0 C) (h : Aside0 (w.heap[g]? = some o)) (k : w.heap[g]? = some o → C → W.heap[g]? = some o := by intro h_ n_; (repeat (first | (with_reducible first | refine blk_drewN ?_ _ | refine blk_drew ?_ | refine blk_alloc ?_ _) | refine blk_far ?_ n_ _)); exact h_) : W.heap[g]? = some o := k h.out n.out
theorem bB {w w1 : World} {g : Nat} {o : Obj} (h : w.heap[g]? = some o) (hb : Below w.heap.size w w1) : Aside0 (w1.heap[g]? = some o) := ⟨blk_below h hb⟩
theorem bH {w W w2 : World} (h : Below w.heap.size w W) (k : Below W.heap.size W w2) : Aside0 (Below w.heap.size w w2) := ⟨below_step h k⟩
theorem cz {w : World} {g : Nat} {t : TypeId} {cs : Array Value} (h : Aside0 (w.heap[g]? = some (.cells cs t (0, 0)))) (i : Nat) (v : Value) (e : cs[i]? = some v := by rfl) : w.cell? ⟨g, i, none⟩ = some v := (blk_cell h.out i).trans e
theorem fz {w : World} {g : Nat} {t : TypeId} {cs : Array Value} (h : Aside0 (w.heap[g]? = some (.cells cs t (0, 0)))) (i : Nat) : w.frozen? ⟨g, i, none⟩ = false := blk_frozen h.out i
theorem lV1 {A0 B : Prop} (g0_ : Aside0 A0) (k : A0 → B := by intro g0_; repeat (first | (with_reducible first | exact HB.out | apply below_alloc | apply pw_below_drewN | apply below_drew1 | refine below_set ?_ g0_) | exact HB.out)) : B := k g0_.out
theorem lV2 {A0 A1 B : Prop} (g0_ : Aside0 A0) (g1_ : Aside0 A1) (k : A0 → A1 → B := by intro g0_ g1_; repeat (first | (with_reducible first | exact HB.out | apply below_alloc | apply pw_below_drewN | apply below_drew1 | refine below_set ?_ g0_ | refine below_set ?_ g1_) | exact HB.out)) : B := k g0_.out g1_.out
theorem lV3 {A0 A1 A2 B : Prop} (g0_ : Aside0 A0) (g1_ : Aside0 A1) (g2_ : Aside0 A2) (k : A0 → A1 → A2 → B := by intro g0_ g1_ g2_; repeat (first | (with_reducible first | exact HB.out | apply below_alloc | apply pw_below_drewN | apply below_drew1 | refine below_set ?_ g0_ | refine below_set ?_ g1_ | refine below_set ?_ g2_) | exact HB.out)) : B := k g0_.out g1_.out g2_.out
theorem lV4 {A0 A1 A2 A3 B : Prop} (g0_ : Aside0 A0) (g1_ : Aside0 A1) (g2_ : Aside0 A2) (g3_ : Aside0 A3) (k : A0 → A1 → A2 → A3 → B := by intro g0_ g1_ g2_ g3_; repeat (first | (with_reducible first | exact HB.out | apply below_alloc | apply pw_below_drewN | apply below_drew1 | refine below_set ?_ g0_ | refine below_set ?_ g1_ | refine below_set ?_ g2_ | refine below_set ?_ g3_) | exact HB.out)) : B := k g0_.out g1_.out g2_.out g3_.out
theorem lV8 {A0 A1 A2 A3 A4 A5 A6 A7 B : Prop} (g0_ : Aside0 A0) (g1_ : Aside0 A1) (g2_ : Aside0 A2) (g3_ : Aside0 A3) (g4_ : Aside0 A4) (g5_ : Aside0 A5) (g6_ : Aside0 A6) (g7_ : Aside0 A7) (k : A0 → A1 → A2 → A3 → A4 → A5 → A6 → A7 → B := by intro g0_ g1_ g2_ g3_ g4_ g5_ g6_ g7_; repeat (first | (with_reducible first | exact HB.out | apply below_alloc | apply pw_below_drewN | apply below_drew1 | refine below_set ?_ g0_ | refine below_set ?_ g1_ | refine below_set ?_ g2_ | refine below_set ?_ g3_ | refine below_set ?_ g4_ | refine below_set ?_ g5_ | refine below_set ?_ g6_ | refine below_set ?_ g7_) | exact HB.out)) : B := k g0_.out g1_.out g2_.out g3_.out g4_.out g5_.out g6_.out g7_.out
end Go.Proofs.YtnacjhgpanedoabW.PrintWords
namespace Go.Proofs.YtnacjhgpanedoabW.PrintWords
open Go.RowKit
namespace Kd
section
variable {P : Program} {α : Type}
end
end Kd
end Go.Proofs.YtnacjhgpanedoabW.PrintWords
namespace Go.Proofs.YtnacjhgpanedoabW.PrintLast
open Go.RowKit Go.Proofs.YtnacjhgpanedoabW.PrintWords
def bz (n m : Nat) : Array Bool := ((List.range n).map fun i => m.testBit i).toArray
section
variable {P : Program} {ops : Array Oper} {Q : Exit → Act → World → Prop} {md : Region.Mode} {S : World → Prop} {ds : List Nat}
theorem pureA (i : Nat) (N : Tmp) {oi : Oper} {v : Value} {fuel : Nat} {l : Array Bool} {a : Act} {w : World} (l' : Array Bool) {a' : Act} (hi : ops[i]? = some oi) (hN : oi.dst = some N) (hc : anyB md ops l l' i = true) (h : wpAnyLast P md ops Q S ds fuel l' a' w)
  (hQ : ∀ c a w, Q (.panic c) (a.put oi.dst v) w → Q (.panic c) a w := by exact fun _ _ _ h => h) (hw : Region.wanted oi (yielded ops a.tmps) = true := by rfl)
  (hy : ∀ w, (execOp a.eval oi).run P w = .ok (.value v) w := by intro w'; go_simp; with_reducible rfl) (ha : a.put (some N) v = a' := by simp only [Act.put, List.setIfInBounds_toArray, List.set_cons_zero, List.set_cons_succ, i64_w, i32_w]; rfl) : wpAnyLast P md ops Q S ds (fuel + 1) l a w :=
 pure_ l' hi hN hc hQ (Or.inl ⟨hw, hy⟩) ha h
theorem pureU (i : Nat) (N : Tmp) {oi : Oper} {fuel : Nat} {l : Array Bool} {a : Act} {w : World} (l' : Array Bool) {a' : Act} (hi : ops[i]? = some oi) (hN : oi.dst = some N) (hc : anyB md ops l l' i = true) (h : wpAnyLast P md ops Q S ds fuel l' a' w)
  (hQ : ∀ c a w, Q (.panic c) (a.put oi.dst undef) w → Q (.panic c) a w := by exact fun _ _ _ h => h) (hw : Region.wanted oi (yielded ops a.tmps) = false := by rfl)
  (ha : a.put (some N) undef = a' := by simp only [Act.put, List.setIfInBounds_toArray, List.set_cons_zero, List.set_cons_succ, i64_w, i32_w]; rfl) : wpAnyLast P md ops Q S ds (fuel + 1) l a w :=
 pure_ l' hi hN hc hQ (Or.inr ⟨hw, rfl⟩) ha h
theorem takeA (i : Nat) (N : Tmp) {oi : Oper} {v : Value} {fuel : Nat} {l : Array Bool} {a : Act} {w : World} (l' : Array Bool) {a' : Act} (hi : ops[i]? = some oi) (hN : oi.dst = some N) (hc : takeB md ops ds l l' i = true) (hS : S w) (hy : ∀ w, S w → (execOp a.eval oi).run P w = .ok (.value v) w) (h : wpAnyLast P md ops Q S ds fuel l' a' w)
  (hQ : ∀ c a w, Q (.panic c) (a.put oi.dst v) w → Q (.panic c) a w := by exact fun _ _ _ h => h) (hw : Region.wanted oi (yielded ops a.tmps) = true := by rfl)
  (ha : a.put (some N) v = a' := by simp only [Act.put, List.setIfInBounds_toArray, List.set_cons_zero, List.set_cons_succ, i64_w, i32_w]; rfl) : wpAnyLast P md ops Q S ds (fuel + 1) l a w :=
 take_ l' hi hN hc hQ (Or.inl ⟨hw, hy⟩) hS ha h
end
end Go.Proofs.YtnacjhgpanedoabW.PrintLast
namespace Go.Proofs.YtnacjhgpanedoabW.PrintWords
open Go.RowKit
end Go.Proofs.YtnacjhgpanedoabW.PrintWords
namespace Go.Proofs.YtnacjhgpanedoabW.PrintWords
open Go.RowKit
section
variable {P : Program} {ops : Array Oper} {o : Oper} {a : Act} {Q : Exit → Act → World → Prop} {Kc : Act → World → Prop}
end
end Go.Proofs.YtnacjhgpanedoabW.PrintWords
namespace Go.Proofs.YtnacjhgpanedoabW.PrintWords
open Go.RowKit
theorem cf4 {P : Prop} {w : World} {a : Addr} {v : Value} {g i1 i2 i3 i4 : Nat} {u1 u2 u3 u4 : Value} (e : P) (hx : w.cell? a = some v)
  (h : P → a.block ≠ g := by intro e_; first | exact e_ | (rw [add_block]; exact e_) | (show (Addr.add _ _).block ≠ _; rw [add_block]; exact e_) | (dsimp only; exact e_)) :
  ((((w.setCell ⟨g, i1, none⟩ u1).setCell ⟨g, i2, none⟩ u2).setCell ⟨g, i3, none⟩ u3).setCell ⟨g, i4, none⟩ u4).cell? a = some v := by
 have k := h e
 rw [cell_far (p := ⟨g, i4, none⟩) k, cell_far (p := ⟨g, i3, none⟩) k, cell_far (p := ⟨g, i2, none⟩) k, cell_far (p := ⟨g, i1, none⟩) k]
 exact hx
theorem hT {w w1 : World} {a : Addr} {v : Value} (hb : Below w.heap.size w w1) (h : w.cell? a = some v) : w1.cell? a = some v := (hb.cell (World.block_lt_of_cell? _ _ h)).trans h
theorem nE {B : Prop} (k : B := by first | (simp only [putAll, Act.put, List.setIfInBounds_toArray, List.set_cons_zero, List.set_cons_succ]; done) | (simp only [putAll, Act.put, List.setIfInBounds_toArray, List.set_cons_zero, List.set_cons_succ]; rfl)) : B := k
theorem iI45_0_12_0 {B : Prop} (k : B := by repeat (first | (with_reducible first | exact HI0.out | apply IsS45.alloc | apply IsS45.drewN | apply IsS45.drew | apply IsS45.set_1 | apply IsS45.set_2) | exact HI0.out)) : B := k
theorem iI45_0_12_1 {A0 B : Prop} (g0_ : Aside0 A0) (k : A0 → B := by intro g0_; repeat (first | (with_reducible first | exact HI0.out | apply IsS45.alloc | apply IsS45.drewN | apply IsS45.drew | apply IsS45.set_1 | apply IsS45.set_2 | refine IsS45.far ?_ g0_ _) | exact HI0.out)) : B := k g0_.out
theorem iI45_203_12_0 {B : Prop} (k : B := by repeat (first | (with_reducible first | exact HI203.out | apply IsS45.alloc | apply IsS45.drewN | apply IsS45.drew | apply IsS45.set_1 | apply IsS45.set_2) | exact HI203.out)) : B := k
theorem iI45_386_12_0 {B : Prop} (k : B := by repeat (first | (with_reducible first | exact HI386.out | apply IsS45.alloc | apply IsS45.drewN | apply IsS45.drew | apply IsS45.set_1 | apply IsS45.set_2) | exact HI386.out)) : B := k
theorem kI0 {B : Prop} (k : B := by repeat (first | (with_reducible first | exact HK.out | apply KeepBut.set_ | apply keep_drewN | apply keep_drew | apply keep_alloc) | exact HK.out)) : B := k
theorem kI1 {A0 B : Prop} (g0_ : Aside0 A0) (k : A0 → B := by intro g0_; repeat (first | (with_reducible first | exact HK.out | apply KeepBut.set_ | apply keep_drewN | apply keep_drew | apply keep_alloc | refine keep_far ?_ g0_ _) | exact HK.out)) : B := k g0_.out
theorem lI45_0_0 {B : Prop} (k : B := by repeat (first | (with_reducible first | exact HB.out | apply below_alloc | apply pw_below_drewN | apply below_drew1 | refine below_set ?_ (IsS45.ge HI0.out)) | exact HB.out)) : B := k
theorem lI45_0_1 {A0 B : Prop} (g0_ : Aside0 A0) (k : A0 → B := by intro g0_; repeat (first | (with_reducible first | exact HB.out | apply below_alloc | apply pw_below_drewN | apply below_drew1 | refine below_set ?_ (IsS45.ge HI0.out) | refine below_set ?_ g0_) | exact HB.out)) : B := k g0_.out
theorem lI45_203_0 {B : Prop} (k : B := by repeat (first | (with_reducible first | exact HB.out | apply below_alloc | apply pw_below_drewN | apply below_drew1 | refine below_set ?_ (IsS45.ge HI203.out)) | exact HB.out)) : B := k
theorem lI45_386_0 {B : Prop} (k : B := by repeat (first | (with_reducible first | exact HB.out | apply below_alloc | apply pw_below_drewN | apply below_drew1 | refine below_set ?_ (IsS45.ge HI386.out)) | exact HB.out)) : B := k
end Go.Proofs.YtnacjhgpanedoabW.PrintWords
