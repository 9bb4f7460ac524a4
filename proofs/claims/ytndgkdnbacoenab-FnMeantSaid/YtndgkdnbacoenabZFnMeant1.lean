/- Texts of a row. -/
import Derived.Test.YtndgkdnbacoenabZFnMeant0
namespace Go.Proofs.YtndgkdnbacoenabW.PrintWords
open Go.RowKit
theorem bU {w W : World} {g : Nat} {o : Obj} (h : w.heap[g]? = some o) (k : w.heap[g]? = some o → W.heap[g]? = some o := by intro h_; (with_reducible repeat (first | refine blk_drewN ?_ _ | refine blk_drew ?_ | refine blk_alloc ?_ _)); exact h_) : W.heap[g]? = some o := k h
theorem rU {A B : Prop} (h : A) (k : A → B := by intro h_; (with_reducible repeat (first | apply Kd.R_alloc | apply Kd.R_drewN | apply Kd.R_drew)); exact h_) : B := k h
theorem lU {B : Prop} (k : B := by repeat (first | (with_reducible first | exact HB.out | apply below_alloc | apply pw_below_drewN | apply below_drew1) | exact HB.out)) : B := k
theorem gS (w : World) {W : World} {g : Nat} (hg : g = W.heap.size) (k : Below w.heap.size w W) : Aside0 (w.heap.size ≤ g) := ⟨by rw [hg]; exact below_size k⟩
theorem nL {W : World} {g g' : Nat} {o : Obj} (hg : g' = W.heap.size) (k : W.heap[g]? = some o) : Aside0 (g ≠ g') := ⟨by rw [hg]; exact Nat.ne_of_lt (blk_lt k)⟩
theorem nG {W : World} {g g' : Nat} {o : Obj} (hg : g' = W.heap.size) (k : W.heap[g]? = some o) : Aside0 (g' ≠ g) := ⟨by rw [hg]; exact Nat.ne_of_gt (blk_lt k)⟩
theorem aE {B : Prop} (k : B := by (try simp only [List.map_toArray, List.map_cons, List.map_nil]); first | done | rfl | (simp only [List.length_drop, List.length_take]; rfl)) : B := k
theorem tE {B : Prop} (k : B := by first | rfl | (simp; done) | (simp [*]; done) | exact not_isEmpty _ | exact (not_isEmpty _).symm | exact is_empty _ | exact (is_empty _).symm) : B := k
theorem hE {B : Prop} (k : B := by first | (with_reducible assumption) | assumption) : B := k
theorem cU {A B : Prop} (h : A) (k : A → B := by intro h_; repeat (first | exact h_ | (with_reducible refine Kd.C_alloc ?_ _) | (with_reducible refine Kd.C_drewN ?_ _) | (with_reducible refine Kd.C_drew ?_))) : B := k h
theorem sE {B : Prop} (k : B := by first | (go_simp; done) | (go_simp; rfl)) : B := k
theorem eE {B : Prop} (k : B := by first | rfl | (simp [errW_none, errW_some] <;> rfl) | (simp [*, errW_none, errW_some] <;> rfl)) : B := k
theorem bV {w W : World} {g : Nat} {o : Obj} (h : Aside0 (w.heap[g]? = some o)) (k : w.heap[g]? = some o → W.heap[g]? = some o := by intro h_; (with_reducible repeat (first | refine blk_drewN ?_ _ | refine blk_drew ?_ | refine blk_alloc ?_ _)); exact h_) : W.heap[g]? = some o := k h.out
theorem bG {w W : World} {g : Nat} {o : Obj} {C : Prop} (n : Aside0 C) (h : Aside0 (w.heap[g]? = some o)) (k : w.heap[g]? = some o → C → W.heap[g]? = some o := by intro h_ n_; (repeat (first | (with_reducible first | refine blk_drewN ?_ _ | refine blk_drew ?_ | refine blk_alloc ?_ _) | refine blk_far ?_ n_ _)); exact h_) : W.heap[g]? = some o := k h.out n.out
theorem bB {w w1 : World} {g : Nat} {o : Obj} (h : w.heap[g]? = some o) (hb : Below w.heap.size w w1) : Aside0 (w1.heap[g]? = some o) := ⟨blk_below h hb⟩
theorem bH {w W w2 : World} (h : Below w.heap.size w W) (k : Below W.heap.size W w2) : Aside0 (Below w.heap.size w w2) := ⟨below_step h k⟩
theorem cz {w : World} {g : Nat} {t : TypeId} {cs : Array Value} (h : Aside0 (w.heap[g]? = some (.cells cs t (0, 0)))) (i : Nat) (v : Value) (e : cs[i]? = some v := by rfl) : w.cell? ⟨g, i, none⟩ = some v := (blk_cell h.out i).trans e
theorem fz {w : World} {g : Nat} {t : TypeId} {cs : Array Value} (h : Aside0 (w.heap[g]? = some (.cells cs t (0, 0)))) (i : Nat) : w.frozen? ⟨g, i, none⟩ = false := blk_frozen h.out i
theorem lV1 {A0 B : Prop} (g0_ : Aside0 A0) (k : A0 → B := by intro g0_; repeat (first | (with_reducible first | exact HB.out | apply below_alloc | apply pw_below_drewN | apply below_drew1 | refine below_set ?_ g0_) | exact HB.out)) : B := k g0_.out
theorem lV2 {A0 A1 B : Prop} (g0_ : Aside0 A0) (g1_ : Aside0 A1) (k : A0 → A1 → B := by intro g0_ g1_; repeat (first | (with_reducible first | exact HB.out | apply below_alloc | apply pw_below_drewN | apply below_drew1 | refine below_set ?_ g0_ | refine below_set ?_ g1_) | exact HB.out)) : B := k g0_.out g1_.out
end Go.Proofs.YtndgkdnbacoenabW.PrintWords
