/- Texts of a row. -/
import Derived.Test.YthacmchmppnldaaZFnPieces0
import Derived.Deep.RegionLaw
import Derived.Lib.SliceRun
import Derived.Laws.Externs
import Derived.Lib.Bytealg
import Derived.Laws.CopyOwn
import Derived.Lib.Overlaps
import Derived.Lib.AppendZerosOnto
import Derived.Laws.AppendOwn
import Derived.Test.YthacmchmppnldaaZFnPieces1
import Derived.Test.YthacmchmppnldaaProg
import Derived.Below
import Derived.Deep.Draws
import Derived.Deep.AppendLies
import Derived.Maps.AppendAt
import Derived.OwnWalk
import Derived.Laws.BytesArg
import Derived.Laws.MakeOwn
import Derived.Laws.OwnMore
import Derived.Deep.OwnRows
import Derived.Tactics
import Derived.Lib.ConvBytes
import Derived.Laws.Slices
import Derived.WalkKit
import Derived.KernelRfl
import Derived.RowKit3
import Derived.Deep.LoopGhost
import Derived.Deep.QuietTactic
import Derived.BigQuiet
import Derived.WideLaws
import Derived.Deep.DeepCutAuto
import Derived.Deep.CutBlock
import Derived.Deep.RegionHeld3
import Derived.Laws.Rows
import Derived.Lib.AppendStr
import Derived.ArgAppend
import Derived.Laws.IdiomCopy
import Derived.OrdersHeld
import Derived.Laws.BitsLemmas
import Derived.RowKit
import Derived.Laws.Cover1
import Derived.Test.YthacmchmppnldaaZFnPieces2
namespace Go.Proofs.YthacmchmppnldaaW.PrintWords
open Go.RowKit
namespace Kd
section
variable {P : Program} {α : Type}
theorem zero_cells (z : Value) (sz m : Nat) (hz : z.cells.size = sz) (h1 : ∀ u ∈ z.cells.toList, u.oneCell' = true) : (Builtin.zeroCells z.cells m).toList.length = m * sz ∧ ∀ u ∈ (Builtin.zeroCells z.cells m).toList, u.oneCell' = true := by
  subst hz
  refine ⟨by simp [Builtin.zeroCells], fun u hu => ?_⟩
  simp only [Builtin.zeroCells, Array.toList_map, List.mem_map, Array.toList_range, List.mem_range] at hu
  obtain ⟨q, hq, rfl⟩ := hu
  have h0 : 0 < z.cells.size := by
    rcases Nat.eq_zero_or_pos z.cells.size with h | h
    · rw [h] at hq; omega
    · exact h
  have hlt : q % z.cells.size < z.cells.size := Nat.mod_lt _ h0
  rw [getElem!_pos z.cells _ hlt]
  exact h1 _ (Array.getElem_mem_toList hlt)
theorem R_clear_run (d : Kd α) {W : World} (base : Nat) (t ty e : TypeId) (i : TypeInfo) (z : Value) (ht : P.underlying t = some (.slice e)) (hi : P.info? e = some i) (hiz : i.zero = some z) (hz : z.cells.size = d.sz) (hz1 : ∀ u ∈ z.cells.toList, u.oneCell' = true)
    {g n c m cc : Nat} {xs : List α} {ok : Nat → Prop} (HO : d.R e W base ok (.slice (some ⟨g, 0, none⟩) n c) xs) (hm0 : 0 < m) (hm : n + m ≤ c) :
    ∃ w1, (Builtin.clear_ #[t] ty #[.slice (some ⟨g, n * d.sz, none⟩) m cc]).run P W = .ok (.tuple #[]) w1 ∧ d.R e w1 base ok (.slice (some ⟨g, 0, none⟩) n c) xs ∧ W.grownBy w1 (some g) := by
  obtain ⟨hn, hnc, _⟩ := R_reads' HO
  obtain ⟨hok, inner, hown, hr⟩ := HO
  have hin : inner.length = n * d.sz := by rw [hr.1, hn]
  rcases hown.2 with ⟨hv, _⟩ | ⟨g', cap', cur, hv, hb, hh, _, hcm, hcs, htake⟩
  · cases hv
  injection hv with ha _ hc
  injection ha with ha
  injection ha with hg
  subst hg; subst hc
  rw [← hn] at htake
  obtain ⟨zs, hzs⟩ : ∃ zs, zs = (Builtin.zeroCells z.cells m).toList := ⟨_, rfl⟩
  obtain ⟨hzl, hz2⟩ := zero_cells z d.sz m hz hz1
  rw [← hzs] at hzl hz2
  have hfit : n * d.sz + zs.length ≤ cur.size := by rw [hzl, hcs, ← Nat.add_mul]; exact Nat.mul_le_mul_right _ hm
  have hst := run_storeCells_cells (P := P) g (n * d.sz) zs 0 W (fun j hj => by rw [Nat.add_zero, cell_of_row W g _ cur e (0, 0) hh]; simp; omega) (fun j _ => blk_frozen hh _) hz2
  simp only [Nat.add_zero] at hst
  have hzv : (zeroValue e).run P W = .ok z W := by simp [zeroValue, typeInfo, hi, hiz]
  have hrun : (Builtin.clear_ #[t] ty #[.slice (some ⟨g, n * d.sz, none⟩) m cc]).run P W = .ok (.tuple #[]) (W.setCells g (n * d.sz) zs) := by
    rw [hzs] at hst ⊢
    obtain ⟨m', rfl⟩ : ∃ m', m = m' + 1 := ⟨m - 1, by omega⟩
    simp [Builtin.clear_, run_underlying ht, hzv, hst]
  obtain ⟨cur', h3, h4, h5⟩ := setCells_row zs (n * d.sz) W cur hh hfit
  obtain ⟨s1, s2, s3, s4⟩ := setCells_same g zs (n * d.sz) W
  have hfar : ∀ k', k' ≠ g → (W.setCells g (n * d.sz) zs).heap[k']? = W.heap[k']? := fun k' hk' => setCells_far zs _ k' hk'
  have hgo : ∀ m, some g = (Value.slice (some ⟨g, 0, none⟩) m c).ownBlock := fun m => by simp [Value.ownBlock]
  refine ⟨_, hrun, ⟨hok, inner, ⟨hown.1, .inr ⟨g, c, cur', by rw [hn], hb, h3, by rw [← hn]; exact hnc, hcm, by rw [h4, hcs], ?_⟩⟩, ?_⟩, ⟨s1, s2, s3, by rw [s4]; exact Nat.le_refl _, fun k' _ hk' => hfar k' (fun he => hk' (by rw [he]))⟩⟩
  · rw [← hn, h5]
    rw [List.append_assoc, List.take_append_of_le_length (by rw [List.length_take, Array.length_toList]; omega), List.take_take, Nat.min_self]
    exact htake
  · exact hr.imp_ fun p q hp => d.M_move (fun k' hk' => hfar k' (fun he => hk'.2 (by rw [he]; exact hgo _))) hp
end
end Kd
end Go.Proofs.YthacmchmppnldaaW.PrintWords
namespace Go.Proofs.YthacmchmppnldaaW.PrintLast
open Go.RowKit Go.Proofs.YthacmchmppnldaaW.PrintWords
def bz (n m : Nat) : Array Bool := ((List.range n).map fun i => m.testBit i).toArray
section
variable {P : Program} {ops : Array Oper} {Q : Exit → Act → World → Prop} {md : Region.Mode} {S : World → Prop} {ds : List Nat}
theorem pureA (i : Nat) (N : Tmp) {oi : Oper} {v : Value} {fuel : Nat} {l : Array Bool} {a : Act} {w : World} (l' : Array Bool) {a' : Act} (hi : ops[i]? = some oi) (hN : oi.dst = some N) (hc : anyB md ops l l' i = true) (h : wpAnyLast P md ops Q S ds fuel l' a' w)
    (hQ : ∀ c a w, Q (.panic c) (a.put oi.dst v) w → Q (.panic c) a w := by exact fun _ _ _ h => h) (hw : Region.wanted oi (yielded ops a.tmps) = true := by rfl)
    (hy : ∀ w, (execOp a.eval oi).run P w = .ok (.value v) w := by intro w'; go_simp; with_reducible rfl) (ha : a.put (some N) v = a' := by simp only [Act.put, List.setIfInBounds_toArray, List.set_cons_zero, List.set_cons_succ, i64_w, i32_w]; rfl) : wpAnyLast P md ops Q S ds (fuel + 1) l a w :=
  pure_ l' hi hN hc hQ (Or.inl ⟨hw, hy⟩) ha h
theorem pureU (i : Nat) (N : Tmp) {oi : Oper} {fuel : Nat} {l : Array Bool} {a : Act} {w : World} (l' : Array Bool) {a' : Act} (hi : ops[i]? = some oi) (hN : oi.dst = some N) (hc : anyB md ops l l' i = true) (h : wpAnyLast P md ops Q S ds fuel l' a' w)
    (hQ : ∀ c a w, Q (.panic c) (a.put oi.dst undef) w → Q (.panic c) a w := by exact fun _ _ _ h => h) (hw : Region.wanted oi (yielded ops a.tmps) = false := by rfl)
    (ha : a.put (some N) undef = a' := by simp only [Act.put, List.setIfInBounds_toArray, List.set_cons_zero, List.set_cons_succ, i64_w, i32_w]; rfl) : wpAnyLast P md ops Q S ds (fuel + 1) l a w :=
  pure_ l' hi hN hc hQ (Or.inr ⟨hw, rfl⟩) ha h
theorem takeA (i : Nat) (N : Tmp) {oi : Oper} {v : Value} {fuel : Nat} {l : Array Bool} {a : Act} {w : World} (l' : Array Bool) {a' : Act} (hi : ops[i]? = some oi) (hN : oi.dst = some N) (hc : takeB md ops ds l l' i = true) (hS : S w) (hy : ∀ w, S w → (execOp a.eval oi).run P w = .ok (.value v) w) (h : wpAnyLast P md ops Q S ds fuel l' a' w)
    (hQ : ∀ c a w, Q (.panic c) (a.put oi.dst v) w → Q (.panic c) a w := by exact fun _ _ _ h => h) (hw : Region.wanted oi (yielded ops a.tmps) = true := by rfl)
    (ha : a.put (some N) v = a' := by simp only [Act.put, List.setIfInBounds_toArray, List.set_cons_zero, List.set_cons_succ, i64_w, i32_w]; rfl) : wpAnyLast P md ops Q S ds (fuel + 1) l a w :=
  take_ l' hi hN hc hQ (Or.inl ⟨hw, hy⟩) hS ha h
end
end Go.Proofs.YthacmchmppnldaaW.PrintLast
namespace Go.Proofs.YthacmchmppnldaaW.PrintWords
open Go.RowKit
end Go.Proofs.YthacmchmppnldaaW.PrintWords
namespace Go.Proofs.YthacmchmppnldaaW.PrintWords
open Go.RowKit
section
variable {P : Program} {ops : Array Oper} {o : Oper} {a : Act} {Q : Exit → Act → World → Prop} {Kc : Act → World → Prop}
end
end Go.Proofs.YthacmchmppnldaaW.PrintWords
namespace Go.Proofs.YthacmchmppnldaaW.PrintWords
open Go.RowKit
namespace Kd
section
variable {α : Type} {d : Kd α} {e base : Nat} {ok : Nat → Prop} {W : World} {u : Value} {xs : List α} {PS : Nat → Prop} {L : List Nat}
end
end Kd
end Go.Proofs.YthacmchmppnldaaW.PrintWords
namespace Go.Proofs.YthacmchmppnldaaW.PrintWords
open Go.RowKit
end Go.Proofs.YthacmchmppnldaaW.PrintWords
set_option linter.unusedSimpArgs false
set_option linter.unusedVariables false
namespace Go
end Go
namespace Go.Proofs.YthacmchmppnldaaW.PrintWords
open Go.RowKit
namespace Kd
section
variable {P : Program} {α : Type}
def T (d : Kd α) (e : Nat) (W : World) (base : Nat) (ok : Nat → Prop) (g c : Nat) (pre : List α) : Prop :=
  ok g ∧ ∃ inner cur, base ≤ g ∧ W.heap[g]? = some (.cells cur e (0, 0)) ∧ cur.size = c * d.sz ∧ pre.length ≤ c ∧ c ≤ maxLen ∧ cur.toList.take (pre.length * d.sz) = inner ∧ Reps (d.M W base (fun k' => ok k' ∧ some k' ≠ some g)) d.sz pre inner
end
end Kd
end Go.Proofs.YthacmchmppnldaaW.PrintWords
namespace Go.Proofs.YthacmchmppnldaaW.PrintLast
section
variable {P : Program} {ops : Array Oper} {Q : Exit → Act → World → Prop} {md : Region.Mode} {S T : World → Prop} {ds : List Nat}
end
end Go.Proofs.YthacmchmppnldaaW.PrintLast
namespace Go.Proofs.Ythacmchmppnldaa.PFnPieces
open Go.RowKit Go.Proofs.YthacmchmppnldaaW.PrintWords Go.Proofs.YthacmchmppnldaaW.PrintLast Go.Proofs.YthacmchmppnldaaW.PrintMore
attribute [local go_sem] max2_int min2_int max_two min_two max_three min_three max_four min_four   -- for this text's walks alone
set_option linter.unusedVariables false
set_option linter.unusedSimpArgs false
def errW : Option Int → Value
 | none => .nilIface
 | some c => .iface 0 (.int .i64 c)
theorem errW_none : errW none = .nilIface := rfl
theorem errW_some (c : Int) : errW (some c) = .iface 0 (.int .i64 c) := rfl
theorem info47 : (Try.prog.info? 47).map (fun i => (i.zero, i.size, i.bytes)) = some (some (.agg #[(.int .i64 0), (.int .i64 0), (.int .i64 0), (.int .i64 0)]), 4, 32) := by kernel_rfl
theorem info50 : (Try.prog.info? 50).map (fun i => (i.zero, i.size, i.bytes)) = some (some (.agg #[(.int .i64 0), (.int .i64 0)]), 2, 16) := by kernel_rfl
structure S47 where
 f0 : Int
 f1 : Int
 f2 : Int
 f3 : Int
def z47 : S47 := ⟨(0 : Int), (0 : Int), (0 : Int), (0 : Int)⟩
def k47 : Kd S47 := Kd.iso (Kd.pair (Kd.int .i64) (Kd.pair (Kd.int .i64) (Kd.pair (Kd.int .i64) (Kd.int .i64)))) (fun x : S47 => (x.f0, x.f1, x.f2, x.f3))
theorem k47_open {w : World} {x : S47} {cs : List Value} (h : k47.K w x cs) : cs = [.int .i64 x.f0, .int .i64 x.f1, .int .i64 x.f2, .int .i64 x.f3] := by
 obtain ⟨_, _, rfl, rfl, ⟨_, _, rfl, rfl, ⟨_, _, rfl, rfl, rfl⟩⟩⟩ := h
 exact rfl
theorem k47_openM {w : World} {base : Nat} {ok : Nat → Prop} {x : S47} {cs : List Value} (h : k47.M w base ok x cs) : cs = [.int .i64 x.f0, .int .i64 x.f1, .int .i64 x.f2, .int .i64 x.f3] := by
 obtain ⟨_, _, rfl, rfl, ⟨_, _, rfl, rfl, ⟨_, _, rfl, rfl, rfl⟩⟩⟩ := h
 exact rfl
theorem k47_mkM (w : World) (base : Nat) (ok : Nat → Prop) (x : S47)  : k47.M w base ok x [.int .i64 x.f0, .int .i64 x.f1, .int .i64 x.f2, .int .i64 x.f3] := ⟨[.int .i64 x.f0], [.int .i64 x.f1, .int .i64 x.f2, .int .i64 x.f3], rfl, rfl, ⟨[.int .i64 x.f1], [.int .i64 x.f2, .int .i64 x.f3], rfl, rfl, ⟨[.int .i64 x.f2], [.int .i64 x.f3], rfl, rfl, rfl⟩⟩⟩
def rd_T47 (xs : List S47) (i : Int) : S47 := xs.getD i.toNat z47
theorem at_T47 {w : World} {A : Option Addr} {n : Nat} {xs : List S47} (h : Kd.C k47 w A n xs) (i : Int) (h0 : 0 ≤ i) (h1 : i < n) : ∃ ad , A = some ad ∧ w.cell? (ad.add (i.toNat * 4)) = some (.int .i64 (rd_T47 xs i).f0) ∧ w.cell? ⟨(ad.add (i.toNat * 4)).block, (ad.add (i.toNat * 4)).off + 1, none⟩ = some (.int .i64 (rd_T47 xs i).f1) ∧ w.cell? ⟨(ad.add (i.toNat * 4)).block, (ad.add (i.toNat * 4)).off + 2, none⟩ = some (.int .i64 (rd_T47 xs i).f2) ∧ w.cell? ⟨(ad.add (i.toNat * 4)).block, (ad.add (i.toNat * 4)).off + 3, none⟩ = some (.int .i64 (rd_T47 xs i).f3) := by
 obtain ⟨ad, c, e, _, hK, hc0⟩ := Kd.C_get h z47 i h0 h1
 have hc : ∀ j u, c[j]? = some u → w.cell? (ad.add (i.toNat * 4 + j)) = some u := hc0
 obtain rfl := k47_open hK
 exact ⟨ad, e, hc 0 _ rfl, by rw [← add_field _ _ 1 (by omega)]; exact hc 1 _ rfl, by rw [← add_field _ _ 2 (by omega)]; exact hc 2 _ rfl, by rw [← add_field _ _ 3 (by omega)]; exact hc 3 _ rfl⟩
structure S50 where
 f0 : Int
 f1 : Int
def z50 : S50 := ⟨(0 : Int), (0 : Int)⟩
def k50 : Kd S50 := Kd.iso (Kd.pair (Kd.int .i64) (Kd.int .i64)) (fun x : S50 => (x.f0, x.f1))
theorem k50_open {w : World} {x : S50} {cs : List Value} (h : k50.K w x cs) : cs = [.int .i64 x.f0, .int .i64 x.f1] := by
 obtain ⟨_, _, rfl, rfl, rfl⟩ := h
 exact rfl
theorem k50_mkM (w : World) (base : Nat) (ok : Nat → Prop) (x : S50)  : k50.M w base ok x [.int .i64 x.f0, .int .i64 x.f1] := ⟨[.int .i64 x.f0], [.int .i64 x.f1], rfl, rfl, rfl⟩
def rd_T50 (xs : List S50) (i : Int) : S50 := xs.getD i.toNat z50
theorem at_T50 {w : World} {A : Option Addr} {n : Nat} {xs : List S50} (h : Kd.C k50 w A n xs) (i : Int) (h0 : 0 ≤ i) (h1 : i < n) : ∃ ad , A = some ad ∧ w.cell? (ad.add (i.toNat * 2)) = some (.int .i64 (rd_T50 xs i).f0) ∧ w.cell? ⟨(ad.add (i.toNat * 2)).block, (ad.add (i.toNat * 2)).off + 1, none⟩ = some (.int .i64 (rd_T50 xs i).f1) := by
 obtain ⟨ad, c, e, _, hK, hc0⟩ := Kd.C_get h z50 i h0 h1
 have hc : ∀ j u, c[j]? = some u → w.cell? (ad.add (i.toNat * 2 + j)) = some u := hc0
 obtain rfl := k50_open hK
 exact ⟨ad, e, hc 0 _ rfl, by rw [← add_field _ _ 1 (by omega)]; exact hc 1 _ rfl⟩
end Go.Proofs.Ythacmchmppnldaa.PFnPieces
namespace Go.Proofs.Ythacmchmppnldaa.PFnPieces
open Go.RowKit Go.Proofs.YthacmchmppnldaaW.PrintWords Go.Proofs.YthacmchmppnldaaW.PrintLast Go.Proofs.YthacmchmppnldaaW.PrintMore
attribute [local go_sem] max2_int min2_int max_two min_two max_three min_three max_four min_four   -- for this text's walks alone
set_option linter.unusedVariables false
set_option linter.unusedSimpArgs false
theorem eqA47 (d : Nat) (w : World) (x0 y0 : Int) (x1 y1 : Int) (x2 y2 : Int) (x3 y3 : Int) :
  (Op.equalIn (d + 2) 47 (.agg #[.int .i64 x0, .int .i64 x1, .int .i64 x2, .int .i64 x3]) (.agg #[.int .i64 y0, .int .i64 y1, .int .i64 y2, .int .i64 y3])).run Try.prog w = .ok (x0 == y0 && (x1 == y1 && (x2 == y2 && (x3 == y3)))) w := by
 refine eqA_of Try.underlying47 (by kernel_rfl) ?_
 refine eqf_cons (by rfl) (by go_simp; rfl) (by go_simp; rfl) (by go_simp) ?_
 refine eqf_cons (by rfl) (by go_simp; rfl) (by go_simp; rfl) (by go_simp) ?_
 refine eqf_cons (by rfl) (by go_simp; rfl) (by go_simp; rfl) (by go_simp) ?_
 exact eqf_last (by rfl) (by go_simp; rfl) (by go_simp; rfl) (by go_simp)
end Go.Proofs.Ythacmchmppnldaa.PFnPieces
namespace Go.Proofs.Ythacmchmppnldaa.PFnPieces
open Go.RowKit Go.Proofs.YthacmchmppnldaaW.PrintWords Go.Proofs.YthacmchmppnldaaW.PrintLast Go.Proofs.YthacmchmppnldaaW.PrintMore
attribute [local go_sem] max2_int min2_int max_two min_two max_three min_three max_four min_four   -- for this text's walks alone
set_option linter.unusedVariables false
set_option linter.unusedSimpArgs false
theorem eqA50 (d : Nat) (w : World) (x0 y0 : Int) (x1 y1 : Int) :
  (Op.equalIn (d + 2) 50 (.agg #[.int .i64 x0, .int .i64 x1]) (.agg #[.int .i64 y0, .int .i64 y1])).run Try.prog w = .ok (x0 == y0 && (x1 == y1)) w := by
 refine eqA_of Try.underlying50 (by kernel_rfl) ?_
 refine eqf_cons (by rfl) (by go_simp; rfl) (by go_simp; rfl) (by go_simp) ?_
 exact eqf_last (by rfl) (by go_simp; rfl) (by go_simp; rfl) (by go_simp)
end Go.Proofs.Ythacmchmppnldaa.PFnPieces
namespace Go.Proofs.Ythacmchmppnldaa.PFnPieces
open Go.RowKit Go.Proofs.YthacmchmppnldaaW.PrintWords Go.Proofs.YthacmchmppnldaaW.PrintLast Go.Proofs.YthacmchmppnldaaW.PrintMore
attribute [local go_sem] max2_int min2_int max_two min_two max_three min_three max_four min_four   -- for this text's walks alone
set_option linter.unusedVariables false
set_option linter.unusedSimpArgs false
def IsS37 (w0 W : World) (g : Nat) (f0 : List Int) (f1 : Int) (f2 : Int) : Prop := ∃ A0 c0, W.heap[g]? = some (.cells #[.slice A0 f0.length c0, .int .i64 f1, .int .u64 f2] 37 (0, 0)) ∧ w0.heap.size ≤ g ∧ Kd.C (Kd.int .u8) w0 A0 f0.length f0
theorem IsS37.grown {w0 W : World} {g : Nat} {f0 : List Int} {f1 : Int} {f2 : Int} {W1 : World} {row : Option Nat} (h : IsS37 w0 W g f0 f1 f2) (hw : W.grownBy W1 row) (hne : some g ≠ row) : IsS37 w0 W1 g f0 f1 f2 := by
 obtain ⟨A0, c0, hb, hg, hr0⟩ := h
 exact ⟨A0, c0, blk_grown hb hw hne, hg, hr0⟩
theorem IsS37.kept {w0 W : World} {g : Nat} {f0 : List Int} {f1 : Int} {f2 : Int} {W1 : World} {S : Nat → Prop} (h : IsS37 w0 W g f0 f1 f2) (hk : Kept W W1 S) (hne : ¬ S g) : IsS37 w0 W1 g f0 f1 f2 := by
 obtain ⟨A0, c0, hb, hg, hr0⟩ := h
 exact ⟨A0, c0, blk_kept hb hk hne, hg, hr0⟩
theorem IsS37.below {w0 W : World} {g : Nat} {f0 : List Int} {f1 : Int} {f2 : Int} {W1 : World} (h : IsS37 w0 W g f0 f1 f2) (hw : Below W.heap.size W W1) : IsS37 w0 W1 g f0 f1 f2 := h.grown (grown_of_below hw none) (by simp)
theorem IsS37.alloc {w0 W : World} {g : Nat} {f0 : List Int} {f1 : Int} {f2 : Int} (h : IsS37 w0 W g f0 f1 f2) (o : Obj) : IsS37 w0 (W.alloc o) g f0 f1 f2 := h.below (below_alloc (Below.refl _ _) o)
theorem IsS37.drewN {w0 W : World} {g : Nat} {f0 : List Int} {f1 : Int} {f2 : Int} (h : IsS37 w0 W g f0 f1 f2) (m : Nat) : IsS37 w0 (W.drewN m) g f0 f1 f2 := h
theorem IsS37.drew {w0 W : World} {g : Nat} {f0 : List Int} {f1 : Int} {f2 : Int} (h : IsS37 w0 W g f0 f1 f2) : IsS37 w0 W.drew g f0 f1 f2 := h
theorem IsS37.at_ {w0 W : World} {g : Nat} {f0 : List Int} {f1 : Int} {f2 : Int} {w' : World} {m : Nat} (hq : W.drewN m = w') (h : IsS37 w0 W g f0 f1 f2) : IsS37 w0 w' g f0 f1 f2 := by subst hq; exact IsS37.drewN h m
theorem IsS37.apart {w0 W : World} {g : Nat} {f0 : List Int} {f1 : Int} {f2 : Int} {α : Type} {d : Kd α} {e : Nat} {base : Nat} {ok : Nat → Prop} {v : Value} {xs : List α} (h : IsS37 w0 W g f0 f1 f2) (ho : d.R e W base ok v xs) (ht : ∀ q, q ∈ e :: d.E → q ≠ 37) : d.R e W base (fun k => ok k ∧ k ≠ g) v xs := by
 obtain ⟨A0, c0, hb, hg, hr0⟩ := h
 exact Kd.R_types ho hb ht
theorem IsS37.own_ne {w0 W : World} {g : Nat} {f0 : List Int} {f1 : Int} {f2 : Int} {α : Type} {d : Kd α} {e : Nat} {base : Nat} {ok : Nat → Prop} {v : Value} {xs : List α} (h : IsS37 w0 W g f0 f1 f2) (ho : d.R e W base ok v xs) (ht : e ≠ 37) : some g ≠ v.ownBlock := by
 obtain ⟨A0, c0, hb, hg, hr0⟩ := h
 exact Kd.R_ne ho hb ht
theorem IsS37.lt {w0 W : World} {g : Nat} {f0 : List Int} {f1 : Int} {f2 : Int} (h : IsS37 w0 W g f0 f1 f2) : g < W.heap.size := by
 obtain ⟨A0, c0, hb, hg, hr0⟩ := h
 exact blk_lt hb
theorem IsS37.ge {w0 W : World} {g : Nat} {f0 : List Int} {f1 : Int} {f2 : Int} (h : IsS37 w0 W g f0 f1 f2) : w0.heap.size ≤ g := by
 obtain ⟨A0, c0, hb, hg, hr0⟩ := h
 exact hg
theorem IsS37.far {w0 W : World} {g : Nat} {f0 : List Int} {f1 : Int} {f2 : Int} {p : Addr} (h : IsS37 w0 W g f0 f1 f2) (hne : g ≠ p.block) (u : Value) : IsS37 w0 (W.setCell p u) g f0 f1 f2 := by
 obtain ⟨A0, c0, hb, hg, hr0⟩ := h
 exact ⟨A0, c0, blk_far hb hne u, hg, hr0⟩
theorem cellS37_0 {W : World} {g : Nat} {A0 : Option Addr} {c0 : Nat} {f0 : List Int} {f1 : Int} {f2 : Int} (h : W.heap[g]? = some (.cells #[.slice A0 f0.length c0, .int .i64 f1, .int .u64 f2] 37 (0, 0))) : W.cell? ⟨g, 0, none⟩ = some (.slice A0 f0.length c0) := (blk_cell h 0).trans rfl
theorem cellS37_1 {W : World} {g : Nat} {A0 : Option Addr} {c0 : Nat} {f0 : List Int} {f1 : Int} {f2 : Int} (h : W.heap[g]? = some (.cells #[.slice A0 f0.length c0, .int .i64 f1, .int .u64 f2] 37 (0, 0))) : W.cell? ⟨g, 1, none⟩ = some (.int .i64 f1) := (blk_cell h 1).trans rfl
theorem IsS37.set_1 {w0 W : World} {g : Nat} {f0 : List Int} {f1 : Int} {f2 : Int} (h : IsS37 w0 W g f0 f1 f2) (x : Int) : IsS37 w0 (W.setCell ⟨g, 1, none⟩ (.int .i64 x)) g f0 x f2 := by
 obtain ⟨A0, c0, hb, hg, hr0⟩ := h
 exact ⟨A0, c0, by simpa using blk_set hb 1 (.int .i64 x), hg, hr0⟩
theorem cellS37_2 {W : World} {g : Nat} {A0 : Option Addr} {c0 : Nat} {f0 : List Int} {f1 : Int} {f2 : Int} (h : W.heap[g]? = some (.cells #[.slice A0 f0.length c0, .int .i64 f1, .int .u64 f2] 37 (0, 0))) : W.cell? ⟨g, 2, none⟩ = some (.int .u64 f2) := (blk_cell h 2).trans rfl
theorem IsS37.set_2 {w0 W : World} {g : Nat} {f0 : List Int} {f1 : Int} {f2 : Int} (h : IsS37 w0 W g f0 f1 f2) (x : Int) : IsS37 w0 (W.setCell ⟨g, 2, none⟩ (.int .u64 x)) g f0 f1 x := by
 obtain ⟨A0, c0, hb, hg, hr0⟩ := h
 exact ⟨A0, c0, by simpa using blk_set hb 2 (.int .u64 x), hg, hr0⟩
def spec_l1Cur_next.f (s0_0 : List Int) (s0_1 : Int) (s0_2 : Int) : Option (Int × Int × Int) := if s0_1 < (s0_0.length : Int) then (if 0 ≤ s0_1 then (if (wrap64 (s0_1 + 1)) ≤ (s0_0.length : Int) then (some (wrap64 (rd s0_0 s0_1), wrap64 (s0_1 + 1), IntKind.u64.wrap ((IntKind.u64.wrap ((IntKind.u64.wrap (s0_2 * 6364136223846793005)) + (IntKind.u64.wrap (wrap64 (rd s0_0 s0_1))))) + 1442695040888963407))) else (some (wrap64 (Go.bits .and .u64 ((IntKind.u64.wrap ((IntKind.u64.wrap ((IntKind.u64.wrap (s0_2 * 6364136223846793005)) + (IntKind.u64.wrap (wrap64 (rd s0_0 s0_1))))) + 1442695040888963407)) / 1099511627776) 255), wrap64 (s0_1 + 1), IntKind.u64.wrap ((IntKind.u64.wrap ((IntKind.u64.wrap (s0_2 * 6364136223846793005)) + (IntKind.u64.wrap (wrap64 (rd s0_0 s0_1))))) + 1442695040888963407)))) else (none)) else (if (wrap64 (s0_1 + 1)) ≤ (s0_0.length : Int) then (some (0, wrap64 (s0_1 + 1), IntKind.u64.wrap ((IntKind.u64.wrap ((IntKind.u64.wrap (s0_2 * 6364136223846793005)))) + 1442695040888963407))) else (some (wrap64 (Go.bits .and .u64 ((IntKind.u64.wrap ((IntKind.u64.wrap ((IntKind.u64.wrap (s0_2 * 6364136223846793005)))) + 1442695040888963407)) / 1099511627776) 255), wrap64 (s0_1 + 1), IntKind.u64.wrap ((IntKind.u64.wrap ((IntKind.u64.wrap (s0_2 * 6364136223846793005)))) + 1442695040888963407))))
set_option maxHeartbeats 8000000 in
set_option maxRecDepth 100000 in
theorem spec_l1Cur_next.calls (g : Nat) (s0_0 : List Int) (s0_1 : Int) (s0_2 : Int) (r1 : Int) (r2 : Int) (r3 : Int) (w0 w : World) (hI : IsS37 w0 w g s0_0 s0_1 s0_2) (hB : Below w0.heap.size w0 w) (h : spec_l1Cur_next.f s0_0 s0_1 s0_2 = some (r1, r2, r3)) :
  Calls Try.prog 21 #[.pointer (some ⟨g, 0, none⟩)] w fun e w' => e = .returned (.int .i64 r1) ∧ IsS37 w0 w' g s0_0 r2 r3 ∧ Below w0.heap.size w0 w' ∧ KeepBut w w' g none := by
 have HI0 := Aside0.mk hI
 have HK := Aside0.mk (KeepBut.refl w g none)
 have HL := Aside0.mk hB.size
 clear hI
 have HW0 := Aside0.mk hB.size
 have HB := Aside0.mk hB
 clear hB
 have H : (if s0_1 < (s0_0.length : Int) then (if 0 ≤ s0_1 then (if (wrap64 (s0_1 + 1)) ≤ (s0_0.length : Int) then (some (wrap64 (rd s0_0 s0_1), wrap64 (s0_1 + 1), IntKind.u64.wrap ((IntKind.u64.wrap ((IntKind.u64.wrap (s0_2 * 6364136223846793005)) + (IntKind.u64.wrap (wrap64 (rd s0_0 s0_1))))) + 1442695040888963407))) else (some (wrap64 (Go.bits .and .u64 ((IntKind.u64.wrap ((IntKind.u64.wrap ((IntKind.u64.wrap (s0_2 * 6364136223846793005)) + (IntKind.u64.wrap (wrap64 (rd s0_0 s0_1))))) + 1442695040888963407)) / 1099511627776) 255), wrap64 (s0_1 + 1), IntKind.u64.wrap ((IntKind.u64.wrap ((IntKind.u64.wrap (s0_2 * 6364136223846793005)) + (IntKind.u64.wrap (wrap64 (rd s0_0 s0_1))))) + 1442695040888963407)))) else (none)) else (if (wrap64 (s0_1 + 1)) ≤ (s0_0.length : Int) then (some (0, wrap64 (s0_1 + 1), IntKind.u64.wrap ((IntKind.u64.wrap ((IntKind.u64.wrap (s0_2 * 6364136223846793005)))) + 1442695040888963407))) else (some (wrap64 (Go.bits .and .u64 ((IntKind.u64.wrap ((IntKind.u64.wrap ((IntKind.u64.wrap (s0_2 * 6364136223846793005)))) + 1442695040888963407)) / 1099511627776) 255), wrap64 (s0_1 + 1), IntKind.u64.wrap ((IntKind.u64.wrap ((IntKind.u64.wrap (s0_2 * 6364136223846793005)))) + 1442695040888963407))))) = some (r1, r2, r3) := h
 clear h
 by_cases c2 : s0_1 < (s0_0.length : Int)
 ·rw [if_pos c2] at H
  have c2b0 : decide (s0_1 < (s0_0.length : Int)) = true := decide_eq_true c2
  clear c2
  by_cases c3 : 0 ≤ s0_1
  ·rw [if_pos c3] at H
   have c3b0 : decide (0 ≤ s0_1) = true := decide_eq_true c3
   clear c3
   by_cases c4 : (wrap64 (s0_1 + 1)) ≤ (s0_0.length : Int)
   ·rw [if_pos c4] at H
    have c4b0 : decide ((wrap64 (s0_1 + 1)) ≤ (s0_0.length : Int)) = true := decide_eq_true c4
    clear c4
    simp only [Option.some.injEq, Prod.mk.injEq] at H
    obtain ⟨rfl, rfl, rfl⟩ := H
    obtain ⟨ASz5_0, cSz5_0, HGz5, hgz5, HSz5_0⟩ := HI0.out
    have hcz5_0 := cellS37_0 HGz5
    have hcz5_1 := cellS37_1 HGz5
    have hcz5_2 := cellS37_2 HGz5
    have hfz5_1 := blk_frozen HGz5 1
    have hfz5_2 := blk_frozen HGz5 2
    clear HGz5 hgz5
    have p101 : 0 ≤ (s0_1 : Int) := of_decide_eq_true hE
    have q101 : s0_1 < (s0_0.length : Int) := of_decide_eq_true hE
    obtain ⟨ad101, e101, hx101_0⟩ := Kd.at_int HSz5_0 s0_1 p101 q101
    cases e101
    replace hx101_0 := pw_cell_below HB.out hx101_0
    replace p101 := eq_true p101
    replace q101 := eq_true q101
    go_enter Try.func21, Try.ntmps21
    go_wp2
    repeat (go_quiet (fail); try go_wp2)
    go_ret
    exact ⟨eE, by repeat (first | (with_reducible first | exact HI0.out | apply IsS37.alloc | apply IsS37.drewN | apply IsS37.drew | apply IsS37.set_1 | apply IsS37.set_2) | exact HI0.out), by repeat (first | (with_reducible first | exact HB.out | apply below_alloc | apply pw_below_drewN | apply below_drew1 | refine below_set ?_ (IsS37.ge HI0.out)) | exact HB.out), by repeat (first | (with_reducible first | exact HK.out | apply KeepBut.set_ | apply keep_drewN | apply keep_drew | apply keep_alloc) | exact HK.out)⟩
   ·rw [if_neg c4] at H
    have c4b0 : decide ((wrap64 (s0_1 + 1)) ≤ (s0_0.length : Int)) = false := decide_eq_false c4
    clear c4
    simp only [Option.some.injEq, Prod.mk.injEq] at H
    obtain ⟨rfl, rfl, rfl⟩ := H
    obtain ⟨ASz6_0, cSz6_0, HGz6, hgz6, HSz6_0⟩ := HI0.out
    have hcz6_0 := cellS37_0 HGz6
    have hcz6_1 := cellS37_1 HGz6
    have hcz6_2 := cellS37_2 HGz6
    have hfz6_1 := blk_frozen HGz6 1
    have hfz6_2 := blk_frozen HGz6 2
    clear HGz6 hgz6
    have p101 : 0 ≤ (s0_1 : Int) := of_decide_eq_true hE
    have q101 : s0_1 < (s0_0.length : Int) := of_decide_eq_true hE
    obtain ⟨ad101, e101, hx101_0⟩ := Kd.at_int HSz6_0 s0_1 p101 q101
    cases e101
    replace hx101_0 := pw_cell_below HB.out hx101_0
    replace p101 := eq_true p101
    replace q101 := eq_true q101
    go_enter Try.func21, Try.ntmps21
    go_wp2
    repeat (go_quiet (fail); try go_wp2)
    go_ret
    exact ⟨eE, by repeat (first | (with_reducible first | exact HI0.out | apply IsS37.alloc | apply IsS37.drewN | apply IsS37.drew | apply IsS37.set_1 | apply IsS37.set_2) | exact HI0.out), by repeat (first | (with_reducible first | exact HB.out | apply below_alloc | apply pw_below_drewN | apply below_drew1 | refine below_set ?_ (IsS37.ge HI0.out)) | exact HB.out), by repeat (first | (with_reducible first | exact HK.out | apply KeepBut.set_ | apply keep_drewN | apply keep_drew | apply keep_alloc) | exact HK.out)⟩
  ·rw [if_neg c3] at H
   exact absurd H (by simp)
 ·rw [if_neg c2] at H
  have c2b0 : decide (s0_1 < (s0_0.length : Int)) = false := decide_eq_false c2
  clear c2
  by_cases c7 : (wrap64 (s0_1 + 1)) ≤ (s0_0.length : Int)
  ·rw [if_pos c7] at H
   have c7b0 : decide ((wrap64 (s0_1 + 1)) ≤ (s0_0.length : Int)) = true := decide_eq_true c7
   clear c7
   simp only [Option.some.injEq, Prod.mk.injEq] at H
   obtain ⟨rfl, rfl, rfl⟩ := H
   obtain ⟨ASz8_0, cSz8_0, HGz8, hgz8, HSz8_0⟩ := HI0.out
   have hcz8_0 := cellS37_0 HGz8
   have hcz8_1 := cellS37_1 HGz8
   have hcz8_2 := cellS37_2 HGz8
   have hfz8_1 := blk_frozen HGz8 1
   have hfz8_2 := blk_frozen HGz8 2
   clear HGz8 hgz8
   go_enter Try.func21, Try.ntmps21
   go_wp2
   repeat (go_quiet (fail); try go_wp2)
   go_ret
   exact ⟨eE, by repeat (first | (with_reducible first | exact HI0.out | apply IsS37.alloc | apply IsS37.drewN | apply IsS37.drew | apply IsS37.set_1 | apply IsS37.set_2) | exact HI0.out), by repeat (first | (with_reducible first | exact HB.out | apply below_alloc | apply pw_below_drewN | apply below_drew1 | refine below_set ?_ (IsS37.ge HI0.out)) | exact HB.out), by repeat (first | (with_reducible first | exact HK.out | apply KeepBut.set_ | apply keep_drewN | apply keep_drew | apply keep_alloc) | exact HK.out)⟩
  ·rw [if_neg c7] at H
   have c7b0 : decide ((wrap64 (s0_1 + 1)) ≤ (s0_0.length : Int)) = false := decide_eq_false c7
   clear c7
   simp only [Option.some.injEq, Prod.mk.injEq] at H
   obtain ⟨rfl, rfl, rfl⟩ := H
   obtain ⟨ASz9_0, cSz9_0, HGz9, hgz9, HSz9_0⟩ := HI0.out
   have hcz9_0 := cellS37_0 HGz9
   have hcz9_1 := cellS37_1 HGz9
   have hcz9_2 := cellS37_2 HGz9
   have hfz9_1 := blk_frozen HGz9 1
   have hfz9_2 := blk_frozen HGz9 2
   clear HGz9 hgz9
   go_enter Try.func21, Try.ntmps21
   go_wp2
   repeat (go_quiet (fail); try go_wp2)
   go_ret
   exact ⟨eE, by repeat (first | (with_reducible first | exact HI0.out | apply IsS37.alloc | apply IsS37.drewN | apply IsS37.drew | apply IsS37.set_1 | apply IsS37.set_2) | exact HI0.out), by repeat (first | (with_reducible first | exact HB.out | apply below_alloc | apply pw_below_drewN | apply below_drew1 | refine below_set ?_ (IsS37.ge HI0.out)) | exact HB.out), by repeat (first | (with_reducible first | exact HK.out | apply KeepBut.set_ | apply keep_drewN | apply keep_drew | apply keep_alloc) | exact HK.out)⟩
def spec_l1Cur_pick.f (s0_0 : List Int) (s0_1 : Int) (s0_2 : Int) (a1 : Int) : Option (Int × Int × Int) := if a1 ≤ 1 then (some (0, s0_1, s0_2)) else ((spec_l1Cur_next.f s0_0 s0_1 s0_2).bind fun bt102 => (if a1 > 200 then ((spec_l1Cur_next.f s0_0 bt102.2.1 bt102.2.2).bind fun bt105 => (if a1 = 0 then (none) else (some (Int.tmod (wrap64 ((wrap64 (bt102.1 * 256)) + bt105.1)) a1, bt105.2.1, bt105.2.2)))) else (if a1 = 0 then (none) else (some (Int.tmod bt102.1 a1, bt102.2.1, bt102.2.2)))))
set_option maxHeartbeats 8000000 in
set_option maxRecDepth 100000 in
theorem spec_l1Cur_pick.calls (g : Nat) (s0_0 : List Int) (s0_1 : Int) (s0_2 : Int) (a1 : Int) (r1 : Int) (r2 : Int) (r3 : Int) (w0 w : World) (hI : IsS37 w0 w g s0_0 s0_1 s0_2) (hB : Below w0.heap.size w0 w) (h : spec_l1Cur_pick.f s0_0 s0_1 s0_2 a1 = some (r1, r2, r3)) :
  Calls Try.prog 10 #[.pointer (some ⟨g, 0, none⟩), .int .i64 a1] w fun e w' => e = .returned (.int .i64 r1) ∧ IsS37 w0 w' g s0_0 r2 r3 ∧ Below w0.heap.size w0 w' ∧ KeepBut w w' g none := by
 have HI0 := Aside0.mk hI
 have HK := Aside0.mk (KeepBut.refl w g none)
 have HL := Aside0.mk hB.size
 clear hI
 have HW0 := Aside0.mk hB.size
 have HB := Aside0.mk hB
 clear hB
 have H : (if a1 ≤ 1 then (some (0, s0_1, s0_2)) else ((spec_l1Cur_next.f s0_0 s0_1 s0_2).bind fun bt102 => (if a1 > 200 then ((spec_l1Cur_next.f s0_0 bt102.2.1 bt102.2.2).bind fun bt105 => (if a1 = 0 then (none) else (some (Int.tmod (wrap64 ((wrap64 (bt102.1 * 256)) + bt105.1)) a1, bt105.2.1, bt105.2.2)))) else (if a1 = 0 then (none) else (some (Int.tmod bt102.1 a1, bt102.2.1, bt102.2.2)))))) = some (r1, r2, r3) := h
 clear h
 by_cases c3 : a1 ≤ 1
 ·rw [if_pos c3] at H
  have c3b0 : decide (a1 ≤ 1) = true := decide_eq_true c3
  clear c3
  simp only [Option.some.injEq, Prod.mk.injEq] at H
  obtain ⟨rfl, rfl, rfl⟩ := H
  go_enter Try.func10, Try.ntmps10
  go_wp2
  go_ret
  exact ⟨eE, by repeat (first | (with_reducible first | exact HI0.out | apply IsS37.alloc | apply IsS37.drewN | apply IsS37.drew | apply IsS37.set_1 | apply IsS37.set_2) | exact HI0.out), by repeat (first | (with_reducible first | exact HB.out | apply below_alloc | apply pw_below_drewN | apply below_drew1 | refine below_set ?_ (IsS37.ge HI0.out)) | exact HB.out), by repeat (first | (with_reducible first | exact HK.out | apply KeepBut.set_ | apply keep_drewN | apply keep_drew | apply keep_alloc) | exact HK.out)⟩
 ·rw [if_neg c3] at H
  have c3b0 : decide (a1 ≤ 1) = false := decide_eq_false c3
  clear c3
  replace H := Option.bind_eq_some_iff.mp H
  obtain ⟨⟨t102, t103, t104⟩, A40, H⟩ := H
  replace H : (if a1 > 200 then ((spec_l1Cur_next.f s0_0 t103 t104).bind fun bt105 => (if a1 = 0 then (none) else (some (Int.tmod (wrap64 ((wrap64 (t102 * 256)) + bt105.1)) a1, bt105.2.1, bt105.2.2)))) else (if a1 = 0 then (none) else (some (Int.tmod t102 a1, t103, t104)))) = some (r1, r2, r3) := H
  have A4 := Aside0.mk A40
  clear A40
  by_cases c5 : a1 > 200
  ·rw [if_pos c5] at H
   have c5b0 : decide (200 < a1) = true := decide_eq_true c5
   clear c5
   replace H := Option.bind_eq_some_iff.mp H
   obtain ⟨⟨t105, t106, t107⟩, A60, H⟩ := H
   replace H : (if a1 = 0 then (none) else (some (Int.tmod (wrap64 ((wrap64 (t102 * 256)) + t105)) a1, t106, t107))) = some (r1, r2, r3) := H
   have A6 := Aside0.mk A60
   clear A60
   by_cases c7 : a1 = 0
   ·rw [if_pos c7] at H
    exact absurd H (by simp)
   ·rw [if_neg c7] at H
    have c7b0 : (a1 == 0) = false := beq_eq_false_iff_ne.mpr c7
    have c7b1 : (a1 != 0) = true := bne_iff_ne.mpr c7
    simp only [Option.some.injEq, Prod.mk.injEq] at H
    obtain ⟨rfl, rfl, rfl⟩ := H
    go_enter Try.func10, Try.ntmps10
    go_wp2_with (first | ((with_reducible refine gate_callee (f := 21) rfl ?_); refine goesL_ (some 9) rfl rfl Try.func21 (by kernel_rfl) rfl #[.pointer (some ⟨g, 0, none⟩)] rfl aE ?_; (with_reducible refine (spec_l1Cur_next.calls g s0_0 s0_1 s0_2 t102 t103 t104 w0 _ ?side1 ?side2 A4.out).mono ?_); (case side1 => repeat (first | (with_reducible first | exact HI0.out | apply IsS37.alloc | apply IsS37.drewN | apply IsS37.drew | apply IsS37.set_1 | apply IsS37.set_2) | exact HI0.out)); (case side2 => repeat (first | (with_reducible first | exact HB.out | apply below_alloc | apply pw_below_drewN | apply below_drew1 | refine below_set ?_ (IsS37.ge HI0.out)) | exact HB.out)); rintro e w8 ⟨rfl, hi, hb, hk⟩; refine ⟨_, rfl, ?_⟩; replace HK := Aside0.mk (KeepBut.trans (by repeat (first | (with_reducible first | exact HK.out | apply KeepBut.set_ | apply keep_drewN | apply keep_drew | apply keep_alloc) | exact HK.out)) hk (.inl rfl)); replace HB := Aside0.mk hb; replace HI0 := Aside0.mk hi; (try clear hb); (try clear hk); (try clear hi)) | ((with_reducible refine gate_callee (f := 21) rfl ?_); refine goesL_ (some 15) rfl rfl Try.func21 (by kernel_rfl) rfl #[.pointer (some ⟨g, 0, none⟩)] rfl aE ?_; (with_reducible refine (spec_l1Cur_next.calls g s0_0 t103 t104 t105 t106 t107 w0 _ ?side1 ?side2 A6.out).mono ?_); (case side1 => repeat (first | (with_reducible first | exact HI0.out | apply IsS37.alloc | apply IsS37.drewN | apply IsS37.drew | apply IsS37.set_1 | apply IsS37.set_2) | exact HI0.out)); (case side2 => repeat (first | (with_reducible first | exact HB.out | apply below_alloc | apply pw_below_drewN | apply below_drew1 | refine below_set ?_ (IsS37.ge HI0.out)) | exact HB.out)); rintro e w9 ⟨rfl, hi, hb, hk⟩; refine ⟨_, rfl, ?_⟩; replace HK := Aside0.mk (KeepBut.trans (by repeat (first | (with_reducible first | exact HK.out | apply KeepBut.set_ | apply keep_drewN | apply keep_drew | apply keep_alloc) | exact HK.out)) hk (.inl rfl)); replace HB := Aside0.mk hb; replace HI0 := Aside0.mk hi; (try clear hb); (try clear hk); (try clear hi)))
    go_ret
    exact ⟨eE, by repeat (first | (with_reducible first | exact HI0.out | apply IsS37.alloc | apply IsS37.drewN | apply IsS37.drew | apply IsS37.set_1 | apply IsS37.set_2) | exact HI0.out), by repeat (first | (with_reducible first | exact HB.out | apply below_alloc | apply pw_below_drewN | apply below_drew1 | refine below_set ?_ (IsS37.ge HI0.out)) | exact HB.out), by repeat (first | (with_reducible first | exact HK.out | apply KeepBut.set_ | apply keep_drewN | apply keep_drew | apply keep_alloc) | exact HK.out)⟩
  ·rw [if_neg c5] at H
   have c5b0 : decide (200 < a1) = false := decide_eq_false c5
   clear c5
   by_cases c10 : a1 = 0
   ·rw [if_pos c10] at H
    exact absurd H (by simp)
   ·rw [if_neg c10] at H
    have c10b0 : (a1 == 0) = false := beq_eq_false_iff_ne.mpr c10
    have c10b1 : (a1 != 0) = true := bne_iff_ne.mpr c10
    simp only [Option.some.injEq, Prod.mk.injEq] at H
    obtain ⟨rfl, rfl, rfl⟩ := H
    go_enter Try.func10, Try.ntmps10
    go_wp2_with (first | ((with_reducible refine gate_callee (f := 21) rfl ?_); refine goesL_ (some 9) rfl rfl Try.func21 (by kernel_rfl) rfl #[.pointer (some ⟨g, 0, none⟩)] rfl aE ?_; (with_reducible refine (spec_l1Cur_next.calls g s0_0 s0_1 s0_2 t102 t103 t104 w0 _ ?side1 ?side2 A4.out).mono ?_); (case side1 => repeat (first | (with_reducible first | exact HI0.out | apply IsS37.alloc | apply IsS37.drewN | apply IsS37.drew | apply IsS37.set_1 | apply IsS37.set_2) | exact HI0.out)); (case side2 => repeat (first | (with_reducible first | exact HB.out | apply below_alloc | apply pw_below_drewN | apply below_drew1 | refine below_set ?_ (IsS37.ge HI0.out)) | exact HB.out)); rintro e w11 ⟨rfl, hi, hb, hk⟩; refine ⟨_, rfl, ?_⟩; replace HK := Aside0.mk (KeepBut.trans (by repeat (first | (with_reducible first | exact HK.out | apply KeepBut.set_ | apply keep_drewN | apply keep_drew | apply keep_alloc) | exact HK.out)) hk (.inl rfl)); replace HB := Aside0.mk hb; replace HI0 := Aside0.mk hi; (try clear hb); (try clear hk); (try clear hi)))
    go_ret
    exact ⟨eE, by repeat (first | (with_reducible first | exact HI0.out | apply IsS37.alloc | apply IsS37.drewN | apply IsS37.drew | apply IsS37.set_1 | apply IsS37.set_2) | exact HI0.out), by repeat (first | (with_reducible first | exact HB.out | apply below_alloc | apply pw_below_drewN | apply below_drew1 | refine below_set ?_ (IsS37.ge HI0.out)) | exact HB.out), by repeat (first | (with_reducible first | exact HK.out | apply KeepBut.set_ | apply keep_drewN | apply keep_drew | apply keep_alloc) | exact HK.out)⟩
def spec_l1Cur_one.f (s0_0 : List Int) (s0_1 : Int) (s0_2 : Int) (a1 : Int) : Option (Bool × Int × Int) := (spec_l1Cur_pick.f s0_0 s0_1 s0_2 a1).bind fun bt108 => (some ((bt108.1 == 0), bt108.2.1, bt108.2.2))
set_option maxHeartbeats 8000000 in
set_option maxRecDepth 100000 in
theorem spec_l1Cur_one.calls (g : Nat) (s0_0 : List Int) (s0_1 : Int) (s0_2 : Int) (a1 : Int) (r1 : Bool) (r2 : Int) (r3 : Int) (w0 w : World) (hI : IsS37 w0 w g s0_0 s0_1 s0_2) (hB : Below w0.heap.size w0 w) (h : spec_l1Cur_one.f s0_0 s0_1 s0_2 a1 = some (r1, r2, r3)) :
  Calls Try.prog 11 #[.pointer (some ⟨g, 0, none⟩), .int .i64 a1] w fun e w' => e = .returned (.bool r1) ∧ IsS37 w0 w' g s0_0 r2 r3 ∧ Below w0.heap.size w0 w' ∧ KeepBut w w' g none := by
 have HI0 := Aside0.mk hI
 have HK := Aside0.mk (KeepBut.refl w g none)
 have HL := Aside0.mk hB.size
 clear hI
 have HW0 := Aside0.mk hB.size
 have HB := Aside0.mk hB
 clear hB
 have H : ((spec_l1Cur_pick.f s0_0 s0_1 s0_2 a1).bind fun bt108 => (some ((bt108.1 == 0), bt108.2.1, bt108.2.2))) = some (r1, r2, r3) := h
 clear h
 replace H := Option.bind_eq_some_iff.mp H
 obtain ⟨⟨t108, t109, t110⟩, A30, H⟩ := H
 replace H : (some ((t108 == 0), t109, t110)) = some (r1, r2, r3) := H
 have A3 := Aside0.mk A30
 clear A30
 simp only [Option.some.injEq, Prod.mk.injEq] at H
 obtain ⟨rfl, rfl, rfl⟩ := H
 go_enter Try.func11, Try.ntmps11
 go_wp2_with (first | ((with_reducible refine gate_callee (f := 10) rfl ?_); refine goesL_ (some 7) rfl rfl Try.func10 (by kernel_rfl) rfl #[.pointer (some ⟨g, 0, none⟩), .int .i64 a1] rfl aE ?_; (with_reducible refine (spec_l1Cur_pick.calls g s0_0 s0_1 s0_2 a1 t108 t109 t110 w0 _ ?side1 ?side2 A3.out).mono ?_); (case side1 => repeat (first | (with_reducible first | exact HI0.out | apply IsS37.alloc | apply IsS37.drewN | apply IsS37.drew | apply IsS37.set_1 | apply IsS37.set_2) | exact HI0.out)); (case side2 => repeat (first | (with_reducible first | exact HB.out | apply below_alloc | apply pw_below_drewN | apply below_drew1 | refine below_set ?_ (IsS37.ge HI0.out)) | exact HB.out)); rintro e w4 ⟨rfl, hi, hb, hk⟩; refine ⟨_, rfl, ?_⟩; replace HK := Aside0.mk (KeepBut.trans (by repeat (first | (with_reducible first | exact HK.out | apply KeepBut.set_ | apply keep_drewN | apply keep_drew | apply keep_alloc) | exact HK.out)) hk (.inl rfl)); replace HB := Aside0.mk hb; replace HI0 := Aside0.mk hi; (try clear hb); (try clear hk); (try clear hi)))
 go_ret
 exact ⟨eE, by repeat (first | (with_reducible first | exact HI0.out | apply IsS37.alloc | apply IsS37.drewN | apply IsS37.drew | apply IsS37.set_1 | apply IsS37.set_2) | exact HI0.out), by repeat (first | (with_reducible first | exact HB.out | apply below_alloc | apply pw_below_drewN | apply below_drew1 | refine below_set ?_ (IsS37.ge HI0.out)) | exact HB.out), by repeat (first | (with_reducible first | exact HK.out | apply KeepBut.set_ | apply keep_drewN | apply keep_drew | apply keep_alloc) | exact HK.out)⟩
def spec_l1Cur_among.f (s0_0 : List Int) (s0_1 : Int) (s0_2 : Int) (l1 : List Int) : Option (Int × Int × Int) := (spec_l1Cur_pick.f s0_0 s0_1 s0_2 (l1.length : Int)).bind fun bt111 => (if 0 ≤ bt111.1 then (if bt111.1 < (l1.length : Int) then (some (rd l1 bt111.1, bt111.2.1, bt111.2.2)) else (none)) else (none))
set_option maxHeartbeats 8000000 in
set_option maxRecDepth 100000 in
theorem spec_l1Cur_among.calls (g : Nat) (s0_0 : List Int) (s0_1 : Int) (s0_2 : Int) (A1 : Option Addr) (c1 : Nat) (l1 : List Int) (r1 : Int) (r2 : Int) (r3 : Int) (w0 w : World) (hI : IsS37 w0 w g s0_0 s0_1 s0_2) (hB : Below w0.heap.size w0 w) (hr1 : Kd.C (Kd.int .i64) w A1 l1.length l1) (hc1 : l1.length ≤ c1) (hf1 : ∀ ad, A1 = some ad → 0 < l1.length → ad.block ≠ g) (h : spec_l1Cur_among.f s0_0 s0_1 s0_2 l1 = some (r1, r2, r3)) :
  Calls Try.prog 12 #[.pointer (some ⟨g, 0, none⟩), .slice A1 l1.length c1] w fun e w' => e = .returned (.int .i64 r1) ∧ IsS37 w0 w' g s0_0 r2 r3 ∧ Below w0.heap.size w0 w' ∧ KeepBut w w' g none := by
 have HR1 := Aside0.mk hr1
 have HC1 := Aside0.mk hc1
 clear hr1 hc1
 have HI0 := Aside0.mk hI
 have HK := Aside0.mk (KeepBut.refl w g none)
 have HL := Aside0.mk hB.size
 clear hI
 have HW0 := Aside0.mk hB.size
 have HB := Aside0.mk hB
 clear hB
 have H : ((spec_l1Cur_pick.f s0_0 s0_1 s0_2 (l1.length : Int)).bind fun bt111 => (if 0 ≤ bt111.1 then (if bt111.1 < (l1.length : Int) then (some (rd l1 bt111.1, bt111.2.1, bt111.2.2)) else (none)) else (none))) = some (r1, r2, r3) := h
 clear h
 replace H := Option.bind_eq_some_iff.mp H
 obtain ⟨⟨t111, t112, t113⟩, A30, H⟩ := H
 replace H : (if 0 ≤ t111 then (if t111 < (l1.length : Int) then (some (rd l1 t111, t112, t113)) else (none)) else (none)) = some (r1, r2, r3) := H
 have A3 := Aside0.mk A30
 clear A30
 by_cases c4 : 0 ≤ t111
 ·rw [if_pos c4] at H
  have c4b0 : decide (0 ≤ t111) = true := decide_eq_true c4
  clear c4
  by_cases c5 : t111 < (l1.length : Int)
  ·rw [if_pos c5] at H
   have c5b0 : decide (t111 < (l1.length : Int)) = true := decide_eq_true c5
   clear c5
   simp only [Option.some.injEq, Prod.mk.injEq] at H
   obtain ⟨rfl, rfl, rfl⟩ := H
   go_enter Try.func12, Try.ntmps12
   go_wp2_with (first | ((with_reducible refine gate_callee (f := 10) rfl ?_); refine goesL_ (some 9) rfl rfl Try.func10 (by kernel_rfl) rfl #[.pointer (some ⟨g, 0, none⟩), .int .i64 (l1.length : Int)] rfl aE ?_; (with_reducible refine (spec_l1Cur_pick.calls g s0_0 s0_1 s0_2 (l1.length : Int) t111 t112 t113 w0 _ ?side1 ?side2 A3.out).mono ?_); (case side1 => repeat (first | (with_reducible first | exact HI0.out | apply IsS37.alloc | apply IsS37.drewN | apply IsS37.drew | apply IsS37.set_1 | apply IsS37.set_2) | exact HI0.out)); (case side2 => repeat (first | (with_reducible first | exact HB.out | apply below_alloc | apply pw_below_drewN | apply below_drew1 | refine below_set ?_ (IsS37.ge HI0.out)) | exact HB.out)); rintro e w6 ⟨rfl, hi, hb, hk⟩; refine ⟨_, rfl, ?_⟩; replace HK := Aside0.mk (KeepBut.trans (by repeat (first | (with_reducible first | exact HK.out | apply KeepBut.set_ | apply keep_drewN | apply keep_drew | apply keep_alloc) | exact HK.out)) hk (.inl rfl)); replace HB := Aside0.mk hb; replace HI0 := Aside0.mk hi; (try clear hb); (try clear hk); (try clear hi); have p114 : 0 ≤ (t111 : Int) := of_decide_eq_true hE; have q114 : t111 < (l1.length : Int) := of_decide_eq_true hE; obtain ⟨ad114, e114, hx114_0⟩ := Kd.at_int HR1.out t111 p114 q114; cases e114; replace hx114_0 := keep_cell HK.out hx114_0 (by first | (rw [add_block]; exact hf1 _ rfl (by omega)) | exact hf1 _ rfl (by omega) | exact hf1 ad114 rfl (by omega)); replace p114 := eq_true p114; replace q114 := eq_true q114))
   go_ret
   exact ⟨eE, by repeat (first | (with_reducible first | exact HI0.out | apply IsS37.alloc | apply IsS37.drewN | apply IsS37.drew | apply IsS37.set_1 | apply IsS37.set_2) | exact HI0.out), by repeat (first | (with_reducible first | exact HB.out | apply below_alloc | apply pw_below_drewN | apply below_drew1 | refine below_set ?_ (IsS37.ge HI0.out)) | exact HB.out), by repeat (first | (with_reducible first | exact HK.out | apply KeepBut.set_ | apply keep_drewN | apply keep_drew | apply keep_alloc) | exact HK.out)⟩
  ·rw [if_neg c5] at H
   exact absurd H (by simp)
 ·rw [if_neg c4] at H
  exact absurd H (by simp)
def spec_l1Cur_timer.j0 : Nat → Int → List Int → Int → Int → Int → Int → Int → Int → Option (Int × Int × Int × Int × Int × Int)
 | 0, _, _, _, _, _, _, _, _ => none
 | k + 1, x1, x1000, x1001, x1002, x123000, x123001, x123002, x123003 => (spec_l1Cur_pick.f x1000 x1001 x1002 40).bind fun bt132 => (if bt132.1 = 0 then ((spec_l1Cur_among.f x1000 bt132.2.1 bt132.2.2 (([0, 1000, 1001, 2] : List Int))).bind fun bt138 => (some (x123000, x123001, x123002, bt138.1, bt138.2.1, bt138.2.2))) else (if bt132.1 = 1 then ((spec_l1Cur_among.f x1000 bt132.2.1 bt132.2.2 (([(-1), 100000, 100001] : List Int))).bind fun bt144 => (some (x123000, x123001, bt144.1, x123003, bt144.2.1, bt144.2.2))) else (if bt132.1 = 2 then ((spec_l1Cur_among.f x1000 bt132.2.1 bt132.2.2 (([x1, 200000, 200001, 9223372036854775807] : List Int))).bind fun bt150 => (some (x123000, bt150.1, x123002, x123003, bt150.2.1, bt150.2.2))) else (if bt132.1 = 3 then ((spec_l1Cur_among.f x1000 bt132.2.1 bt132.2.2 (([(-1), 999, 1000] : List Int))).bind fun bt156 => (some (bt156.1, x123001, x123002, x123003, bt156.2.1, bt156.2.2))) else (some (x123000, x123001, x123002, x123003, bt132.2.1, bt132.2.2))))))
def spec_l1Cur_timer.f (k : Nat) (s0_0 : List Int) (s0_1 : Int) (s0_2 : Int) (a1 : Int) : Option (Int × Int × Int × Int × Int × Int) := (spec_l1Cur_pick.f s0_0 s0_1 s0_2 8).bind fun bt116 => ((spec_l1Cur_pick.f s0_0 bt116.2.1 bt116.2.2 30).bind fun bt119 => ((spec_l1Cur_one.f s0_0 bt119.2.1 bt119.2.2 2).bind fun bt123 => (if bt123.1 = true then ((spec_l1Cur_pick.f s0_0 bt123.2.1 bt123.2.2 9).bind fun bt126 => ((spec_l1Cur_pick.f s0_0 bt126.2.1 bt126.2.2 12).bind fun bt129 => (spec_l1Cur_timer.j0 k a1 s0_0 bt129.2.1 bt129.2.2 bt116.1 (wrap64 ((wrap64 (a1 + 1)) + bt119.1)) (wrap64 (1 + bt126.1)) (wrap64 (1 + bt129.1))))) else (spec_l1Cur_timer.j0 k a1 s0_0 bt123.2.1 bt123.2.2 bt116.1 (wrap64 ((wrap64 (a1 + 1)) + bt119.1)) 0 1))))
theorem spec_l1Cur_timer.mono_l : ∀ k, (∀ y0 y1 y2 y3 y4 y5 y6 y7, LeO (spec_l1Cur_timer.j0 k y0 y1 y2 y3 y4 y5 y6 y7) (spec_l1Cur_timer.j0 (k + 1) y0 y1 y2 y3 y4 y5 y6 y7))
 | 0 => fun _ _ _ _ _ _ _ _ r h => by simp [spec_l1Cur_timer.j0] at h
 | k + 1 => by
  have ih0 := spec_l1Cur_timer.mono_l k
  ·intro y0 y1 y2 y3 y4 y5 y6 y7
   unfold spec_l1Cur_timer.j0
   repeat' first
   | (with_reducible exact ih0 _ _ _ _ _ _ _ _)
   | (with_reducible first | exact LeO.refl _ | exact LeO.none _ | refine LeO.ite ?_ ?_ | refine LeO.bind ?_ (fun _ => ?_))
   | exact ih0 _ _ _ _ _ _ _ _ | exact LeO.none _ | refine LeO.ite ?_ ?_ | refine LeO.bind ?_ (fun _ => ?_)
theorem spec_l1Cur_timer.mono : ∀ a0 a1 a2 a3 k, LeO (spec_l1Cur_timer.f k a0 a1 a2 a3) (spec_l1Cur_timer.f (k + 1) a0 a1 a2 a3) := by
 intro a0 a1 a2 a3 k
 have ih0 := spec_l1Cur_timer.mono_l k
 unfold spec_l1Cur_timer.f
 repeat' first
   | (with_reducible exact ih0 _ _ _ _ _ _ _ _)
   | (with_reducible first | exact LeO.refl _ | exact LeO.none _ | refine LeO.ite ?_ ?_ | refine LeO.bind ?_ (fun _ => ?_))
   | exact ih0 _ _ _ _ _ _ _ _ | exact LeO.none _ | refine LeO.ite ?_ ?_ | refine LeO.bind ?_ (fun _ => ?_)
set_option maxHeartbeats 8000000 in
set_option maxRecDepth 100000 in
theorem spec_l1Cur_timer.calls (k : Nat) (g : Nat) (s0_0 : List Int) (s0_1 : Int) (s0_2 : Int) (a1 : Int) (r1 : Int) (r2 : Int) (r3 : Int) (r4 : Int) (r5 : Int) (r6 : Int) (w0 w : World) (hI : IsS37 w0 w g s0_0 s0_1 s0_2) (hB : Below w0.heap.size w0 w) (h : spec_l1Cur_timer.f k s0_0 s0_1 s0_2 a1 = some (r1, r2, r3, r4, r5, r6)) :
  Calls Try.prog 19 #[.pointer (some ⟨g, 0, none⟩), .int .i64 a1] w fun e w' => e = .returned (.agg #[.int .i64 r1, .int .i64 r2, .int .i64 r3, .int .i64 r4]) ∧ IsS37 w0 w' g s0_0 r5 r6 ∧ Below w0.heap.size w0 w' ∧ KeepBut w w' g none := by
 have hu47 := Try.underlying47
 have HI0 := Aside0.mk hI
 have HK := Aside0.mk (KeepBut.refl w g none)
 have HL := Aside0.mk hB.size
 clear hI
 have HW0 := Aside0.mk hB.size
 have HB := Aside0.mk hB
 clear hB
 have H : ((spec_l1Cur_pick.f s0_0 s0_1 s0_2 8).bind fun bt116 => ((spec_l1Cur_pick.f s0_0 bt116.2.1 bt116.2.2 30).bind fun bt119 => ((spec_l1Cur_one.f s0_0 bt119.2.1 bt119.2.2 2).bind fun bt123 => (if bt123.1 = true then ((spec_l1Cur_pick.f s0_0 bt123.2.1 bt123.2.2 9).bind fun bt126 => ((spec_l1Cur_pick.f s0_0 bt126.2.1 bt126.2.2 12).bind fun bt129 => (spec_l1Cur_timer.j0 k a1 s0_0 bt129.2.1 bt129.2.2 bt116.1 (wrap64 ((wrap64 (a1 + 1)) + bt119.1)) (wrap64 (1 + bt126.1)) (wrap64 (1 + bt129.1))))) else (spec_l1Cur_timer.j0 k a1 s0_0 bt123.2.1 bt123.2.2 bt116.1 (wrap64 ((wrap64 (a1 + 1)) + bt119.1)) 0 1))))) = some (r1, r2, r3, r4, r5, r6) := h
 clear h
 replace H := Option.bind_eq_some_iff.mp H
 obtain ⟨⟨t116, t117, t118⟩, A30, H⟩ := H
 replace H : ((spec_l1Cur_pick.f s0_0 t117 t118 30).bind fun bt119 => ((spec_l1Cur_one.f s0_0 bt119.2.1 bt119.2.2 2).bind fun bt123 => (if bt123.1 = true then ((spec_l1Cur_pick.f s0_0 bt123.2.1 bt123.2.2 9).bind fun bt126 => ((spec_l1Cur_pick.f s0_0 bt126.2.1 bt126.2.2 12).bind fun bt129 => (spec_l1Cur_timer.j0 k a1 s0_0 bt129.2.1 bt129.2.2 t116 (wrap64 ((wrap64 (a1 + 1)) + bt119.1)) (wrap64 (1 + bt126.1)) (wrap64 (1 + bt129.1))))) else (spec_l1Cur_timer.j0 k a1 s0_0 bt123.2.1 bt123.2.2 t116 (wrap64 ((wrap64 (a1 + 1)) + bt119.1)) 0 1)))) = some (r1, r2, r3, r4, r5, r6) := H
 have A3 := Aside0.mk A30
 clear A30
 replace H := Option.bind_eq_some_iff.mp H
 obtain ⟨⟨t119, t120, t121⟩, A40, H⟩ := H
 replace H : ((spec_l1Cur_one.f s0_0 t120 t121 2).bind fun bt123 => (if bt123.1 = true then ((spec_l1Cur_pick.f s0_0 bt123.2.1 bt123.2.2 9).bind fun bt126 => ((spec_l1Cur_pick.f s0_0 bt126.2.1 bt126.2.2 12).bind fun bt129 => (spec_l1Cur_timer.j0 k a1 s0_0 bt129.2.1 bt129.2.2 t116 (wrap64 ((wrap64 (a1 + 1)) + t119)) (wrap64 (1 + bt126.1)) (wrap64 (1 + bt129.1))))) else (spec_l1Cur_timer.j0 k a1 s0_0 bt123.2.1 bt123.2.2 t116 (wrap64 ((wrap64 (a1 + 1)) + t119)) 0 1))) = some (r1, r2, r3, r4, r5, r6) := H
 have A4 := Aside0.mk A40
 clear A40
 replace H := Option.bind_eq_some_iff.mp H
 obtain ⟨⟨t123, t124, t125⟩, A50, H⟩ := H
 replace H : (if t123 = true then ((spec_l1Cur_pick.f s0_0 t124 t125 9).bind fun bt126 => ((spec_l1Cur_pick.f s0_0 bt126.2.1 bt126.2.2 12).bind fun bt129 => (spec_l1Cur_timer.j0 k a1 s0_0 bt129.2.1 bt129.2.2 t116 (wrap64 ((wrap64 (a1 + 1)) + t119)) (wrap64 (1 + bt126.1)) (wrap64 (1 + bt129.1))))) else (spec_l1Cur_timer.j0 k a1 s0_0 t124 t125 t116 (wrap64 ((wrap64 (a1 + 1)) + t119)) 0 1)) = some (r1, r2, r3, r4, r5, r6) := H
 have A5 := Aside0.mk A50
 clear A50
 have HC6 := Aside0.mk H
 clear H
 go_enter Try.func19, Try.ntmps19
 go_upto_if 15 with (first | ((with_reducible refine gate_dst (N := 4) rfl ?_); refine box_event rfl (N := 4) rfl (cs := #[.int .i64 0, .int .i64 0, .int .i64 0, .int .i64 0]) (t := 47) sE ?_; intro gb115 hg w7 hbox hb; replace HB := Aside0.mk (below_step (by repeat (first | (with_reducible first | exact HB.out | apply below_alloc | apply pw_below_drewN | apply below_drew1 | refine below_set ?_ (IsS37.ge HI0.out)) | exact HB.out)) hb); have BK115 := Aside0.mk hbox; have GW115 := Aside0.mk ((by rw [hg]; exact (keep_size (w := w) (g := g) (row := none) (by repeat (first | (with_reducible first | exact HK.out | apply KeepBut.set_ | apply keep_drewN | apply keep_drew | apply keep_alloc) | exact HK.out))) : w.heap.size ≤ gb115)); have GE115 := Aside0.mk ((Nat.le_trans HW0.out (by rw [hg]; exact (keep_size (w := w) (g := g) (row := none) (by repeat (first | (with_reducible first | exact HK.out | apply KeepBut.set_ | apply keep_drewN | apply keep_drew | apply keep_alloc) | exact HK.out))) : w.heap.size ≤ gb115) : w0.heap.size ≤ gb115)); replace HK := Aside0.mk (KeepBut.trans (by repeat (first | (with_reducible first | exact HK.out | apply KeepBut.set_ | apply keep_drewN | apply keep_drew | apply keep_alloc) | exact HK.out)) (KeepBut.of_below hb g none) (.inl rfl)); have NB0_115 := Aside0.mk ((by rw [hg]; exact Nat.ne_of_lt (IsS37.lt (show IsS37 w0 _ g s0_0 s0_1 s0_2 from by repeat (first | (with_reducible first | exact HI0.out | apply IsS37.alloc | apply IsS37.drewN | apply IsS37.drew | apply IsS37.set_1 | apply IsS37.set_2) | exact HI0.out))) : g ≠ gb115)); have NB115_0 := Aside0.mk ((by rw [hg]; exact Nat.ne_of_gt (IsS37.lt (show IsS37 w0 _ g s0_0 s0_1 s0_2 from by repeat (first | (with_reducible first | exact HI0.out | apply IsS37.alloc | apply IsS37.drewN | apply IsS37.drew | apply IsS37.set_1 | apply IsS37.set_2) | exact HI0.out))) : gb115 ≠ g)); replace HI0 := Aside0.mk (IsS37.below (by repeat (first | (with_reducible first | exact HI0.out | apply IsS37.alloc | apply IsS37.drewN | apply IsS37.drew | apply IsS37.set_1 | apply IsS37.set_2) | exact HI0.out)) hb); clear hb hbox hg) | ((with_reducible refine gate_callee (f := 10) rfl ?_); refine goesL_ (some 7) rfl rfl Try.func10 (by kernel_rfl) rfl #[.pointer (some ⟨g, 0, none⟩), .int .i64 8] rfl aE ?_; (with_reducible refine (spec_l1Cur_pick.calls g s0_0 s0_1 s0_2 8 t116 t117 t118 w0 _ ?side1 ?side2 A3.out).mono ?_); (case side1 => repeat (first | (with_reducible first | exact HI0.out | apply IsS37.alloc | apply IsS37.drewN | apply IsS37.drew | apply IsS37.set_1 | apply IsS37.set_2 | refine IsS37.far ?_ NB0_115.out _) | exact HI0.out)); (case side2 => repeat (first | (with_reducible first | exact HB.out | apply below_alloc | apply pw_below_drewN | apply below_drew1 | refine below_set ?_ (IsS37.ge HI0.out) | refine below_set ?_ GE115.out) | exact HB.out)); rintro e w8 ⟨rfl, hi, hb, hk⟩; refine ⟨_, rfl, ?_⟩; replace BK115 := Aside0.mk (KeepBut.blk hk (g' := gb115) (o := .cells #[.int .i64 0, .int .i64 0, .int .i64 0, .int .i64 0] 47 (0, 0)) (bV BK115) NB115_0.out (by simp)); replace HK := Aside0.mk (KeepBut.trans (by repeat (first | (with_reducible first | exact HK.out | apply KeepBut.set_ | apply keep_drewN | apply keep_drew | apply keep_alloc | refine keep_far ?_ GW115.out _) | exact HK.out)) hk (.inl rfl)); replace HB := Aside0.mk hb; replace HI0 := Aside0.mk hi; (try clear hb); (try clear hk); (try clear hi)) | ((with_reducible refine gate_callee (f := 10) rfl ?_); refine goesL_ (some 11) rfl rfl Try.func10 (by kernel_rfl) rfl #[.pointer (some ⟨g, 0, none⟩), .int .i64 30] rfl aE ?_; (with_reducible refine (spec_l1Cur_pick.calls g s0_0 t117 t118 30 t119 t120 t121 w0 _ ?side1 ?side2 A4.out).mono ?_); (case side1 => repeat (first | (with_reducible first | exact HI0.out | apply IsS37.alloc | apply IsS37.drewN | apply IsS37.drew | apply IsS37.set_1 | apply IsS37.set_2 | refine IsS37.far ?_ NB0_115.out _) | exact HI0.out)); (case side2 => repeat (first | (with_reducible first | exact HB.out | apply below_alloc | apply pw_below_drewN | apply below_drew1 | refine below_set ?_ (IsS37.ge HI0.out) | refine below_set ?_ GE115.out) | exact HB.out)); rintro e w9 ⟨rfl, hi, hb, hk⟩; refine ⟨_, rfl, ?_⟩; replace BK115 := Aside0.mk (KeepBut.blk hk (g' := gb115) (o := .cells #[.int .i64 0, .int .i64 0, .int .i64 0, .int .i64 0] 47 (0, 0)) (bV BK115) NB115_0.out (by simp)); replace HK := Aside0.mk (KeepBut.trans (by repeat (first | (with_reducible first | exact HK.out | apply KeepBut.set_ | apply keep_drewN | apply keep_drew | apply keep_alloc | refine keep_far ?_ GW115.out _) | exact HK.out)) hk (.inl rfl)); replace HB := Aside0.mk hb; replace HI0 := Aside0.mk hi; (try clear hb); (try clear hk); (try clear hi)) | ((with_reducible refine gate_dst (N := 5) rfl ?_); refine box_event rfl (N := 5) rfl (cs := #[.int .i64 0, .int .i64 0, .int .i64 0, .int .i64 0]) (t := 47) sE ?_; intro gb122 hg w10 hbox hb; replace HB := Aside0.mk (below_step (by repeat (first | (with_reducible first | exact HB.out | apply below_alloc | apply pw_below_drewN | apply below_drew1 | refine below_set ?_ (IsS37.ge HI0.out) | refine below_set ?_ GE115.out) | exact HB.out)) hb); have BK122 := Aside0.mk hbox; have GW122 := Aside0.mk ((by rw [hg]; exact (keep_size (w := w) (g := g) (row := none) (by repeat (first | (with_reducible first | exact HK.out | apply KeepBut.set_ | apply keep_drewN | apply keep_drew | apply keep_alloc | refine keep_far ?_ GW115.out _) | exact HK.out))) : w.heap.size ≤ gb122)); have GE122 := Aside0.mk ((Nat.le_trans HW0.out (by rw [hg]; exact (keep_size (w := w) (g := g) (row := none) (by repeat (first | (with_reducible first | exact HK.out | apply KeepBut.set_ | apply keep_drewN | apply keep_drew | apply keep_alloc | refine keep_far ?_ GW115.out _) | exact HK.out))) : w.heap.size ≤ gb122) : w0.heap.size ≤ gb122)); replace HK := Aside0.mk (KeepBut.trans (by repeat (first | (with_reducible first | exact HK.out | apply KeepBut.set_ | apply keep_drewN | apply keep_drew | apply keep_alloc | refine keep_far ?_ GW115.out _) | exact HK.out)) (KeepBut.of_below hb g none) (.inl rfl)); have NB115_122 := nL hg (bV BK115); have NB122_115 := nG hg (bV BK115); replace BK115 := bB (bV BK115) hb; have NB0_122 := Aside0.mk ((by rw [hg]; exact Nat.ne_of_lt (IsS37.lt (show IsS37 w0 _ g s0_0 t120 t121 from by repeat (first | (with_reducible first | exact HI0.out | apply IsS37.alloc | apply IsS37.drewN | apply IsS37.drew | apply IsS37.set_1 | apply IsS37.set_2 | refine IsS37.far ?_ NB0_115.out _) | exact HI0.out))) : g ≠ gb122)); have NB122_0 := Aside0.mk ((by rw [hg]; exact Nat.ne_of_gt (IsS37.lt (show IsS37 w0 _ g s0_0 t120 t121 from by repeat (first | (with_reducible first | exact HI0.out | apply IsS37.alloc | apply IsS37.drewN | apply IsS37.drew | apply IsS37.set_1 | apply IsS37.set_2 | refine IsS37.far ?_ NB0_115.out _) | exact HI0.out))) : gb122 ≠ g)); replace HI0 := Aside0.mk (IsS37.below (by repeat (first | (with_reducible first | exact HI0.out | apply IsS37.alloc | apply IsS37.drewN | apply IsS37.drew | apply IsS37.set_1 | apply IsS37.set_2 | refine IsS37.far ?_ NB0_115.out _) | exact HI0.out)) hb); clear hb hbox hg; have hnb11 := NB122_115.out; have hnc11 := NB115_122.out; have hnb12 := NB122_0.out; have hnc12 := NB0_122.out; have hcz13_0 := cz BK122 0 (.int .i64 0); have hcz13_1 := cz BK122 1 (.int .i64 0); have hcz13_2 := cz BK122 2 (.int .i64 0); have hcz13_3 := cz BK122 3 (.int .i64 0); have hfz13_0 := fz BK122 0; have hfz13_1 := fz BK122 1; have hfz13_2 := fz BK122 2; have hfz13_3 := fz BK122 3) | ((with_reducible refine gate_callee (f := 11) rfl ?_); refine goesL_ (some 15) rfl rfl Try.func11 (by kernel_rfl) rfl #[.pointer (some ⟨g, 0, none⟩), .int .i64 2] rfl aE ?_; (with_reducible refine (spec_l1Cur_one.calls g s0_0 t120 t121 2 t123 t124 t125 w0 _ ?side1 ?side2 A5.out).mono ?_); (case side1 => repeat (first | (with_reducible first | exact HI0.out | apply IsS37.alloc | apply IsS37.drewN | apply IsS37.drew | apply IsS37.set_1 | apply IsS37.set_2 | refine IsS37.far ?_ NB0_115.out _ | refine IsS37.far ?_ NB0_122.out _) | exact HI0.out)); (case side2 => repeat (first | (with_reducible first | exact HB.out | apply below_alloc | apply pw_below_drewN | apply below_drew1 | refine below_set ?_ (IsS37.ge HI0.out) | refine below_set ?_ GE115.out | refine below_set ?_ GE122.out) | exact HB.out)); rintro e w14 ⟨rfl, hi, hb, hk⟩; refine ⟨_, rfl, ?_⟩; replace BK115 := Aside0.mk (KeepBut.blk hk (g' := gb115) (o := .cells #[.int .i64 0, .int .i64 0, .int .i64 0, .int .i64 0] 47 (0, 0)) (bG NB115_122 BK115) NB115_0.out (by simp)); replace BK122 := Aside0.mk (KeepBut.blk hk (g' := gb122) (o := .cells #[.int .i64 t116, .int .i64 (wrap64 ((wrap64 (a1 + 1)) + t119)), .int .i64 0, .int .i64 1] 47 (0, 0)) (by refine bU ?_; refine blk_put (cs := #[.int .i64 t116, .int .i64 (wrap64 ((wrap64 (a1 + 1)) + t119)), .int .i64 0, .int .i64 0]) ?_ 3 _ rfl; refine bU ?_; refine blk_put (cs := #[.int .i64 t116, .int .i64 (wrap64 ((wrap64 (a1 + 1)) + t119)), .int .i64 0, .int .i64 0]) ?_ 2 _ rfl; refine bU ?_; refine blk_put (cs := #[.int .i64 t116, .int .i64 0, .int .i64 0, .int .i64 0]) ?_ 1 _ rfl; refine bU ?_; refine blk_put (cs := #[.int .i64 0, .int .i64 0, .int .i64 0, .int .i64 0]) ?_ 0 _ rfl; refine bU ?_; exact BK122.out) NB122_0.out (by simp)); replace HK := Aside0.mk (KeepBut.trans (by repeat (first | (with_reducible first | exact HK.out | apply KeepBut.set_ | apply keep_drewN | apply keep_drew | apply keep_alloc | refine keep_far ?_ GW115.out _ | refine keep_far ?_ GW122.out _) | exact HK.out)) hk (.inl rfl)); replace HB := Aside0.mk hb; replace HI0 := Aside0.mk hi; (try clear hb); (try clear hk); (try clear hi)))
 (try simp only [Act.put, List.setIfInBounds_toArray, List.set_cons_zero, List.set_cons_succ])
 go_cut [] (fun wc => ∃ (kq : Nat) (x1001_5 : Int) (x1002_5 : Int) (x123002_5 : Int) (x123003_5 : Int), Aside0 (spec_l1Cur_timer.j0 kq a1 s0_0 x1001_5 x1002_5 t116 (wrap64 ((wrap64 (a1 + 1)) + t119)) x123002_5 x123003_5 = some (r1, r2, r3, r4, r5, r6)) ∧ Aside0 (kq ≤ k) ∧ Aside0 (wc.heap[gb115]? = some (.cells #[.int .i64 0, .int .i64 0, .int .i64 0, .int .i64 0] 47 (0, 0))) ∧ Aside0 (wc.heap[gb122]? = some (.cells #[.int .i64 t116, .int .i64 (wrap64 ((wrap64 (a1 + 1)) + t119)), .int .i64 x123002_5, .int .i64 x123003_5] 47 (0, 0))) ∧ Aside0 (IsS37 w0 wc g s0_0 x1001_5 x1002_5) ∧ Aside0 (KeepBut w wc g none) ∧ Aside0 (Below w0.heap.size w0 wc))
 case first =>
  have H := HC6.out
  clear HC6
  by_cases c15 : t123 = true
  ·subst c15
   have H1 : ((spec_l1Cur_pick.f s0_0 t124 t125 9).bind fun bt126 => ((spec_l1Cur_pick.f s0_0 bt126.2.1 bt126.2.2 12).bind fun bt129 => (spec_l1Cur_timer.j0 k a1 s0_0 bt129.2.1 bt129.2.2 t116 (wrap64 ((wrap64 (a1 + 1)) + t119)) (wrap64 (1 + bt126.1)) (wrap64 (1 + bt129.1))))) = some (r1, r2, r3, r4, r5, r6) := by rw [if_pos rfl] at H; exact H
   clear H
   have H := H1
   clear H1
   replace H := Option.bind_eq_some_iff.mp H
   obtain ⟨⟨t126, t127, t128⟩, A160, H⟩ := H
   replace H : ((spec_l1Cur_pick.f s0_0 t127 t128 12).bind fun bt129 => (spec_l1Cur_timer.j0 k a1 s0_0 bt129.2.1 bt129.2.2 t116 (wrap64 ((wrap64 (a1 + 1)) + t119)) (wrap64 (1 + t126)) (wrap64 (1 + bt129.1)))) = some (r1, r2, r3, r4, r5, r6) := H
   have A16 := Aside0.mk A160
   clear A160
   replace H := Option.bind_eq_some_iff.mp H
   obtain ⟨⟨t129, t130, t131⟩, A170, H⟩ := H
   replace H : (spec_l1Cur_timer.j0 k a1 s0_0 t130 t131 t116 (wrap64 ((wrap64 (a1 + 1)) + t119)) (wrap64 (1 + t126)) (wrap64 (1 + t129))) = some (r1, r2, r3, r4, r5, r6) := H
   have A17 := Aside0.mk A170
   clear A170
   have H' := Aside0.mk H
   clear H
   go_wp2_with (first | ((with_reducible refine gate_callee (f := 10) rfl ?_); refine goesL_ (some 17) rfl rfl Try.func10 (by kernel_rfl) rfl #[.pointer (some ⟨g, 0, none⟩), .int .i64 9] rfl aE ?_; (with_reducible refine (spec_l1Cur_pick.calls g s0_0 t124 t125 9 t126 t127 t128 w0 _ ?side1 ?side2 A16.out).mono ?_); (case side1 => repeat (first | (with_reducible first | exact HI0.out | apply IsS37.alloc | apply IsS37.drewN | apply IsS37.drew | apply IsS37.set_1 | apply IsS37.set_2 | refine IsS37.far ?_ NB0_115.out _ | refine IsS37.far ?_ NB0_122.out _) | exact HI0.out)); (case side2 => repeat (first | (with_reducible first | exact HB.out | apply below_alloc | apply pw_below_drewN | apply below_drew1 | refine below_set ?_ (IsS37.ge HI0.out) | refine below_set ?_ GE115.out | refine below_set ?_ GE122.out) | exact HB.out)); rintro e w18 ⟨rfl, hi, hb, hk⟩; refine ⟨_, rfl, ?_⟩; replace BK115 := Aside0.mk (KeepBut.blk hk (g' := gb115) (o := .cells #[.int .i64 0, .int .i64 0, .int .i64 0, .int .i64 0] 47 (0, 0)) (bV BK115) NB115_0.out (by simp)); replace BK122 := Aside0.mk (KeepBut.blk hk (g' := gb122) (o := .cells #[.int .i64 t116, .int .i64 (wrap64 ((wrap64 (a1 + 1)) + t119)), .int .i64 0, .int .i64 1] 47 (0, 0)) (bV BK122) NB122_0.out (by simp)); replace HK := Aside0.mk (KeepBut.trans (by repeat (first | (with_reducible first | exact HK.out | apply KeepBut.set_ | apply keep_drewN | apply keep_drew | apply keep_alloc | refine keep_far ?_ GW115.out _ | refine keep_far ?_ GW122.out _) | exact HK.out)) hk (.inl rfl)); replace HB := Aside0.mk hb; replace HI0 := Aside0.mk hi; (try clear hb); (try clear hk); (try clear hi); have hnb19 := NB122_115.out; have hnc19 := NB115_122.out; have hnb20 := NB122_0.out; have hnc20 := NB0_122.out; have hcz21_0 := cz BK122 0 (.int .i64 t116); have hcz21_1 := cz BK122 1 (.int .i64 (wrap64 ((wrap64 (a1 + 1)) + t119))); have hcz21_2 := cz BK122 2 (.int .i64 0); have hcz21_3 := cz BK122 3 (.int .i64 1); have hfz21_0 := fz BK122 0; have hfz21_1 := fz BK122 1; have hfz21_2 := fz BK122 2; have hfz21_3 := fz BK122 3) | ((with_reducible refine gate_callee (f := 10) rfl ?_); refine goesL_ (some 21) rfl rfl Try.func10 (by kernel_rfl) rfl #[.pointer (some ⟨g, 0, none⟩), .int .i64 12] rfl aE ?_; (with_reducible refine (spec_l1Cur_pick.calls g s0_0 t127 t128 12 t129 t130 t131 w0 _ ?side1 ?side2 A17.out).mono ?_); (case side1 => repeat (first | (with_reducible first | exact HI0.out | apply IsS37.alloc | apply IsS37.drewN | apply IsS37.drew | apply IsS37.set_1 | apply IsS37.set_2 | refine IsS37.far ?_ NB0_115.out _ | refine IsS37.far ?_ NB0_122.out _) | exact HI0.out)); (case side2 => repeat (first | (with_reducible first | exact HB.out | apply below_alloc | apply pw_below_drewN | apply below_drew1 | refine below_set ?_ (IsS37.ge HI0.out) | refine below_set ?_ GE115.out | refine below_set ?_ GE122.out) | exact HB.out)); rintro e w22 ⟨rfl, hi, hb, hk⟩; refine ⟨_, rfl, ?_⟩; replace BK115 := Aside0.mk (KeepBut.blk hk (g' := gb115) (o := .cells #[.int .i64 0, .int .i64 0, .int .i64 0, .int .i64 0] 47 (0, 0)) (bG NB115_122 BK115) NB115_0.out (by simp)); replace BK122 := Aside0.mk (KeepBut.blk hk (g' := gb122) (o := .cells #[.int .i64 t116, .int .i64 (wrap64 ((wrap64 (a1 + 1)) + t119)), .int .i64 (wrap64 (1 + t126)), .int .i64 1] 47 (0, 0)) (by refine bU ?_; refine blk_put (cs := #[.int .i64 t116, .int .i64 (wrap64 ((wrap64 (a1 + 1)) + t119)), .int .i64 0, .int .i64 1]) ?_ 2 _ rfl; refine bU ?_; exact BK122.out) NB122_0.out (by simp)); replace HK := Aside0.mk (KeepBut.trans (by repeat (first | (with_reducible first | exact HK.out | apply KeepBut.set_ | apply keep_drewN | apply keep_drew | apply keep_alloc | refine keep_far ?_ GW115.out _ | refine keep_far ?_ GW122.out _) | exact HK.out)) hk (.inl rfl)); replace HB := Aside0.mk hb; replace HI0 := Aside0.mk hi; (try clear hb); (try clear hk); (try clear hi); have hcz23_0 := cz BK122 0 (.int .i64 t116); have hcz23_1 := cz BK122 1 (.int .i64 (wrap64 ((wrap64 (a1 + 1)) + t119))); have hcz23_2 := cz BK122 2 (.int .i64 (wrap64 (1 + t126))); have hcz23_3 := cz BK122 3 (.int .i64 1); have hfz23_0 := fz BK122 0; have hfz23_1 := fz BK122 1; have hfz23_2 := fz BK122 2; have hfz23_3 := fz BK122 3))
   go_meet
   case rel => exact ⟨_, (t130), (t131), (wrap64 (1 + t126)), (wrap64 (1 + t129)), H', ⟨by first | omega | exact Nat.le_refl _⟩, ⟨by refine bU ?_; refine blk_far ?_ NB115_122.out _; refine bU ?_; exact BK115.out⟩, ⟨by refine bU ?_; refine blk_put (cs := #[.int .i64 t116, .int .i64 (wrap64 ((wrap64 (a1 + 1)) + t119)), .int .i64 (wrap64 (1 + t126)), .int .i64 1]) ?_ 3 _ rfl; refine bU ?_; exact BK122.out⟩, ⟨by repeat (first | (with_reducible first | exact HI0.out | apply IsS37.alloc | apply IsS37.drewN | apply IsS37.drew | apply IsS37.set_1 | apply IsS37.set_2 | refine IsS37.far ?_ NB0_115.out _ | refine IsS37.far ?_ NB0_122.out _) | exact HI0.out)⟩, ⟨by repeat (first | (with_reducible first | exact HK.out | apply KeepBut.set_ | apply keep_drewN | apply keep_drew | apply keep_alloc | refine keep_far ?_ GW115.out _ | refine keep_far ?_ GW122.out _) | exact HK.out)⟩, ⟨by repeat (first | (with_reducible first | exact HB.out | apply below_alloc | apply pw_below_drewN | apply below_drew1 | refine below_set ?_ (IsS37.ge HI0.out) | refine below_set ?_ GE115.out | refine below_set ?_ GE122.out) | exact HB.out)⟩⟩
  ·replace c15 := Bool.eq_false_iff.mpr c15
   subst c15
   have H1 : (spec_l1Cur_timer.j0 k a1 s0_0 t124 t125 t116 (wrap64 ((wrap64 (a1 + 1)) + t119)) 0 1) = some (r1, r2, r3, r4, r5, r6) := by rw [if_neg (show ¬ (false = true) by decide)] at H; exact H
   clear H
   have H := H1
   clear H1
   have H' := Aside0.mk H
   clear H
   go_wp2
   go_meet
   case rel => exact ⟨_, (t124), (t125), (0), (1), H', ⟨by first | omega | exact Nat.le_refl _⟩, ⟨by refine bU ?_; exact BK115.out⟩, ⟨by refine bU ?_; exact BK122.out⟩, ⟨by repeat (first | (with_reducible first | exact HI0.out | apply IsS37.alloc | apply IsS37.drewN | apply IsS37.drew | apply IsS37.set_1 | apply IsS37.set_2 | refine IsS37.far ?_ NB0_115.out _ | refine IsS37.far ?_ NB0_122.out _) | exact HI0.out)⟩, ⟨by repeat (first | (with_reducible first | exact HK.out | apply KeepBut.set_ | apply keep_drewN | apply keep_drew | apply keep_alloc | refine keep_far ?_ GW115.out _ | refine keep_far ?_ GW122.out _) | exact HK.out)⟩, ⟨by repeat (first | (with_reducible first | exact HB.out | apply below_alloc | apply pw_below_drewN | apply below_drew1 | refine below_set ?_ (IsS37.ge HI0.out) | refine below_set ?_ GE115.out | refine below_set ?_ GE122.out) | exact HB.out)⟩⟩
 case rest =>
  clear HC6
  try clear c1
  try clear c2
  try clear p2
  try clear p6
  try clear c10
  try clear c11
  try clear c12
  try clear c15
  try clear c19
  try clear c20
  try clear hcz13_0
  try clear hcz13_1
  try clear hcz13_2
  try clear hcz13_3
  try clear hcz21_0
  try clear hcz21_1
  try clear hcz21_2
  try clear hcz21_3
  try clear hcz23_0
  try clear hcz23_1
  try clear hcz23_2
  try clear hcz23_3
  try clear hfz13_0
  try clear hfz13_1
  try clear hfz13_2
  try clear hfz13_3
  try clear hfz21_0
  try clear hfz21_1
  try clear hfz21_2
  try clear hfz21_3
  try clear hfz23_0
  try clear hfz23_1
  try clear hfz23_2
  try clear hfz23_3
  obtain ⟨kq, x1001_5, x1002_5, x123002_5, x123003_5, HA, HJ5, BK115, BK122, HI0, HK, HB⟩ := hcut
  cases kq with
  | zero => exact absurd HA.out (by simp [spec_l1Cur_timer.j0])
  | succ kj5 =>
   have H := HA.out
   clear HA
   simp only [spec_l1Cur_timer.j0] at H
   replace H := Option.bind_eq_some_iff.mp H
   obtain ⟨⟨t132, t133, t134⟩, A240, H⟩ := H
   replace H : (if t132 = 0 then ((spec_l1Cur_among.f s0_0 t133 t134 (([0, 1000, 1001, 2] : List Int))).bind fun bt138 => (some (t116, (wrap64 ((wrap64 (a1 + 1)) + t119)), x123002_5, bt138.1, bt138.2.1, bt138.2.2))) else (if t132 = 1 then ((spec_l1Cur_among.f s0_0 t133 t134 (([(-1), 100000, 100001] : List Int))).bind fun bt144 => (some (t116, (wrap64 ((wrap64 (a1 + 1)) + t119)), bt144.1, x123003_5, bt144.2.1, bt144.2.2))) else (if t132 = 2 then ((spec_l1Cur_among.f s0_0 t133 t134 (([a1, 200000, 200001, 9223372036854775807] : List Int))).bind fun bt150 => (some (t116, bt150.1, x123002_5, x123003_5, bt150.2.1, bt150.2.2))) else (if t132 = 3 then ((spec_l1Cur_among.f s0_0 t133 t134 (([(-1), 999, 1000] : List Int))).bind fun bt156 => (some (bt156.1, (wrap64 ((wrap64 (a1 + 1)) + t119)), x123002_5, x123003_5, bt156.2.1, bt156.2.2))) else (some (t116, (wrap64 ((wrap64 (a1 + 1)) + t119)), x123002_5, x123003_5, t133, t134)))))) = some (r1, r2, r3, r4, r5, r6) := H
   have A24 := Aside0.mk A240
   clear A240
   by_cases c25 : t132 = 0
   ·rw [if_pos c25] at H
    have c25b0 : (t132 == 0) = true := beq_iff_eq.mpr c25
    have c25b1 : (t132 != 0) = false := bne_eq_false_iff_eq.mpr c25
    clear c25
    obtain ⟨y135, hy135⟩ : ∃ y_ : List Int, y_ = (([0, 1000, 1001, 2] : List Int)) := ⟨_, rfl⟩
    replace H : ((spec_l1Cur_among.f s0_0 t133 t134 y135).bind fun bt138 => (some (t116, (wrap64 ((wrap64 (a1 + 1)) + t119)), x123002_5, bt138.1, bt138.2.1, bt138.2.2))) = some (r1, r2, r3, r4, r5, r6) := by first | (rw [hy135]; with_reducible exact H) | (have H2_ := (Option.bind_some _ _).symm.trans H; rw [hy135]; with_reducible exact H2_) | (have H2_ := (Option.bind_some _ _).symm.trans H; with_reducible exact H2_) | with_reducible exact H | (rw [hy135]; exact H) | exact H
    have Ny135 := Aside0.mk hy135
    clear hy135
    replace H := Option.bind_eq_some_iff.mp H
    obtain ⟨⟨t138, t139, t140⟩, A260, H⟩ := H
    replace H : (some (t116, (wrap64 ((wrap64 (a1 + 1)) + t119)), x123002_5, t138, t139, t140)) = some (r1, r2, r3, r4, r5, r6) := H
    have A26 := Aside0.mk A260
    clear A260
    simp only [Option.some.injEq, Prod.mk.injEq] at H
    obtain ⟨rfl, rfl, rfl, rfl, rfl, rfl⟩ := H
    go_wp2_with (first | ((with_reducible refine gate_callee (f := 10) rfl ?_); refine goesL_ (some 25) rfl rfl Try.func10 (by kernel_rfl) rfl #[.pointer (some ⟨g, 0, none⟩), .int .i64 40] rfl aE ?_; (with_reducible refine (spec_l1Cur_pick.calls g s0_0 x1001_5 x1002_5 40 t132 t133 t134 w0 _ ?side1 ?side2 A24.out).mono ?_); (case side1 => repeat (first | (with_reducible first | exact HI0.out | apply IsS37.alloc | apply IsS37.drewN | apply IsS37.drew | apply IsS37.set_1 | apply IsS37.set_2 | refine IsS37.far ?_ NB0_115.out _ | refine IsS37.far ?_ NB0_122.out _) | exact HI0.out)); (case side2 => repeat (first | (with_reducible first | exact HB.out | apply below_alloc | apply pw_below_drewN | apply below_drew1 | refine below_set ?_ (IsS37.ge HI0.out) | refine below_set ?_ GE115.out | refine below_set ?_ GE122.out) | exact HB.out)); rintro e w27 ⟨rfl, hi, hb, hk⟩; refine ⟨_, rfl, ?_⟩; replace BK115 := Aside0.mk (KeepBut.blk hk (g' := gb115) (o := .cells #[.int .i64 0, .int .i64 0, .int .i64 0, .int .i64 0] 47 (0, 0)) (bV BK115) NB115_0.out (by simp)); replace BK122 := Aside0.mk (KeepBut.blk hk (g' := gb122) (o := .cells #[.int .i64 t116, .int .i64 (wrap64 ((wrap64 (a1 + 1)) + t119)), .int .i64 x123002_5, .int .i64 x123003_5] 47 (0, 0)) (bV BK122) NB122_0.out (by simp)); replace HK := Aside0.mk (KeepBut.trans (by repeat (first | (with_reducible first | exact HK.out | apply KeepBut.set_ | apply keep_drewN | apply keep_drew | apply keep_alloc | refine keep_far ?_ GW115.out _ | refine keep_far ?_ GW122.out _) | exact HK.out)) hk (.inl rfl)); replace HB := Aside0.mk hb; replace HI0 := Aside0.mk hi; (try clear hb); (try clear hk); (try clear hi)) | ((with_reducible refine gate_dst (N := 29) rfl ?_); refine Kd.R_lit (Kd.int .i64) _ 3 ?hg (N := 29) ?hd (xs := ([0, 1000, 1001, 2] : List Int)) (inner := [.int .i64 0, .int .i64 1000, .int .i64 1001, .int .i64 2]) (ok := fun _ => True) (okp := fun _ => True) ?hr ?hp (fun _ hk => hk) trivial (Below.refl _ _) (Nat.le_refl _) (by simp) ?_; (case hd => rfl); (case hg => rfl); (case hr => exact sE); (case hp => exact (Reps.one (show Kd.M (Kd.int .i64) _ _ _ 0 [.int .i64 0] from rfl) (Reps.one (show Kd.M (Kd.int .i64) _ _ _ 1000 [.int .i64 1000] from rfl) (Reps.one (show Kd.M (Kd.int .i64) _ _ _ 1001 [.int .i64 1001] from rfl) (Reps.one (show Kd.M (Kd.int .i64) _ _ _ 2 [.int .i64 2] from rfl) (Reps.none _ _)))))); intro v136 w28 ho29 hb hg_ hnew_; clear hg_ hnew_; (first | rw [← Ny135.out] at ho29 | (simp only [Int.reduceToNat] at ho29; rw [← Ny135.out] at ho29)); have HO137 := Aside0.mk (Kd.R_lower ho29 (keep_size (w := w) (g := g) (row := none) (by repeat (first | (with_reducible first | exact HK.out | apply KeepBut.set_ | apply keep_drewN | apply keep_drew | apply keep_alloc | refine keep_far ?_ GW115.out _ | refine keep_far ?_ GW122.out _) | exact HK.out)))); replace BK115 := bB (bV BK115) hb; replace BK122 := bB (bV BK122) hb; replace HK := Aside0.mk (KeepBut.trans (by repeat (first | (with_reducible first | exact HK.out | apply KeepBut.set_ | apply keep_drewN | apply keep_drew | apply keep_alloc | refine keep_far ?_ GW115.out _ | refine keep_far ?_ GW122.out _) | exact HK.out)) (KeepBut.of_below hb g none) (.inl rfl)); replace HB := Aside0.mk (below_step (by repeat (first | (with_reducible first | exact HB.out | apply below_alloc | apply pw_below_drewN | apply below_drew1 | refine below_set ?_ (IsS37.ge HI0.out) | refine below_set ?_ GE115.out | refine below_set ?_ GE122.out) | exact HB.out)) hb); replace HI0 := Aside0.mk (IsS37.below (by repeat (first | (with_reducible first | exact HI0.out | apply IsS37.alloc | apply IsS37.drewN | apply IsS37.drew | apply IsS37.set_1 | apply IsS37.set_2 | refine IsS37.far ?_ NB0_115.out _ | refine IsS37.far ?_ NB0_122.out _) | exact HI0.out)) hb); clear hb ho29; obtain ⟨Ao30, co30, eo30⟩ := Kd.R_slice HO137.out; subst eo30) | ((with_reducible refine gate_callee (f := 12) rfl ?_); refine goesL_ (some 30) rfl rfl Try.func12 (by kernel_rfl) rfl #[.pointer (some ⟨g, 0, none⟩), .slice Ao30 y135.length co30] rfl aE ?_; (with_reducible refine (spec_l1Cur_among.calls g s0_0 t133 t134 _ _ y135 t138 t139 t140 w0 _ ?side1 ?side2 ?side3 ?side4 ?side5 A26.out).mono ?_); (case side1 => repeat (first | (with_reducible first | exact HI0.out | apply IsS37.alloc | apply IsS37.drewN | apply IsS37.drew | apply IsS37.set_1 | apply IsS37.set_2 | refine IsS37.far ?_ NB0_115.out _ | refine IsS37.far ?_ NB0_122.out _) | exact HI0.out)); (case side2 => repeat (first | (with_reducible first | exact HB.out | apply below_alloc | apply pw_below_drewN | apply below_drew1 | refine below_set ?_ (IsS37.ge HI0.out) | refine below_set ?_ GE115.out | refine below_set ?_ GE122.out) | exact HB.out)); (case side3 => exact cU (Kd.R_reads' HO137.out).2.2); (case side4 => exact (Kd.R_reads' HO137.out).2.1); (case side5 => exact far_slice (IsS37.own_ne HI0.out HO137.out (by decide))); rintro e w31 ⟨rfl, hi, hb, hk⟩; refine ⟨_, rfl, ?_⟩; replace BK115 := Aside0.mk (KeepBut.blk hk (g' := gb115) (o := .cells #[.int .i64 0, .int .i64 0, .int .i64 0, .int .i64 0] 47 (0, 0)) (bV BK115) NB115_0.out (by simp)); replace BK122 := Aside0.mk (KeepBut.blk hk (g' := gb122) (o := .cells #[.int .i64 t116, .int .i64 (wrap64 ((wrap64 (a1 + 1)) + t119)), .int .i64 x123002_5, .int .i64 x123003_5] 47 (0, 0)) (bV BK122) NB122_0.out (by simp)); replace HO137 := Aside0.mk (Kd.R_mono (Kd.R_keep (IsS37.apart (show IsS37 w0 _ g s0_0 t133 t134 from by repeat (first | (with_reducible first | exact HI0.out | apply IsS37.alloc | apply IsS37.drewN | apply IsS37.drew | apply IsS37.set_1 | apply IsS37.set_2 | refine IsS37.far ?_ NB0_115.out _ | refine IsS37.far ?_ NB0_122.out _) | exact HI0.out)) (rU HO137.out) (by decide)) hk (fun _ h => h.2)) (fun _ h => h.1)); replace HK := Aside0.mk (KeepBut.trans (by repeat (first | (with_reducible first | exact HK.out | apply KeepBut.set_ | apply keep_drewN | apply keep_drew | apply keep_alloc | refine keep_far ?_ GW115.out _ | refine keep_far ?_ GW122.out _) | exact HK.out)) hk (.inl rfl)); replace HB := Aside0.mk hb; replace HI0 := Aside0.mk hi; (try clear hb); (try clear hk); (try clear hi); have hnb32 := NB122_115.out; have hnc32 := NB115_122.out; have hnb33 := NB122_0.out; have hnc33 := NB0_122.out; have hcz34_0 := cz BK122 0 (.int .i64 t116); have hcz34_1 := cz BK122 1 (.int .i64 (wrap64 ((wrap64 (a1 + 1)) + t119))); have hcz34_2 := cz BK122 2 (.int .i64 x123002_5); have hcz34_3 := cz BK122 3 (.int .i64 x123003_5); have hfz34_0 := fz BK122 0; have hfz34_1 := fz BK122 1; have hfz34_2 := fz BK122 2; have hfz34_3 := fz BK122 3; have hnb35 := NB115_0.out; have hnc35 := NB0_115.out; have hcz36_0 := cz BK115 0 (.int .i64 0); have hcz36_1 := cz BK115 1 (.int .i64 0); have hcz36_2 := cz BK115 2 (.int .i64 0); have hcz36_3 := cz BK115 3 (.int .i64 0); have hfz36_0 := fz BK115 0; have hfz36_1 := fz BK115 1; have hfz36_2 := fz BK115 2; have hfz36_3 := fz BK115 3))
    refine bodyPost_ret (results_cell_row rfl _ _ gb115 47 #[.int .i64 t116, .int .i64 (wrap64 ((wrap64 (a1 + 1)) + t119)), .int .i64 x123002_5, .int .i64 t138] (0, 0) _ rfl (by refine bU ?_; refine blk_put (cs := #[.int .i64 t116, .int .i64 (wrap64 ((wrap64 (a1 + 1)) + t119)), .int .i64 x123002_5, .int .i64 0]) ?_ 3 _ rfl; refine bU ?_; refine blk_put (cs := #[.int .i64 t116, .int .i64 (wrap64 ((wrap64 (a1 + 1)) + t119)), .int .i64 0, .int .i64 0]) ?_ 2 _ rfl; refine bU ?_; refine blk_put (cs := #[.int .i64 t116, .int .i64 0, .int .i64 0, .int .i64 0]) ?_ 1 _ rfl; refine bU ?_; refine blk_put (cs := #[.int .i64 0, .int .i64 0, .int .i64 0, .int .i64 0]) ?_ 0 _ rfl; refine bU ?_; refine blk_far ?_ NB115_122.out _; refine bU ?_; exact BK115.out) Try.underlying47 rfl (by kernel_rfl)) rfl ?_
    exact ⟨eE, by repeat (first | (with_reducible first | exact HI0.out | apply IsS37.alloc | apply IsS37.drewN | apply IsS37.drew | apply IsS37.set_1 | apply IsS37.set_2 | refine IsS37.far ?_ NB0_115.out _ | refine IsS37.far ?_ NB0_122.out _) | exact HI0.out), by repeat (first | (with_reducible first | exact HB.out | apply below_alloc | apply pw_below_drewN | apply below_drew1 | refine below_set ?_ (IsS37.ge HI0.out) | refine below_set ?_ GE115.out | refine below_set ?_ GE122.out) | exact HB.out), by repeat (first | (with_reducible first | exact HK.out | apply KeepBut.set_ | apply keep_drewN | apply keep_drew | apply keep_alloc | refine keep_far ?_ GW115.out _ | refine keep_far ?_ GW122.out _) | exact HK.out)⟩
   ·rw [if_neg c25] at H
    have c25b0 : (t132 == 0) = false := beq_eq_false_iff_ne.mpr c25
    have c25b1 : (t132 != 0) = true := bne_iff_ne.mpr c25
    by_cases c37 : t132 = 1
    ·rw [if_pos c37] at H
     have c37b0 : (t132 == 1) = true := beq_iff_eq.mpr c37
     have c37b1 : (t132 != 1) = false := bne_eq_false_iff_eq.mpr c37
     clear c37
     obtain ⟨y141, hy141⟩ : ∃ y_ : List Int, y_ = (([(-1), 100000, 100001] : List Int)) := ⟨_, rfl⟩
     replace H : ((spec_l1Cur_among.f s0_0 t133 t134 y141).bind fun bt144 => (some (t116, (wrap64 ((wrap64 (a1 + 1)) + t119)), bt144.1, x123003_5, bt144.2.1, bt144.2.2))) = some (r1, r2, r3, r4, r5, r6) := by first | (rw [hy141]; with_reducible exact H) | (have H2_ := (Option.bind_some _ _).symm.trans H; rw [hy141]; with_reducible exact H2_) | (have H2_ := (Option.bind_some _ _).symm.trans H; with_reducible exact H2_) | with_reducible exact H | (rw [hy141]; exact H) | exact H
     have Ny141 := Aside0.mk hy141
     clear hy141
     replace H := Option.bind_eq_some_iff.mp H
     obtain ⟨⟨t144, t145, t146⟩, A380, H⟩ := H
     replace H : (some (t116, (wrap64 ((wrap64 (a1 + 1)) + t119)), t144, x123003_5, t145, t146)) = some (r1, r2, r3, r4, r5, r6) := H
     have A38 := Aside0.mk A380
     clear A380
     simp only [Option.some.injEq, Prod.mk.injEq] at H
     obtain ⟨rfl, rfl, rfl, rfl, rfl, rfl⟩ := H
     go_wp2_with (first | ((with_reducible refine gate_callee (f := 10) rfl ?_); refine goesL_ (some 25) rfl rfl Try.func10 (by kernel_rfl) rfl #[.pointer (some ⟨g, 0, none⟩), .int .i64 40] rfl aE ?_; (with_reducible refine (spec_l1Cur_pick.calls g s0_0 x1001_5 x1002_5 40 t132 t133 t134 w0 _ ?side1 ?side2 A24.out).mono ?_); (case side1 => repeat (first | (with_reducible first | exact HI0.out | apply IsS37.alloc | apply IsS37.drewN | apply IsS37.drew | apply IsS37.set_1 | apply IsS37.set_2 | refine IsS37.far ?_ NB0_115.out _ | refine IsS37.far ?_ NB0_122.out _) | exact HI0.out)); (case side2 => repeat (first | (with_reducible first | exact HB.out | apply below_alloc | apply pw_below_drewN | apply below_drew1 | refine below_set ?_ (IsS37.ge HI0.out) | refine below_set ?_ GE115.out | refine below_set ?_ GE122.out) | exact HB.out)); rintro e w39 ⟨rfl, hi, hb, hk⟩; refine ⟨_, rfl, ?_⟩; replace BK115 := Aside0.mk (KeepBut.blk hk (g' := gb115) (o := .cells #[.int .i64 0, .int .i64 0, .int .i64 0, .int .i64 0] 47 (0, 0)) (bV BK115) NB115_0.out (by simp)); replace BK122 := Aside0.mk (KeepBut.blk hk (g' := gb122) (o := .cells #[.int .i64 t116, .int .i64 (wrap64 ((wrap64 (a1 + 1)) + t119)), .int .i64 x123002_5, .int .i64 x123003_5] 47 (0, 0)) (bV BK122) NB122_0.out (by simp)); replace HK := Aside0.mk (KeepBut.trans (by repeat (first | (with_reducible first | exact HK.out | apply KeepBut.set_ | apply keep_drewN | apply keep_drew | apply keep_alloc | refine keep_far ?_ GW115.out _ | refine keep_far ?_ GW122.out _) | exact HK.out)) hk (.inl rfl)); replace HB := Aside0.mk hb; replace HI0 := Aside0.mk hi; (try clear hb); (try clear hk); (try clear hi)) | ((with_reducible refine gate_dst (N := 35) rfl ?_); refine Kd.R_lit (Kd.int .i64) _ 3 ?hg (N := 35) ?hd (xs := ([(-1), 100000, 100001] : List Int)) (inner := [.int .i64 (-1), .int .i64 100000, .int .i64 100001]) (ok := fun _ => True) (okp := fun _ => True) ?hr ?hp (fun _ hk => hk) trivial (Below.refl _ _) (Nat.le_refl _) (by simp) ?_; (case hd => rfl); (case hg => rfl); (case hr => exact sE); (case hp => exact (Reps.one (show Kd.M (Kd.int .i64) _ _ _ (-1) [.int .i64 (-1)] from rfl) (Reps.one (show Kd.M (Kd.int .i64) _ _ _ 100000 [.int .i64 100000] from rfl) (Reps.one (show Kd.M (Kd.int .i64) _ _ _ 100001 [.int .i64 100001] from rfl) (Reps.none _ _))))); intro v142 w40 ho41 hb hg_ hnew_; clear hg_ hnew_; (first | rw [← Ny141.out] at ho41 | (simp only [Int.reduceToNat] at ho41; rw [← Ny141.out] at ho41)); have HO143 := Aside0.mk (Kd.R_lower ho41 (keep_size (w := w) (g := g) (row := none) (by repeat (first | (with_reducible first | exact HK.out | apply KeepBut.set_ | apply keep_drewN | apply keep_drew | apply keep_alloc | refine keep_far ?_ GW115.out _ | refine keep_far ?_ GW122.out _) | exact HK.out)))); replace BK115 := bB (bV BK115) hb; replace BK122 := bB (bV BK122) hb; replace HK := Aside0.mk (KeepBut.trans (by repeat (first | (with_reducible first | exact HK.out | apply KeepBut.set_ | apply keep_drewN | apply keep_drew | apply keep_alloc | refine keep_far ?_ GW115.out _ | refine keep_far ?_ GW122.out _) | exact HK.out)) (KeepBut.of_below hb g none) (.inl rfl)); replace HB := Aside0.mk (below_step (by repeat (first | (with_reducible first | exact HB.out | apply below_alloc | apply pw_below_drewN | apply below_drew1 | refine below_set ?_ (IsS37.ge HI0.out) | refine below_set ?_ GE115.out | refine below_set ?_ GE122.out) | exact HB.out)) hb); replace HI0 := Aside0.mk (IsS37.below (by repeat (first | (with_reducible first | exact HI0.out | apply IsS37.alloc | apply IsS37.drewN | apply IsS37.drew | apply IsS37.set_1 | apply IsS37.set_2 | refine IsS37.far ?_ NB0_115.out _ | refine IsS37.far ?_ NB0_122.out _) | exact HI0.out)) hb); clear hb ho41; obtain ⟨Ao42, co42, eo42⟩ := Kd.R_slice HO143.out; subst eo42) | ((with_reducible refine gate_callee (f := 12) rfl ?_); refine goesL_ (some 36) rfl rfl Try.func12 (by kernel_rfl) rfl #[.pointer (some ⟨g, 0, none⟩), .slice Ao42 y141.length co42] rfl aE ?_; (with_reducible refine (spec_l1Cur_among.calls g s0_0 t133 t134 _ _ y141 t144 t145 t146 w0 _ ?side1 ?side2 ?side3 ?side4 ?side5 A38.out).mono ?_); (case side1 => repeat (first | (with_reducible first | exact HI0.out | apply IsS37.alloc | apply IsS37.drewN | apply IsS37.drew | apply IsS37.set_1 | apply IsS37.set_2 | refine IsS37.far ?_ NB0_115.out _ | refine IsS37.far ?_ NB0_122.out _) | exact HI0.out)); (case side2 => repeat (first | (with_reducible first | exact HB.out | apply below_alloc | apply pw_below_drewN | apply below_drew1 | refine below_set ?_ (IsS37.ge HI0.out) | refine below_set ?_ GE115.out | refine below_set ?_ GE122.out) | exact HB.out)); (case side3 => exact cU (Kd.R_reads' HO143.out).2.2); (case side4 => exact (Kd.R_reads' HO143.out).2.1); (case side5 => exact far_slice (IsS37.own_ne HI0.out HO143.out (by decide))); rintro e w43 ⟨rfl, hi, hb, hk⟩; refine ⟨_, rfl, ?_⟩; replace BK115 := Aside0.mk (KeepBut.blk hk (g' := gb115) (o := .cells #[.int .i64 0, .int .i64 0, .int .i64 0, .int .i64 0] 47 (0, 0)) (bV BK115) NB115_0.out (by simp)); replace BK122 := Aside0.mk (KeepBut.blk hk (g' := gb122) (o := .cells #[.int .i64 t116, .int .i64 (wrap64 ((wrap64 (a1 + 1)) + t119)), .int .i64 x123002_5, .int .i64 x123003_5] 47 (0, 0)) (bV BK122) NB122_0.out (by simp)); replace HO143 := Aside0.mk (Kd.R_mono (Kd.R_keep (IsS37.apart (show IsS37 w0 _ g s0_0 t133 t134 from by repeat (first | (with_reducible first | exact HI0.out | apply IsS37.alloc | apply IsS37.drewN | apply IsS37.drew | apply IsS37.set_1 | apply IsS37.set_2 | refine IsS37.far ?_ NB0_115.out _ | refine IsS37.far ?_ NB0_122.out _) | exact HI0.out)) (rU HO143.out) (by decide)) hk (fun _ h => h.2)) (fun _ h => h.1)); replace HK := Aside0.mk (KeepBut.trans (by repeat (first | (with_reducible first | exact HK.out | apply KeepBut.set_ | apply keep_drewN | apply keep_drew | apply keep_alloc | refine keep_far ?_ GW115.out _ | refine keep_far ?_ GW122.out _) | exact HK.out)) hk (.inl rfl)); replace HB := Aside0.mk hb; replace HI0 := Aside0.mk hi; (try clear hb); (try clear hk); (try clear hi); have hnb44 := NB122_115.out; have hnc44 := NB115_122.out; have hnb45 := NB122_0.out; have hnc45 := NB0_122.out; have hcz46_0 := cz BK122 0 (.int .i64 t116); have hcz46_1 := cz BK122 1 (.int .i64 (wrap64 ((wrap64 (a1 + 1)) + t119))); have hcz46_2 := cz BK122 2 (.int .i64 x123002_5); have hcz46_3 := cz BK122 3 (.int .i64 x123003_5); have hfz46_0 := fz BK122 0; have hfz46_1 := fz BK122 1; have hfz46_2 := fz BK122 2; have hfz46_3 := fz BK122 3; have hnb47 := NB115_0.out; have hnc47 := NB0_115.out; have hcz48_0 := cz BK115 0 (.int .i64 0); have hcz48_1 := cz BK115 1 (.int .i64 0); have hcz48_2 := cz BK115 2 (.int .i64 0); have hcz48_3 := cz BK115 3 (.int .i64 0); have hfz48_0 := fz BK115 0; have hfz48_1 := fz BK115 1; have hfz48_2 := fz BK115 2; have hfz48_3 := fz BK115 3))
     refine bodyPost_ret (results_cell_row rfl _ _ gb115 47 #[.int .i64 t116, .int .i64 (wrap64 ((wrap64 (a1 + 1)) + t119)), .int .i64 t144, .int .i64 x123003_5] (0, 0) _ rfl (by refine bU ?_; refine blk_put (cs := #[.int .i64 t116, .int .i64 (wrap64 ((wrap64 (a1 + 1)) + t119)), .int .i64 t144, .int .i64 0]) ?_ 3 _ rfl; refine bU ?_; refine blk_put (cs := #[.int .i64 t116, .int .i64 (wrap64 ((wrap64 (a1 + 1)) + t119)), .int .i64 0, .int .i64 0]) ?_ 2 _ rfl; refine bU ?_; refine blk_put (cs := #[.int .i64 t116, .int .i64 0, .int .i64 0, .int .i64 0]) ?_ 1 _ rfl; refine bU ?_; refine blk_put (cs := #[.int .i64 0, .int .i64 0, .int .i64 0, .int .i64 0]) ?_ 0 _ rfl; refine bU ?_; refine blk_far ?_ NB115_122.out _; refine bU ?_; exact BK115.out) Try.underlying47 rfl (by kernel_rfl)) rfl ?_
     exact ⟨eE, by repeat (first | (with_reducible first | exact HI0.out | apply IsS37.alloc | apply IsS37.drewN | apply IsS37.drew | apply IsS37.set_1 | apply IsS37.set_2 | refine IsS37.far ?_ NB0_115.out _ | refine IsS37.far ?_ NB0_122.out _) | exact HI0.out), by repeat (first | (with_reducible first | exact HB.out | apply below_alloc | apply pw_below_drewN | apply below_drew1 | refine below_set ?_ (IsS37.ge HI0.out) | refine below_set ?_ GE115.out | refine below_set ?_ GE122.out) | exact HB.out), by repeat (first | (with_reducible first | exact HK.out | apply KeepBut.set_ | apply keep_drewN | apply keep_drew | apply keep_alloc | refine keep_far ?_ GW115.out _ | refine keep_far ?_ GW122.out _) | exact HK.out)⟩
    ·rw [if_neg c37] at H
     have c37b0 : (t132 == 1) = false := beq_eq_false_iff_ne.mpr c37
     have c37b1 : (t132 != 1) = true := bne_iff_ne.mpr c37
     by_cases c49 : t132 = 2
     ·rw [if_pos c49] at H
      have c49b0 : (t132 == 2) = true := beq_iff_eq.mpr c49
      have c49b1 : (t132 != 2) = false := bne_eq_false_iff_eq.mpr c49
      clear c49
      obtain ⟨y147, hy147⟩ : ∃ y_ : List Int, y_ = (([a1, 200000, 200001, 9223372036854775807] : List Int)) := ⟨_, rfl⟩
      replace H : ((spec_l1Cur_among.f s0_0 t133 t134 y147).bind fun bt150 => (some (t116, bt150.1, x123002_5, x123003_5, bt150.2.1, bt150.2.2))) = some (r1, r2, r3, r4, r5, r6) := by first | (rw [hy147]; with_reducible exact H) | (have H2_ := (Option.bind_some _ _).symm.trans H; rw [hy147]; with_reducible exact H2_) | (have H2_ := (Option.bind_some _ _).symm.trans H; with_reducible exact H2_) | with_reducible exact H | (rw [hy147]; exact H) | exact H
      have Ny147 := Aside0.mk hy147
      clear hy147
      replace H := Option.bind_eq_some_iff.mp H
      obtain ⟨⟨t150, t151, t152⟩, A500, H⟩ := H
      replace H : (some (t116, t150, x123002_5, x123003_5, t151, t152)) = some (r1, r2, r3, r4, r5, r6) := H
      have A50 := Aside0.mk A500
      clear A500
      simp only [Option.some.injEq, Prod.mk.injEq] at H
      obtain ⟨rfl, rfl, rfl, rfl, rfl, rfl⟩ := H
      go_wp2_with (first | ((with_reducible refine gate_callee (f := 10) rfl ?_); refine goesL_ (some 25) rfl rfl Try.func10 (by kernel_rfl) rfl #[.pointer (some ⟨g, 0, none⟩), .int .i64 40] rfl aE ?_; (with_reducible refine (spec_l1Cur_pick.calls g s0_0 x1001_5 x1002_5 40 t132 t133 t134 w0 _ ?side1 ?side2 A24.out).mono ?_); (case side1 => repeat (first | (with_reducible first | exact HI0.out | apply IsS37.alloc | apply IsS37.drewN | apply IsS37.drew | apply IsS37.set_1 | apply IsS37.set_2 | refine IsS37.far ?_ NB0_115.out _ | refine IsS37.far ?_ NB0_122.out _) | exact HI0.out)); (case side2 => repeat (first | (with_reducible first | exact HB.out | apply below_alloc | apply pw_below_drewN | apply below_drew1 | refine below_set ?_ (IsS37.ge HI0.out) | refine below_set ?_ GE115.out | refine below_set ?_ GE122.out) | exact HB.out)); rintro e w51 ⟨rfl, hi, hb, hk⟩; refine ⟨_, rfl, ?_⟩; replace BK115 := Aside0.mk (KeepBut.blk hk (g' := gb115) (o := .cells #[.int .i64 0, .int .i64 0, .int .i64 0, .int .i64 0] 47 (0, 0)) (bV BK115) NB115_0.out (by simp)); replace BK122 := Aside0.mk (KeepBut.blk hk (g' := gb122) (o := .cells #[.int .i64 t116, .int .i64 (wrap64 ((wrap64 (a1 + 1)) + t119)), .int .i64 x123002_5, .int .i64 x123003_5] 47 (0, 0)) (bV BK122) NB122_0.out (by simp)); replace HK := Aside0.mk (KeepBut.trans (by repeat (first | (with_reducible first | exact HK.out | apply KeepBut.set_ | apply keep_drewN | apply keep_drew | apply keep_alloc | refine keep_far ?_ GW115.out _ | refine keep_far ?_ GW122.out _) | exact HK.out)) hk (.inl rfl)); replace HB := Aside0.mk hb; replace HI0 := Aside0.mk hi; (try clear hb); (try clear hk); (try clear hi)) | ((with_reducible refine gate_dst (N := 42) rfl ?_); refine Kd.R_lit (Kd.int .i64) _ 3 ?hg (N := 42) ?hd (xs := ([a1, 200000, 200001, 9223372036854775807] : List Int)) (inner := [.int .i64 a1, .int .i64 200000, .int .i64 200001, .int .i64 9223372036854775807]) (ok := fun _ => True) (okp := fun _ => True) ?hr ?hp (fun _ hk => hk) trivial (Below.refl _ _) (Nat.le_refl _) (by simp) ?_; (case hd => rfl); (case hg => rfl); (case hr => exact sE); (case hp => exact (Reps.one (show Kd.M (Kd.int .i64) _ _ _ a1 [.int .i64 a1] from rfl) (Reps.one (show Kd.M (Kd.int .i64) _ _ _ 200000 [.int .i64 200000] from rfl) (Reps.one (show Kd.M (Kd.int .i64) _ _ _ 200001 [.int .i64 200001] from rfl) (Reps.one (show Kd.M (Kd.int .i64) _ _ _ 9223372036854775807 [.int .i64 9223372036854775807] from rfl) (Reps.none _ _)))))); intro v148 w52 ho53 hb hg_ hnew_; clear hg_ hnew_; (first | rw [← Ny147.out] at ho53 | (simp only [Int.reduceToNat] at ho53; rw [← Ny147.out] at ho53)); have HO149 := Aside0.mk (Kd.R_lower ho53 (keep_size (w := w) (g := g) (row := none) (by repeat (first | (with_reducible first | exact HK.out | apply KeepBut.set_ | apply keep_drewN | apply keep_drew | apply keep_alloc | refine keep_far ?_ GW115.out _ | refine keep_far ?_ GW122.out _) | exact HK.out)))); replace BK115 := bB (bV BK115) hb; replace BK122 := bB (bV BK122) hb; replace HK := Aside0.mk (KeepBut.trans (by repeat (first | (with_reducible first | exact HK.out | apply KeepBut.set_ | apply keep_drewN | apply keep_drew | apply keep_alloc | refine keep_far ?_ GW115.out _ | refine keep_far ?_ GW122.out _) | exact HK.out)) (KeepBut.of_below hb g none) (.inl rfl)); replace HB := Aside0.mk (below_step (by repeat (first | (with_reducible first | exact HB.out | apply below_alloc | apply pw_below_drewN | apply below_drew1 | refine below_set ?_ (IsS37.ge HI0.out) | refine below_set ?_ GE115.out | refine below_set ?_ GE122.out) | exact HB.out)) hb); replace HI0 := Aside0.mk (IsS37.below (by repeat (first | (with_reducible first | exact HI0.out | apply IsS37.alloc | apply IsS37.drewN | apply IsS37.drew | apply IsS37.set_1 | apply IsS37.set_2 | refine IsS37.far ?_ NB0_115.out _ | refine IsS37.far ?_ NB0_122.out _) | exact HI0.out)) hb); clear hb ho53; obtain ⟨Ao54, co54, eo54⟩ := Kd.R_slice HO149.out; subst eo54) | ((with_reducible refine gate_callee (f := 12) rfl ?_); refine goesL_ (some 43) rfl rfl Try.func12 (by kernel_rfl) rfl #[.pointer (some ⟨g, 0, none⟩), .slice Ao54 y147.length co54] rfl aE ?_; (with_reducible refine (spec_l1Cur_among.calls g s0_0 t133 t134 _ _ y147 t150 t151 t152 w0 _ ?side1 ?side2 ?side3 ?side4 ?side5 A50.out).mono ?_); (case side1 => repeat (first | (with_reducible first | exact HI0.out | apply IsS37.alloc | apply IsS37.drewN | apply IsS37.drew | apply IsS37.set_1 | apply IsS37.set_2 | refine IsS37.far ?_ NB0_115.out _ | refine IsS37.far ?_ NB0_122.out _) | exact HI0.out)); (case side2 => repeat (first | (with_reducible first | exact HB.out | apply below_alloc | apply pw_below_drewN | apply below_drew1 | refine below_set ?_ (IsS37.ge HI0.out) | refine below_set ?_ GE115.out | refine below_set ?_ GE122.out) | exact HB.out)); (case side3 => exact cU (Kd.R_reads' HO149.out).2.2); (case side4 => exact (Kd.R_reads' HO149.out).2.1); (case side5 => exact far_slice (IsS37.own_ne HI0.out HO149.out (by decide))); rintro e w55 ⟨rfl, hi, hb, hk⟩; refine ⟨_, rfl, ?_⟩; replace BK115 := Aside0.mk (KeepBut.blk hk (g' := gb115) (o := .cells #[.int .i64 0, .int .i64 0, .int .i64 0, .int .i64 0] 47 (0, 0)) (bV BK115) NB115_0.out (by simp)); replace BK122 := Aside0.mk (KeepBut.blk hk (g' := gb122) (o := .cells #[.int .i64 t116, .int .i64 (wrap64 ((wrap64 (a1 + 1)) + t119)), .int .i64 x123002_5, .int .i64 x123003_5] 47 (0, 0)) (bV BK122) NB122_0.out (by simp)); replace HO149 := Aside0.mk (Kd.R_mono (Kd.R_keep (IsS37.apart (show IsS37 w0 _ g s0_0 t133 t134 from by repeat (first | (with_reducible first | exact HI0.out | apply IsS37.alloc | apply IsS37.drewN | apply IsS37.drew | apply IsS37.set_1 | apply IsS37.set_2 | refine IsS37.far ?_ NB0_115.out _ | refine IsS37.far ?_ NB0_122.out _) | exact HI0.out)) (rU HO149.out) (by decide)) hk (fun _ h => h.2)) (fun _ h => h.1)); replace HK := Aside0.mk (KeepBut.trans (by repeat (first | (with_reducible first | exact HK.out | apply KeepBut.set_ | apply keep_drewN | apply keep_drew | apply keep_alloc | refine keep_far ?_ GW115.out _ | refine keep_far ?_ GW122.out _) | exact HK.out)) hk (.inl rfl)); replace HB := Aside0.mk hb; replace HI0 := Aside0.mk hi; (try clear hb); (try clear hk); (try clear hi); have hnb56 := NB122_115.out; have hnc56 := NB115_122.out; have hnb57 := NB122_0.out; have hnc57 := NB0_122.out; have hcz58_0 := cz BK122 0 (.int .i64 t116); have hcz58_1 := cz BK122 1 (.int .i64 (wrap64 ((wrap64 (a1 + 1)) + t119))); have hcz58_2 := cz BK122 2 (.int .i64 x123002_5); have hcz58_3 := cz BK122 3 (.int .i64 x123003_5); have hfz58_0 := fz BK122 0; have hfz58_1 := fz BK122 1; have hfz58_2 := fz BK122 2; have hfz58_3 := fz BK122 3; have hnb59 := NB115_0.out; have hnc59 := NB0_115.out; have hcz60_0 := cz BK115 0 (.int .i64 0); have hcz60_1 := cz BK115 1 (.int .i64 0); have hcz60_2 := cz BK115 2 (.int .i64 0); have hcz60_3 := cz BK115 3 (.int .i64 0); have hfz60_0 := fz BK115 0; have hfz60_1 := fz BK115 1; have hfz60_2 := fz BK115 2; have hfz60_3 := fz BK115 3))
      refine bodyPost_ret (results_cell_row rfl _ _ gb115 47 #[.int .i64 t116, .int .i64 t150, .int .i64 x123002_5, .int .i64 x123003_5] (0, 0) _ rfl (by refine bU ?_; refine blk_put (cs := #[.int .i64 t116, .int .i64 t150, .int .i64 x123002_5, .int .i64 0]) ?_ 3 _ rfl; refine bU ?_; refine blk_put (cs := #[.int .i64 t116, .int .i64 t150, .int .i64 0, .int .i64 0]) ?_ 2 _ rfl; refine bU ?_; refine blk_put (cs := #[.int .i64 t116, .int .i64 0, .int .i64 0, .int .i64 0]) ?_ 1 _ rfl; refine bU ?_; refine blk_put (cs := #[.int .i64 0, .int .i64 0, .int .i64 0, .int .i64 0]) ?_ 0 _ rfl; refine bU ?_; refine blk_far ?_ NB115_122.out _; refine bU ?_; exact BK115.out) Try.underlying47 rfl (by kernel_rfl)) rfl ?_
      exact ⟨eE, by repeat (first | (with_reducible first | exact HI0.out | apply IsS37.alloc | apply IsS37.drewN | apply IsS37.drew | apply IsS37.set_1 | apply IsS37.set_2 | refine IsS37.far ?_ NB0_115.out _ | refine IsS37.far ?_ NB0_122.out _) | exact HI0.out), by repeat (first | (with_reducible first | exact HB.out | apply below_alloc | apply pw_below_drewN | apply below_drew1 | refine below_set ?_ (IsS37.ge HI0.out) | refine below_set ?_ GE115.out | refine below_set ?_ GE122.out) | exact HB.out), by repeat (first | (with_reducible first | exact HK.out | apply KeepBut.set_ | apply keep_drewN | apply keep_drew | apply keep_alloc | refine keep_far ?_ GW115.out _ | refine keep_far ?_ GW122.out _) | exact HK.out)⟩
     ·rw [if_neg c49] at H
      have c49b0 : (t132 == 2) = false := beq_eq_false_iff_ne.mpr c49
      have c49b1 : (t132 != 2) = true := bne_iff_ne.mpr c49
      by_cases c61 : t132 = 3
      ·rw [if_pos c61] at H
       have c61b0 : (t132 == 3) = true := beq_iff_eq.mpr c61
       have c61b1 : (t132 != 3) = false := bne_eq_false_iff_eq.mpr c61
       clear c61
       obtain ⟨y153, hy153⟩ : ∃ y_ : List Int, y_ = (([(-1), 999, 1000] : List Int)) := ⟨_, rfl⟩
       replace H : ((spec_l1Cur_among.f s0_0 t133 t134 y153).bind fun bt156 => (some (bt156.1, (wrap64 ((wrap64 (a1 + 1)) + t119)), x123002_5, x123003_5, bt156.2.1, bt156.2.2))) = some (r1, r2, r3, r4, r5, r6) := by first | (rw [hy153]; with_reducible exact H) | (have H2_ := (Option.bind_some _ _).symm.trans H; rw [hy153]; with_reducible exact H2_) | (have H2_ := (Option.bind_some _ _).symm.trans H; with_reducible exact H2_) | with_reducible exact H | (rw [hy153]; exact H) | exact H
       have Ny153 := Aside0.mk hy153
       clear hy153
       replace H := Option.bind_eq_some_iff.mp H
       obtain ⟨⟨t156, t157, t158⟩, A620, H⟩ := H
       replace H : (some (t156, (wrap64 ((wrap64 (a1 + 1)) + t119)), x123002_5, x123003_5, t157, t158)) = some (r1, r2, r3, r4, r5, r6) := H
       have A62 := Aside0.mk A620
       clear A620
       simp only [Option.some.injEq, Prod.mk.injEq] at H
       obtain ⟨rfl, rfl, rfl, rfl, rfl, rfl⟩ := H
       go_wp2_with (first | ((with_reducible refine gate_callee (f := 10) rfl ?_); refine goesL_ (some 25) rfl rfl Try.func10 (by kernel_rfl) rfl #[.pointer (some ⟨g, 0, none⟩), .int .i64 40] rfl aE ?_; (with_reducible refine (spec_l1Cur_pick.calls g s0_0 x1001_5 x1002_5 40 t132 t133 t134 w0 _ ?side1 ?side2 A24.out).mono ?_); (case side1 => repeat (first | (with_reducible first | exact HI0.out | apply IsS37.alloc | apply IsS37.drewN | apply IsS37.drew | apply IsS37.set_1 | apply IsS37.set_2 | refine IsS37.far ?_ NB0_115.out _ | refine IsS37.far ?_ NB0_122.out _) | exact HI0.out)); (case side2 => repeat (first | (with_reducible first | exact HB.out | apply below_alloc | apply pw_below_drewN | apply below_drew1 | refine below_set ?_ (IsS37.ge HI0.out) | refine below_set ?_ GE115.out | refine below_set ?_ GE122.out) | exact HB.out)); rintro e w63 ⟨rfl, hi, hb, hk⟩; refine ⟨_, rfl, ?_⟩; replace BK115 := Aside0.mk (KeepBut.blk hk (g' := gb115) (o := .cells #[.int .i64 0, .int .i64 0, .int .i64 0, .int .i64 0] 47 (0, 0)) (bV BK115) NB115_0.out (by simp)); replace BK122 := Aside0.mk (KeepBut.blk hk (g' := gb122) (o := .cells #[.int .i64 t116, .int .i64 (wrap64 ((wrap64 (a1 + 1)) + t119)), .int .i64 x123002_5, .int .i64 x123003_5] 47 (0, 0)) (bV BK122) NB122_0.out (by simp)); replace HK := Aside0.mk (KeepBut.trans (by repeat (first | (with_reducible first | exact HK.out | apply KeepBut.set_ | apply keep_drewN | apply keep_drew | apply keep_alloc | refine keep_far ?_ GW115.out _ | refine keep_far ?_ GW122.out _) | exact HK.out)) hk (.inl rfl)); replace HB := Aside0.mk hb; replace HI0 := Aside0.mk hi; (try clear hb); (try clear hk); (try clear hi)) | ((with_reducible refine gate_dst (N := 48) rfl ?_); refine Kd.R_lit (Kd.int .i64) _ 3 ?hg (N := 48) ?hd (xs := ([(-1), 999, 1000] : List Int)) (inner := [.int .i64 (-1), .int .i64 999, .int .i64 1000]) (ok := fun _ => True) (okp := fun _ => True) ?hr ?hp (fun _ hk => hk) trivial (Below.refl _ _) (Nat.le_refl _) (by simp) ?_; (case hd => rfl); (case hg => rfl); (case hr => exact sE); (case hp => exact (Reps.one (show Kd.M (Kd.int .i64) _ _ _ (-1) [.int .i64 (-1)] from rfl) (Reps.one (show Kd.M (Kd.int .i64) _ _ _ 999 [.int .i64 999] from rfl) (Reps.one (show Kd.M (Kd.int .i64) _ _ _ 1000 [.int .i64 1000] from rfl) (Reps.none _ _))))); intro v154 w64 ho65 hb hg_ hnew_; clear hg_ hnew_; (first | rw [← Ny153.out] at ho65 | (simp only [Int.reduceToNat] at ho65; rw [← Ny153.out] at ho65)); have HO155 := Aside0.mk (Kd.R_lower ho65 (keep_size (w := w) (g := g) (row := none) (by repeat (first | (with_reducible first | exact HK.out | apply KeepBut.set_ | apply keep_drewN | apply keep_drew | apply keep_alloc | refine keep_far ?_ GW115.out _ | refine keep_far ?_ GW122.out _) | exact HK.out)))); replace BK115 := bB (bV BK115) hb; replace BK122 := bB (bV BK122) hb; replace HK := Aside0.mk (KeepBut.trans (by repeat (first | (with_reducible first | exact HK.out | apply KeepBut.set_ | apply keep_drewN | apply keep_drew | apply keep_alloc | refine keep_far ?_ GW115.out _ | refine keep_far ?_ GW122.out _) | exact HK.out)) (KeepBut.of_below hb g none) (.inl rfl)); replace HB := Aside0.mk (below_step (by repeat (first | (with_reducible first | exact HB.out | apply below_alloc | apply pw_below_drewN | apply below_drew1 | refine below_set ?_ (IsS37.ge HI0.out) | refine below_set ?_ GE115.out | refine below_set ?_ GE122.out) | exact HB.out)) hb); replace HI0 := Aside0.mk (IsS37.below (by repeat (first | (with_reducible first | exact HI0.out | apply IsS37.alloc | apply IsS37.drewN | apply IsS37.drew | apply IsS37.set_1 | apply IsS37.set_2 | refine IsS37.far ?_ NB0_115.out _ | refine IsS37.far ?_ NB0_122.out _) | exact HI0.out)) hb); clear hb ho65; obtain ⟨Ao66, co66, eo66⟩ := Kd.R_slice HO155.out; subst eo66) | ((with_reducible refine gate_callee (f := 12) rfl ?_); refine goesL_ (some 49) rfl rfl Try.func12 (by kernel_rfl) rfl #[.pointer (some ⟨g, 0, none⟩), .slice Ao66 y153.length co66] rfl aE ?_; (with_reducible refine (spec_l1Cur_among.calls g s0_0 t133 t134 _ _ y153 t156 t157 t158 w0 _ ?side1 ?side2 ?side3 ?side4 ?side5 A62.out).mono ?_); (case side1 => repeat (first | (with_reducible first | exact HI0.out | apply IsS37.alloc | apply IsS37.drewN | apply IsS37.drew | apply IsS37.set_1 | apply IsS37.set_2 | refine IsS37.far ?_ NB0_115.out _ | refine IsS37.far ?_ NB0_122.out _) | exact HI0.out)); (case side2 => repeat (first | (with_reducible first | exact HB.out | apply below_alloc | apply pw_below_drewN | apply below_drew1 | refine below_set ?_ (IsS37.ge HI0.out) | refine below_set ?_ GE115.out | refine below_set ?_ GE122.out) | exact HB.out)); (case side3 => exact cU (Kd.R_reads' HO155.out).2.2); (case side4 => exact (Kd.R_reads' HO155.out).2.1); (case side5 => exact far_slice (IsS37.own_ne HI0.out HO155.out (by decide))); rintro e w67 ⟨rfl, hi, hb, hk⟩; refine ⟨_, rfl, ?_⟩; replace BK115 := Aside0.mk (KeepBut.blk hk (g' := gb115) (o := .cells #[.int .i64 0, .int .i64 0, .int .i64 0, .int .i64 0] 47 (0, 0)) (bV BK115) NB115_0.out (by simp)); replace BK122 := Aside0.mk (KeepBut.blk hk (g' := gb122) (o := .cells #[.int .i64 t116, .int .i64 (wrap64 ((wrap64 (a1 + 1)) + t119)), .int .i64 x123002_5, .int .i64 x123003_5] 47 (0, 0)) (bV BK122) NB122_0.out (by simp)); replace HO155 := Aside0.mk (Kd.R_mono (Kd.R_keep (IsS37.apart (show IsS37 w0 _ g s0_0 t133 t134 from by repeat (first | (with_reducible first | exact HI0.out | apply IsS37.alloc | apply IsS37.drewN | apply IsS37.drew | apply IsS37.set_1 | apply IsS37.set_2 | refine IsS37.far ?_ NB0_115.out _ | refine IsS37.far ?_ NB0_122.out _) | exact HI0.out)) (rU HO155.out) (by decide)) hk (fun _ h => h.2)) (fun _ h => h.1)); replace HK := Aside0.mk (KeepBut.trans (by repeat (first | (with_reducible first | exact HK.out | apply KeepBut.set_ | apply keep_drewN | apply keep_drew | apply keep_alloc | refine keep_far ?_ GW115.out _ | refine keep_far ?_ GW122.out _) | exact HK.out)) hk (.inl rfl)); replace HB := Aside0.mk hb; replace HI0 := Aside0.mk hi; (try clear hb); (try clear hk); (try clear hi); have hnb68 := NB122_115.out; have hnc68 := NB115_122.out; have hnb69 := NB122_0.out; have hnc69 := NB0_122.out; have hcz70_0 := cz BK122 0 (.int .i64 t116); have hcz70_1 := cz BK122 1 (.int .i64 (wrap64 ((wrap64 (a1 + 1)) + t119))); have hcz70_2 := cz BK122 2 (.int .i64 x123002_5); have hcz70_3 := cz BK122 3 (.int .i64 x123003_5); have hfz70_0 := fz BK122 0; have hfz70_1 := fz BK122 1; have hfz70_2 := fz BK122 2; have hfz70_3 := fz BK122 3; have hnb71 := NB115_0.out; have hnc71 := NB0_115.out; have hcz72_0 := cz BK115 0 (.int .i64 0); have hcz72_1 := cz BK115 1 (.int .i64 0); have hcz72_2 := cz BK115 2 (.int .i64 0); have hcz72_3 := cz BK115 3 (.int .i64 0); have hfz72_0 := fz BK115 0; have hfz72_1 := fz BK115 1; have hfz72_2 := fz BK115 2; have hfz72_3 := fz BK115 3))
       refine bodyPost_ret (results_cell_row rfl _ _ gb115 47 #[.int .i64 t156, .int .i64 (wrap64 ((wrap64 (a1 + 1)) + t119)), .int .i64 x123002_5, .int .i64 x123003_5] (0, 0) _ rfl (by refine bU ?_; refine blk_put (cs := #[.int .i64 t156, .int .i64 (wrap64 ((wrap64 (a1 + 1)) + t119)), .int .i64 x123002_5, .int .i64 0]) ?_ 3 _ rfl; refine bU ?_; refine blk_put (cs := #[.int .i64 t156, .int .i64 (wrap64 ((wrap64 (a1 + 1)) + t119)), .int .i64 0, .int .i64 0]) ?_ 2 _ rfl; refine bU ?_; refine blk_put (cs := #[.int .i64 t156, .int .i64 0, .int .i64 0, .int .i64 0]) ?_ 1 _ rfl; refine bU ?_; refine blk_put (cs := #[.int .i64 0, .int .i64 0, .int .i64 0, .int .i64 0]) ?_ 0 _ rfl; refine bU ?_; refine blk_far ?_ NB115_122.out _; refine bU ?_; exact BK115.out) Try.underlying47 rfl (by kernel_rfl)) rfl ?_
       exact ⟨eE, by repeat (first | (with_reducible first | exact HI0.out | apply IsS37.alloc | apply IsS37.drewN | apply IsS37.drew | apply IsS37.set_1 | apply IsS37.set_2 | refine IsS37.far ?_ NB0_115.out _ | refine IsS37.far ?_ NB0_122.out _) | exact HI0.out), by repeat (first | (with_reducible first | exact HB.out | apply below_alloc | apply pw_below_drewN | apply below_drew1 | refine below_set ?_ (IsS37.ge HI0.out) | refine below_set ?_ GE115.out | refine below_set ?_ GE122.out) | exact HB.out), by repeat (first | (with_reducible first | exact HK.out | apply KeepBut.set_ | apply keep_drewN | apply keep_drew | apply keep_alloc | refine keep_far ?_ GW115.out _ | refine keep_far ?_ GW122.out _) | exact HK.out)⟩
      ·rw [if_neg c61] at H
       have c61b0 : (t132 == 3) = false := beq_eq_false_iff_ne.mpr c61
       have c61b1 : (t132 != 3) = true := bne_iff_ne.mpr c61
       simp only [Option.some.injEq, Prod.mk.injEq] at H
       obtain ⟨rfl, rfl, rfl, rfl, rfl, rfl⟩ := H
       go_wp2_with (first | ((with_reducible refine gate_callee (f := 10) rfl ?_); refine goesL_ (some 25) rfl rfl Try.func10 (by kernel_rfl) rfl #[.pointer (some ⟨g, 0, none⟩), .int .i64 40] rfl aE ?_; (with_reducible refine (spec_l1Cur_pick.calls g s0_0 x1001_5 x1002_5 40 t132 t133 t134 w0 _ ?side1 ?side2 A24.out).mono ?_); (case side1 => repeat (first | (with_reducible first | exact HI0.out | apply IsS37.alloc | apply IsS37.drewN | apply IsS37.drew | apply IsS37.set_1 | apply IsS37.set_2 | refine IsS37.far ?_ NB0_115.out _ | refine IsS37.far ?_ NB0_122.out _) | exact HI0.out)); (case side2 => repeat (first | (with_reducible first | exact HB.out | apply below_alloc | apply pw_below_drewN | apply below_drew1 | refine below_set ?_ (IsS37.ge HI0.out) | refine below_set ?_ GE115.out | refine below_set ?_ GE122.out) | exact HB.out)); rintro e w73 ⟨rfl, hi, hb, hk⟩; refine ⟨_, rfl, ?_⟩; replace BK115 := Aside0.mk (KeepBut.blk hk (g' := gb115) (o := .cells #[.int .i64 0, .int .i64 0, .int .i64 0, .int .i64 0] 47 (0, 0)) (bV BK115) NB115_0.out (by simp)); replace BK122 := Aside0.mk (KeepBut.blk hk (g' := gb122) (o := .cells #[.int .i64 t116, .int .i64 (wrap64 ((wrap64 (a1 + 1)) + t119)), .int .i64 x123002_5, .int .i64 x123003_5] 47 (0, 0)) (bV BK122) NB122_0.out (by simp)); replace HK := Aside0.mk (KeepBut.trans (by repeat (first | (with_reducible first | exact HK.out | apply KeepBut.set_ | apply keep_drewN | apply keep_drew | apply keep_alloc | refine keep_far ?_ GW115.out _ | refine keep_far ?_ GW122.out _) | exact HK.out)) hk (.inl rfl)); replace HB := Aside0.mk hb; replace HI0 := Aside0.mk hi; (try clear hb); (try clear hk); (try clear hi); have hnb74 := NB122_115.out; have hnc74 := NB115_122.out; have hnb75 := NB122_0.out; have hnc75 := NB0_122.out; have hcz76_0 := cz BK122 0 (.int .i64 t116); have hcz76_1 := cz BK122 1 (.int .i64 (wrap64 ((wrap64 (a1 + 1)) + t119))); have hcz76_2 := cz BK122 2 (.int .i64 x123002_5); have hcz76_3 := cz BK122 3 (.int .i64 x123003_5); have hfz76_0 := fz BK122 0; have hfz76_1 := fz BK122 1; have hfz76_2 := fz BK122 2; have hfz76_3 := fz BK122 3; have hnb77 := NB115_0.out; have hnc77 := NB0_115.out; have hcz78_0 := cz BK115 0 (.int .i64 0); have hcz78_1 := cz BK115 1 (.int .i64 0); have hcz78_2 := cz BK115 2 (.int .i64 0); have hcz78_3 := cz BK115 3 (.int .i64 0); have hfz78_0 := fz BK115 0; have hfz78_1 := fz BK115 1; have hfz78_2 := fz BK115 2; have hfz78_3 := fz BK115 3))
       refine bodyPost_ret (results_cell_row rfl _ _ gb115 47 #[.int .i64 t116, .int .i64 (wrap64 ((wrap64 (a1 + 1)) + t119)), .int .i64 x123002_5, .int .i64 x123003_5] (0, 0) _ rfl (by refine bU ?_; refine blk_put (cs := #[.int .i64 t116, .int .i64 (wrap64 ((wrap64 (a1 + 1)) + t119)), .int .i64 x123002_5, .int .i64 0]) ?_ 3 _ rfl; refine bU ?_; refine blk_put (cs := #[.int .i64 t116, .int .i64 (wrap64 ((wrap64 (a1 + 1)) + t119)), .int .i64 0, .int .i64 0]) ?_ 2 _ rfl; refine bU ?_; refine blk_put (cs := #[.int .i64 t116, .int .i64 0, .int .i64 0, .int .i64 0]) ?_ 1 _ rfl; refine bU ?_; refine blk_put (cs := #[.int .i64 0, .int .i64 0, .int .i64 0, .int .i64 0]) ?_ 0 _ rfl; refine bU ?_; exact BK115.out) Try.underlying47 rfl (by kernel_rfl)) rfl ?_
       exact ⟨eE, by repeat (first | (with_reducible first | exact HI0.out | apply IsS37.alloc | apply IsS37.drewN | apply IsS37.drew | apply IsS37.set_1 | apply IsS37.set_2 | refine IsS37.far ?_ NB0_115.out _ | refine IsS37.far ?_ NB0_122.out _) | exact HI0.out), by repeat (first | (with_reducible first | exact HB.out | apply below_alloc | apply pw_below_drewN | apply below_drew1 | refine below_set ?_ (IsS37.ge HI0.out) | refine below_set ?_ GE115.out | refine below_set ?_ GE122.out) | exact HB.out), by repeat (first | (with_reducible first | exact HK.out | apply KeepBut.set_ | apply keep_drewN | apply keep_drew | apply keep_alloc | refine keep_far ?_ GW115.out _ | refine keep_far ?_ GW122.out _) | exact HK.out)⟩
def spec_l1In.f (a0 : Int) (a1 : Int) (a2 : Int) : Option (Bool) := if a0 ≥ a1 then (some (decide (a0 ≤ a2))) else (some false)
set_option maxHeartbeats 8000000 in
set_option maxRecDepth 100000 in
theorem spec_l1In.calls (a0 : Int) (a1 : Int) (a2 : Int) (r : Bool) (w : World) (h : spec_l1In.f a0 a1 a2 = some r) :
  Calls Try.prog 18 #[.int .i64 a0, .int .i64 a1, .int .i64 a2] w fun e w' => e = .returned (.bool r) ∧ Drawn0 w w' := by
 have H : (if a0 ≥ a1 then (some (decide (a0 ≤ a2))) else (some false)) = some r := h
 clear h
 by_cases c4 : a0 ≥ a1
 ·rw [if_pos c4] at H
  have c4b0 : decide (a1 ≤ a0) = true := decide_eq_true c4
  clear c4
  obtain rfl := Option.some.inj H
  go_enter Try.func18, Try.ntmps18
  go_wp2
  go_ret
  exact ⟨by first | rfl | (simp; done) | (simp [*]; done) | exact not_isEmpty _ | exact (not_isEmpty _).symm | exact is_empty _ | exact (is_empty _).symm, by repeat (first | exact Drawn0.refl _ | apply Drawn0.step)⟩
 ·rw [if_neg c4] at H
  have c4b0 : decide (a1 ≤ a0) = false := decide_eq_false c4
  clear c4
  obtain rfl := Option.some.inj H
  go_enter Try.func18, Try.ntmps18
  go_wp2
  go_ret
  exact ⟨by first | rfl | (simp; done) | (simp [*]; done) | exact not_isEmpty _ | exact (not_isEmpty _).symm | exact is_empty _ | exact (is_empty _).symm, by repeat (first | exact Drawn0.refl _ | apply Drawn0.step)⟩
end Go.Proofs.Ythacmchmppnldaa.PFnPieces
