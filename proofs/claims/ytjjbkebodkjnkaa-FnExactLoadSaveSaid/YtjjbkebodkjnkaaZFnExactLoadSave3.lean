/- Texts of a row. -/
import Derived.Test.YtjjbkebodkjnkaaZFnExactLoadSave0
import Derived.Deep.RegionLaw
import Derived.Lib.SliceRun
import Derived.Laws.Externs
import Derived.Lib.Bytealg
import Derived.Laws.CopyOwn
import Derived.Lib.Overlaps
import Derived.Lib.AppendZerosOnto
import Derived.Laws.AppendOwn
import Derived.Test.YtjjbkebodkjnkaaZFnExactLoadSave1
import Derived.Test.YtjjbkebodkjnkaaProg
import Derived.Below
import Derived.Deep.Draws
import Derived.Deep.AppendLies
import Derived.Maps.AppendAt
import Derived.OwnWalk
import Derived.Laws.BytesArg
import Derived.Laws.MakeOwn
import Derived.Laws.OwnMore
import Derived.Deep.OwnRows
import Derived.Tactics
import Derived.Lib.ConvBytes
import Derived.Laws.Slices
import Derived.WalkKit
import Derived.KernelRfl
import Derived.RowKit3
import Derived.Deep.LoopGhost
import Derived.Deep.QuietTactic
import Derived.BigQuiet
import Derived.WideLaws
import Derived.Deep.DeepCutAuto
import Derived.Deep.CutBlock
import Derived.Deep.RegionHeld3
import Derived.Laws.Rows
import Derived.Lib.AppendStr
import Derived.ArgAppend
import Derived.Laws.IdiomCopy
import Derived.OrdersHeld
import Derived.Laws.BitsLemmas
import Derived.RowKit
import Derived.Laws.Cover1
import Derived.Test.YtjjbkebodkjnkaaZFnExactLoadSave2
namespace Go.Proofs.YtjjbkebodkjnkaaW.PrintWords
open Go.RowKit
namespace Kd
section
variable {P : Program} {α : Type}
theorem zero_cells (z : Value) (sz m : Nat) (hz : z.cells.size = sz) (h1 : ∀ u ∈ z.cells.toList, u.oneCell' = true) : (Builtin.zeroCells z.cells m).toList.length = m * sz ∧ ∀ u ∈ (Builtin.zeroCells z.cells m).toList, u.oneCell' = true := by
 subst hz
 refine ⟨by simp [Builtin.zeroCells], fun u hu => ?_⟩
 simp only [Builtin.zeroCells, Array.toList_map, List.mem_map, Array.toList_range, List.mem_range] at hu
 obtain ⟨q, hq, rfl⟩ := hu
 have h0 : 0 < z.cells.size := by
  rcases Nat.eq_zero_or_pos z.cells.size with h | h
  ·rw [h] at hq; omega
  ·exact h
 have hlt : q % z.cells.size < z.cells.size := Nat.mod_lt _ h0
 rw [getElem!_pos z.cells _ hlt]
 exact h1 _ (Array.getElem_mem_toList hlt)
theorem R_clear_run (d : Kd α) {W : World} (base : Nat) (t ty e : TypeId) (i : TypeInfo) (z : Value) (ht : P.underlying t = some (.slice e)) (hi : P.info? e = some i) (hiz : i.zero = some z) (hz : z.cells.size = d.sz) (hz1 : ∀ u ∈ z.cells.toList, u.oneCell' = true)
  {g n c m cc : Nat} {xs : List α} {ok : Nat → Prop} (HO : d.R e W base ok (.slice (some ⟨g, 0, none⟩) n c) xs) (hm0 : 0 < m) (hm : n + m ≤ c) :
  ∃ w1, (Builtin.clear_ #[t] ty #[.slice (some ⟨g, n * d.sz, none⟩) m cc]).run P W = .ok (.tuple #[]) w1 ∧ d.R e w1 base ok (.slice (some ⟨g, 0, none⟩) n c) xs ∧ W.grownBy w1 (some g) := by
 obtain ⟨hn, hnc, _⟩ := R_reads' HO
 obtain ⟨hok, inner, hown, hr⟩ := HO
 have hin : inner.length = n * d.sz := by rw [hr.1, hn]
 rcases hown.2 with ⟨hv, _⟩ | ⟨g', cap', cur, hv, hb, hh, _, hcm, hcs, htake⟩
 ·cases hv
 injection hv with ha _ hc
 injection ha with ha
 injection ha with hg
 subst hg; subst hc
 rw [← hn] at htake
 obtain ⟨zs, hzs⟩ : ∃ zs, zs = (Builtin.zeroCells z.cells m).toList := ⟨_, rfl⟩
 obtain ⟨hzl, hz2⟩ := zero_cells z d.sz m hz hz1
 rw [← hzs] at hzl hz2
 have hfit : n * d.sz + zs.length ≤ cur.size := by rw [hzl, hcs, ← Nat.add_mul]; exact Nat.mul_le_mul_right _ hm
 have hst := run_storeCells_cells (P := P) g (n * d.sz) zs 0 W (fun j hj => by rw [Nat.add_zero, cell_of_row W g _ cur e (0, 0) hh]; simp; omega) (fun j _ => blk_frozen hh _) hz2
 simp only [Nat.add_zero] at hst
 have hzv : (zeroValue e).run P W = .ok z W := by simp [zeroValue, typeInfo, hi, hiz]
 have hrun : (Builtin.clear_ #[t] ty #[.slice (some ⟨g, n * d.sz, none⟩) m cc]).run P W = .ok (.tuple #[]) (W.setCells g (n * d.sz) zs) := by
  rw [hzs] at hst ⊢
  obtain ⟨m', rfl⟩ : ∃ m', m = m' + 1 := ⟨m - 1, by omega⟩
  simp [Builtin.clear_, run_underlying ht, hzv, hst]
 obtain ⟨cur', h3, h4, h5⟩ := setCells_row zs (n * d.sz) W cur hh hfit
 obtain ⟨s1, s2, s3, s4⟩ := setCells_same g zs (n * d.sz) W
 have hfar : ∀ k', k' ≠ g → (W.setCells g (n * d.sz) zs).heap[k']? = W.heap[k']? := fun k' hk' => setCells_far zs _ k' hk'
 have hgo : ∀ m, some g = (Value.slice (some ⟨g, 0, none⟩) m c).ownBlock := fun m => by simp [Value.ownBlock]
 refine ⟨_, hrun, ⟨hok, inner, ⟨hown.1, .inr ⟨g, c, cur', by rw [hn], hb, h3, by rw [← hn]; exact hnc, hcm, by rw [h4, hcs], ?_⟩⟩, ?_⟩, ⟨s1, s2, s3, by rw [s4]; exact Nat.le_refl _, fun k' _ hk' => hfar k' (fun he => hk' (by rw [he]))⟩⟩
 ·rw [← hn, h5]
  rw [List.append_assoc, List.take_append_of_le_length (by rw [List.length_take, Array.length_toList]; omega), List.take_take, Nat.min_self]
  exact htake
 ·exact hr.imp_ fun p q hp => d.M_move (fun k' hk' => hfar k' (fun he => hk'.2 (by rw [he]; exact hgo _))) hp
end
end Kd
end Go.Proofs.YtjjbkebodkjnkaaW.PrintWords
namespace Go.Proofs.YtjjbkebodkjnkaaW.PrintLast
open Go.RowKit Go.Proofs.YtjjbkebodkjnkaaW.PrintWords
def bz (n m : Nat) : Array Bool := ((List.range n).map fun i => m.testBit i).toArray
section
variable {P : Program} {ops : Array Oper} {Q : Exit → Act → World → Prop} {md : Region.Mode} {S : World → Prop} {ds : List Nat}
theorem pureA (i : Nat) (N : Tmp) {oi : Oper} {v : Value} {fuel : Nat} {l : Array Bool} {a : Act} {w : World} (l' : Array Bool) {a' : Act} (hi : ops[i]? = some oi) (hN : oi.dst = some N) (hc : anyB md ops l l' i = true) (h : wpAnyLast P md ops Q S ds fuel l' a' w)
  (hQ : ∀ c a w, Q (.panic c) (a.put oi.dst v) w → Q (.panic c) a w := by exact fun _ _ _ h => h) (hw : Region.wanted oi (yielded ops a.tmps) = true := by rfl)
  (hy : ∀ w, (execOp a.eval oi).run P w = .ok (.value v) w := by intro w'; go_simp; with_reducible rfl) (ha : a.put (some N) v = a' := by simp only [Act.put, List.setIfInBounds_toArray, List.set_cons_zero, List.set_cons_succ, i64_w, i32_w]; rfl) : wpAnyLast P md ops Q S ds (fuel + 1) l a w :=
 pure_ l' hi hN hc hQ (Or.inl ⟨hw, hy⟩) ha h
theorem pureU (i : Nat) (N : Tmp) {oi : Oper} {fuel : Nat} {l : Array Bool} {a : Act} {w : World} (l' : Array Bool) {a' : Act} (hi : ops[i]? = some oi) (hN : oi.dst = some N) (hc : anyB md ops l l' i = true) (h : wpAnyLast P md ops Q S ds fuel l' a' w)
  (hQ : ∀ c a w, Q (.panic c) (a.put oi.dst undef) w → Q (.panic c) a w := by exact fun _ _ _ h => h) (hw : Region.wanted oi (yielded ops a.tmps) = false := by rfl)
  (ha : a.put (some N) undef = a' := by simp only [Act.put, List.setIfInBounds_toArray, List.set_cons_zero, List.set_cons_succ, i64_w, i32_w]; rfl) : wpAnyLast P md ops Q S ds (fuel + 1) l a w :=
 pure_ l' hi hN hc hQ (Or.inr ⟨hw, rfl⟩) ha h
theorem takeA (i : Nat) (N : Tmp) {oi : Oper} {v : Value} {fuel : Nat} {l : Array Bool} {a : Act} {w : World} (l' : Array Bool) {a' : Act} (hi : ops[i]? = some oi) (hN : oi.dst = some N) (hc : takeB md ops ds l l' i = true) (hS : S w) (hy : ∀ w, S w → (execOp a.eval oi).run P w = .ok (.value v) w) (h : wpAnyLast P md ops Q S ds fuel l' a' w)
  (hQ : ∀ c a w, Q (.panic c) (a.put oi.dst v) w → Q (.panic c) a w := by exact fun _ _ _ h => h) (hw : Region.wanted oi (yielded ops a.tmps) = true := by rfl)
  (ha : a.put (some N) v = a' := by simp only [Act.put, List.setIfInBounds_toArray, List.set_cons_zero, List.set_cons_succ, i64_w, i32_w]; rfl) : wpAnyLast P md ops Q S ds (fuel + 1) l a w :=
 take_ l' hi hN hc hQ (Or.inl ⟨hw, hy⟩) hS ha h
end
end Go.Proofs.YtjjbkebodkjnkaaW.PrintLast
namespace Go.Proofs.YtjjbkebodkjnkaaW.PrintWords
open Go.RowKit
end Go.Proofs.YtjjbkebodkjnkaaW.PrintWords
namespace Go.Proofs.YtjjbkebodkjnkaaW.PrintWords
open Go.RowKit
section
variable {P : Program} {ops : Array Oper} {o : Oper} {a : Act} {Q : Exit → Act → World → Prop} {Kc : Act → World → Prop}
end
end Go.Proofs.YtjjbkebodkjnkaaW.PrintWords
namespace Go.Proofs.YtjjbkebodkjnkaaW.PrintWords
open Go.RowKit
namespace Kd
section
variable {α : Type} {d : Kd α} {e base : Nat} {ok : Nat → Prop} {W : World} {u : Value} {xs : List α} {PS : Nat → Prop} {L : List Nat}
end
end Kd
end Go.Proofs.YtjjbkebodkjnkaaW.PrintWords
namespace Go.Proofs.YtjjbkebodkjnkaaW.PrintWords
open Go.RowKit
def cmps (x y : ByteArray) : Int := Lib.compareBytes x.data.toList y.data.toList
theorem call_cmps {P : Program} {f : FuncId} {fn : Func} (hf : P.funcs[f]? = some fn) (hname : (fn.name == "runtime.NumGoroutine") = false) (hb : fn.body.isNone = true) (hn : Extern.findNext fn = none) (he : Extern.find fn = some Extern.BytealgCompare.compare) (x y : ByteArray) (w : World) :
  (callFunc f #[.string x, .string y]).run P w = .ok (.value (.int .i64 (cmps x y))) w := by
 rw [run_callFunc_extern hf hname hb hn he, Lib.run_compareString]
 rfl
end Go.Proofs.YtjjbkebodkjnkaaW.PrintWords
set_option linter.unusedSimpArgs false
set_option linter.unusedVariables false
namespace Go
theorem run_copy_rowz {P : Program} (w : World) (dT sT ty elem : TypeId) (sz : Nat) (g o dLen dCap : Nat) (a : Addr) (sLen sCap : Nat) (cur : Array Value) (t : TypeId) (cs : List Value)
  (hu : P.underlying dT = some (.slice elem)) (hs : (P.info? elem).map (·.size) = some sz)
  (hg : w.heap[g]? = some (.cells cur t (0, 0))) (hn : cs.length = Nat.min sLen dLen * sz)
  (hsrc : ∀ j v, cs[j]? = some v → w.cell? (a.add j) = some v) (hfit : o + cs.length ≤ cur.size) (h1 : ∀ v ∈ cs, v.oneCell' = true) :
  (Builtin.copy_ #[dT, sT] ty #[.slice (some ⟨g, o, none⟩) dLen dCap, .slice (some a) sLen sCap]).run P w =
   .ok (goInt (Nat.min sLen dLen)) (w.setRow g (cur.toList.take o ++ cs ++ cur.toList.drop (o + cs.length)).toArray) := by
 have hl := run_loadCells_list (P := P) w a cs hsrc
 have hst := run_storeCells_at P g o t cs 0 cur w hg (by simpa using hfit) h1
 cases hq : P.info? elem with
 | none => simp [hq] at hs
 | some i =>
  have hi : i.size = sz := by simpa [hq] using hs
  simp [Builtin.copy_, run_underlying hu, Builtin.lenOf, Builtin.firstCells, sizeOf, typeInfo, hq, hi, ← hn, hl, hst]
theorem step_copyI {P : Program} {ops : Array Oper} {o : Oper} {a : Act} {w : World} {K : Act → World → Prop} {Q : Exit → Act → World → Prop} {E : Prop}
  (hg : o.guard = none) (d x : Operand) (dT sT : TypeId) (hop : o.op = Op.call { callee := Callee.builtin Builtin.copy, args := #[d, x], argTypes := #[dT, sT] })
  (v u : Value) (hd : a.eval d = v) (hx : a.eval x = u) {v' : Value} {w' : World} (hr : (Builtin.copy_ #[dT, sT] o.type #[v, u]).run P w = .ok v' w') (hK : K (a.put o.dst v') w') :
  if Region.wanted o (yielded ops a.tmps) = true then Oper.wp P o a w K Q else E := by
 have hw : Region.wanted o (yielded ops a.tmps) = true := by simp [Region.wanted, hg]
 rw [if_pos hw]
 unfold Oper.wp
 simp [execOp, hop, resolve, invoke, builtin, hd, hx, hr, Result.andThen]
 exact hK
theorem wpList_copyI {P : Program} (w : World) {ops : Array Oper} {rest : List Oper} {o : Oper} {a : Act} {Q : Exit → Act → World → Prop} (hgd : o.guard = none) (d s : Operand) (t t' : TypeId)
  (ho : o.op = .call { callee := .builtin .copy, args := #[d, s], argTypes := #[t, t'] }) (v u : Value) (hd : a.eval d = v) (hs : a.eval s = u) {v' : Value} {w' : World}
  (hr : (Builtin.copy_ #[t, t'] o.type #[v, u]).run P w = .ok v' w') (h : wpList P ops Q rest (a.put o.dst v') w') : wpList P ops Q (o :: rest) a w :=
 wpList_plain hgd fun K hK => by
  unfold Oper.wp execOp
  simp only [ho, resolve, invoke, builtin, Sem.run_bind, Sem.run_pure, Result.andThen_ok, List.map_toArray, List.map_cons, List.map_nil, hd, hs, hr]
  exact hK _ _ h
theorem run_overlaps_own {P : Program} (w : World) (tS tR e : TypeId) (ht : P.underlying tS = some (.slice e)) (size : Nat) (hz : ∀ w, (Go.sizeOf e).run P w = .ok size w)
  (a b : Addr) (la ca lb cb : Nat) (hne : a.block ≠ b.block) (ra rb : Array Value) (ta tb : TypeId) (fa : Nat × Nat) (ha : w.heap[a.block]? = some (.cells ra ta fa)) (hra : ra.size ≠ 0) (hb : w.heap[b.block]? = some (.cells rb tb (0, 0))) :
  (Extern.SlicesOverlaps.overlaps #[tS, tS] #[tR] #[.slice (some a) la ca, .slice (some b) lb cb]).run P w = .ok (.bool false) w := by
 have hnb : (a.block != b.block) = true := by simpa using hne
 have hnb' : (a.block == b.block) = false := by simpa using hne
 change Sem.run P (α := Value) (do
  let some t := (#[tS, tS] : Array TypeId)[0]? | stuck "slices.overlaps: no parameter types"
  let .slice elem ← underlying t | stuck "slices.overlaps: slice type expected"
  let size ← sizeOf elem
  match (some a : Option Addr), (some b : Option Addr) with
  | some a, some b =>
   if la = 0 ∨ lb = 0 ∨ size = 0 then pure (Value.bool false)
   else if a.block != b.block && (← frozen a) && (← frozen b) then unsupported .addressObserved
   else do
    if a.block != b.block then do
     noView a; noView b
     if ← mayBeOne a b then return Value.bool ((← choose (.extern "sameAddr.stringBytes" 2)) == 1)
    pure (Value.bool (a.block == b.block && a.off < b.off + lb * size && b.off < a.off + la * size))
  | _, _ => pure (Value.bool false)) w = _
 by_cases h0 : la = 0 ∨ lb = 0 ∨ size = 0
 ·simp [run_underlying ht, hz, h0]
 ·have hsa : w.shape? a.block = some (ta, ra.size) := by simp [World.shape?, ha]
  have hsb : w.shape? b.block = some (tb, rb.size) := by simp [World.shape?, hb]
  have hfb : w.frozen? b = false := by simp [World.frozen?, hb]
  have hfe : w.frozen? { block := b.block, off := rb.size } = false := by simp [World.frozen?, hb]
  cases hk : ra.size with
  | zero => exact absurd hk hra
  | succ q =>
   rw [hk] at hsa
   cases hfa : w.frozen? a <;> cases hfq : w.frozen? { block := a.block, off := q + 1 } <;>
    simp [run_underlying ht, hz, h0, hnb, hnb', frozen, noView, viewAt, mayBeOne, stringish, shape, Sem.run, hsa, hsb, hfa, hfb, hfe, hfq]
end Go
namespace Go.Proofs.YtjjbkebodkjnkaaW.PrintWords
open Go.RowKit
namespace Kd
section
variable {P : Program} {α : Type}
theorem reps_oneI (d : Kd α) {w : World} {base : Nat} {ok : Nat → Prop} {xs : List α} {inner : List Value} (hr : Reps (d.M w base ok) d.sz xs inner) : ∀ u ∈ inner, u.oneCell' = true := by
 intro u hu
 obtain ⟨q, hq, rfl⟩ := List.mem_iff_getElem.1 hu
 have hs0 : 0 < d.sz := by
  rcases Nat.eq_zero_or_pos d.sz with h | h
  ·rw [hr.1, h, Nat.mul_zero] at hq; omega
  ·exact h
 have hql : q / d.sz < xs.length := by
  rw [Nat.div_lt_iff_lt_mul hs0, ← hr.1]
  exact hq
 refine d.K_one (d.K_of_M (hr.2 (q / d.sz) _ (List.getElem?_eq_getElem hql))) _ ?_
 rw [List.mem_iff_getElem?]
 refine ⟨q % d.sz, ?_⟩
 rw [List.getElem?_take, if_pos (Nat.mod_lt _ hs0), List.getElem?_drop, Nat.mul_comm, Nat.div_add_mod, List.getElem?_eq_getElem hq]
theorem grown_setRow (w : World) (g : Nat) (cs : Array Value) : w.grownBy (w.setRow g cs) (some g) :=
 ⟨rfl, rfl, rfl, by simp [World.setRow], fun k _ hk => setRow_other w g k cs (fun he => hk (by rw [he]))⟩
theorem addr_add_block (a : Addr) (n : Nat) : (a.add n).block = a.block := by unfold Addr.add; split <;> rfl
theorem C_apart (d : Kd α) (hs : 0 < d.sz) {w : World} {P0 : Nat → Prop} {A : Option Addr} {n : Nat} {xs : List α} (hn : 0 < n) (hr : ∀ W, Kept w W P0 → d.C W A n xs) {g : Nat} (hg : P0 g) :
  ∃ ad, A = some ad ∧ ad.block ≠ g ∧ ∃ c t f, w.heap[ad.block]? = some (.cells c t f) ∧ c.size ≠ 0 := by
 have h1 := hr w (Kept.refl w _)
 obtain ⟨ad, hA, hc⟩ := h1.2.2 hn
 have hl : 0 < xs.length := by rw [h1.1]; exact hn
 have hp := List.getElem?_eq_getElem hl
 refine ⟨ad, hA, ?_, ?_⟩
 ·intro hb
  have h2 := hr (w.setRow g #[]) ⟨by simp [World.setRow], fun i _ hi => setRow_other w g i _ (fun he => hi (he ▸ hg))⟩
  obtain ⟨ad2, hA2, hc2⟩ := h2.2.2 hn
  have : ad2 = ad := by rw [hA] at hA2; injection hA2 with h; exact h.symm
  subst this
  obtain ⟨cs, hcl, _, hcell⟩ := hc2 0 _ hp
  have := hcell 0 _ (List.getElem?_eq_getElem (by omega))
  subst hb
  have he : (w.setRow ad2.block #[]).heap[ad2.block]? = (w.heap[ad2.block]?).map fun | .cells c e f => .cells #[] e f | o => o := by simp [World.setRow, Array.getElem?_modify]; rfl
  unfold World.cell? at this
  split at this
  ·rename_i c q1 q2 hq
   have hq : (w.setRow ad2.block #[]).heap[ad2.block]? = some (.cells c q1 q2) := by rw [addr_add_block] at hq; exact hq
   rw [he] at hq
   cases hw : w.heap[ad2.block]? with
   | none => rw [hw] at hq; cases hq
   | some b =>
    rw [hw] at hq
    cases b with
    | cells c0 t0 f0 =>
     simp only [Option.map_some, Option.some.injEq, Obj.cells.injEq] at hq
     rw [← hq.1] at this
     split at this <;> simp at this
    | _ => simp at hq
  ·cases this
 ·obtain ⟨cs, hcl, _, hcell⟩ := hc 0 _ hp
  have := hcell 0 _ (List.getElem?_eq_getElem (by omega))
  unfold World.cell? at this
  split at this
  ·rename_i c q1 q2 hq
   refine ⟨c, q1, q2, by rw [addr_add_block] at hq; exact hq, ?_⟩
   intro h0
   split at this
   ·cases this
   ·have := (Array.getElem?_eq_some_iff.1 this).1
    omega
  ·cases this
def U (d : Kd α) (e : Nat) (W : World) (base : Nat) (ok : Nat → Prop) (g n c k : Nat) (xs : List α) : Prop :=
 ok g ∧ ∃ inner cur, base ≤ g ∧ W.heap[g]? = some (.cells cur e (0, 0)) ∧ xs.length = n ∧ cur.size = c * d.sz ∧ n + 1 ≤ c ∧ c ≤ maxLen ∧
  cur.toList.take (k * d.sz) = inner.take (k * d.sz) ∧ (cur.toList.drop ((k + 1) * d.sz)).take ((n - k) * d.sz) = inner.drop (k * d.sz) ∧
  Reps (d.M W base (fun k' => ok k' ∧ some k' ≠ some g)) d.sz xs inner
theorem R_shift_run (d : Kd α) {W : World} (base : Nat) (dT sT ty e : TypeId) (ht : P.underlying dT = some (.slice e)) (hi : (P.info? e).map (·.size) = some d.sz)
  {g n c k cc1 cc2 : Nat} {xs : List α} {ok : Nat → Prop} (HO : d.R e W base ok (.slice (some ⟨g, 0, none⟩) n c) xs) (hk : k < n) (hc : n + 1 ≤ c) :
  ∃ w1, (Builtin.copy_ #[dT, sT] ty #[.slice (some ⟨g, (k + 1) * d.sz, none⟩) (n - k) cc1, .slice (some ⟨g, k * d.sz, none⟩) (n + 1 - k) cc2]).run P W = .ok (goInt ((n - k : Nat) : Int)) w1 ∧ U d e w1 base ok g n c k xs ∧ W.grownBy w1 (some g) := by
 obtain ⟨hn, hnc, _⟩ := R_reads' HO
 obtain ⟨hok, inner, hown, hr⟩ := HO
 have hin : inner.length = n * d.sz := by rw [hr.1, hn]
 rcases hown.2 with ⟨hv, _⟩ | ⟨g', cap', cur, hv, hb, hh, _, hcm, hcs, htake⟩
 ·cases hv
 injection hv with ha _ hc'
 injection ha with ha
 injection ha with hg
 subst hg; subst hc'
 rw [← hn] at htake
 have hgo : ∀ m, some g = (Value.slice (some ⟨g, 0, none⟩) m c).ownBlock := fun m => by simp [Value.ownBlock]
 have hks : (k + 1) * d.sz = k * d.sz + d.sz := Nat.succ_mul _ _
 have hns : (n + 1) * d.sz = n * d.sz + d.sz := Nat.succ_mul _ _
 have hsub : (n - k) * d.sz = n * d.sz - k * d.sz := Nat.sub_mul _ _ _
 have hle : k * d.sz ≤ n * d.sz := Nat.mul_le_mul_right _ (by omega)
 have hcz : (n + 1) * d.sz ≤ c * d.sz := Nat.mul_le_mul_right _ hc
 have hcl : (inner.drop (k * d.sz)).length = (n - k) * d.sz := by rw [List.length_drop, hin]; omega
 have hmin : Nat.min (n + 1 - k) (n - k) = n - k := Nat.min_eq_right (by omega)
 have hrun := run_copy_rowz (P := P) W dT sT ty e d.sz g ((k + 1) * d.sz) (n - k) cc1 ⟨g, k * d.sz, none⟩ (n + 1 - k) cc2 cur e (inner.drop (k * d.sz)) ht hi hh (by rw [hcl, hmin]) (fun j v hj => by
   have hjl : j < (inner.drop (k * d.sz)).length := (List.getElem?_eq_some_iff.1 hj).1
   rw [show (⟨g, k * d.sz, none⟩ : Addr).add j = ⟨g, k * d.sz + j, none⟩ by simp [Addr.add], cell_of_row W g _ cur e (0, 0) hh, ← Array.getElem?_toList]
   rw [List.getElem?_drop, ← htake, List.getElem?_take, if_pos (by omega)] at hj
   exact hj) (by rw [hcl]; omega) (fun v hv => reps_oneI d hr v (List.mem_of_mem_drop hv))
 rw [hmin] at hrun
 have hlt : g < W.heap.size := (Array.getElem?_eq_some_iff.1 hh).1
 refine ⟨_, hrun, ⟨hok g (hgo n).symm, inner, _, hb, setRow_heap W g cur _ e (0, 0) hh, hn.symm, ?_, hc, hcm, ?_, ?_, ?_⟩, grown_setRow W g _⟩
 ·rw [List.size_toArray]
  simp only [List.length_append, List.length_take, List.length_drop, Array.length_toList, hcl, hcs]
  omega
 ·show List.take _ (List.toArray _).toList = _
  rw [List.append_assoc, List.take_append_of_le_length (by rw [List.length_take, Array.length_toList, hcs]; omega), List.take_take, Nat.min_eq_left (by omega), ← htake, List.take_take, Nat.min_eq_left hle]
 ·show List.take _ (List.drop _ (List.toArray _).toList) = _
  rw [List.append_assoc, List.drop_append_of_le_length (by rw [List.length_take, Array.length_toList, hcs]; omega), List.drop_eq_nil_of_le (by rw [List.length_take]; omega), List.nil_append]
  exact List.take_left' hcl
 ·exact hr.imp_ fun p q hp => d.M_mono (fun k' hk' => ⟨hk'.1, by rw [hgo n]; exact hk'.2⟩) (d.M_move (fun k' hk' => setRow_other W g k' _ (fun he => hk'.2 (by rw [he]; exact hgo _))) hp)
def T (d : Kd α) (e : Nat) (W : World) (base : Nat) (ok : Nat → Prop) (g c : Nat) (pre : List α) : Prop :=
 ok g ∧ ∃ inner cur, base ≤ g ∧ W.heap[g]? = some (.cells cur e (0, 0)) ∧ cur.size = c * d.sz ∧ pre.length ≤ c ∧ c ≤ maxLen ∧ cur.toList.take (pre.length * d.sz) = inner ∧ Reps (d.M W base (fun k' => ok k' ∧ some k' ≠ some g)) d.sz pre inner
theorem T_done (d : Kd α) {e : Nat} {W : World} {base g c : Nat} {ok : Nat → Prop} {pre : List α} (h : T d e W base ok g c pre) : d.R e W base ok (.slice (some ⟨g, 0, none⟩) pre.length c) pre := by
 obtain ⟨hok, inner, cur, hb, hh, hcs, hl, hcm, ht, hr⟩ := h
 have hgo : some g = (Value.slice (some ⟨g, 0, none⟩) pre.length c).ownBlock := by simp [Value.ownBlock]
 exact ⟨fun k' hk' => by rw [← hgo] at hk'; injection hk' with hk'; exact hk' ▸ hok, inner, ⟨hr.1, .inr ⟨g, c, cur, rfl, hb, hh, hl, hcm, hcs, ht⟩⟩, hr.imp_ fun p q hp => d.M_mono (fun k' hk' => ⟨hk'.1, by rw [← hgo]; exact hk'.2⟩) hp⟩
theorem T_drew {d : Kd α} {e : Nat} {W : World} {base g c : Nat} {ok : Nat → Prop} {pre : List α} (h : T d e W base ok g c pre) : T d e W.drew base ok g c pre := by
 obtain ⟨hok, inner, cur, hb, hh, hcs, hl, hcm, ht, hr⟩ := h
 exact ⟨hok, inner, cur, hb, hh, hcs, hl, hcm, ht, hr.imp_ fun p q hp => M_below hp (below_drew (Below.refl _ _))⟩
theorem T_extend_run (d : Kd α) {W : World} (base : Nat) (dT sT ty e : TypeId) (ht : P.underlying dT = some (.slice e)) (hi : (P.info? e).map (·.size) = some d.sz)
  {g c gs ns cs j m dLen cc1 cc2 base' : Nat} {pre ys : List α} {ok oks : Nat → Prop} (HT : T d e W base ok g c pre)
  (HS : d.R e W base' oks (.slice (some ⟨gs, 0, none⟩) ns cs) ys) (hj : j + m = ns) (hd : m ≤ dLen) (hfit : pre.length + m ≤ c)
  (hM : ∀ p q, d.M W base' (fun k' => oks k' ∧ some k' ≠ some gs) p q → d.M W base (fun k' => ok k' ∧ some k' ≠ some g) p q) :
  ∃ w1, (Builtin.copy_ #[dT, sT] ty #[.slice (some ⟨g, pre.length * d.sz, none⟩) dLen cc1, .slice (some ⟨gs, j * d.sz, none⟩) m cc2]).run P W = .ok (goInt ((m : Nat) : Int)) w1 ∧ T d e w1 base ok g c (pre ++ ys.drop j) ∧ W.grownBy w1 (some g) := by
 obtain ⟨hok, inner, cur, hb, hh, hcs, hl, hcm, htk, hr⟩ := HT
 obtain ⟨hns, _, _⟩ := R_reads' HS
 obtain ⟨hoks, inners, howns, hrs⟩ := HS
 have hsin : inners.length = ns * d.sz := by rw [hrs.1, hns]
 rcases howns.2 with ⟨hv, _⟩ | ⟨g', cap', curs, hv, hbs, hhs, _, _, _, hts⟩
 ·cases hv
 injection hv with ha _ hc'
 injection ha with ha
 injection ha with hg
 subst hg; subst hc'
 rw [← hns] at hts
 have hin : inner.length = pre.length * d.sz := hr.1
 have hsum : j * d.sz + m * d.sz = ns * d.sz := by rw [← Nat.add_mul, hj]
 have hfz : pre.length * d.sz + m * d.sz ≤ c * d.sz := by rw [← Nat.add_mul]; exact Nat.mul_le_mul_right _ hfit
 have hcl : (inners.drop (j * d.sz)).length = m * d.sz := by rw [List.length_drop, hsin]; omega
 have hmin : Nat.min m dLen = m := Nat.min_eq_left hd
 have hrsM : Reps (d.M W base' (fun k' => oks k' ∧ some k' ≠ some gs)) d.sz ys inners := hrs.imp_ fun p q hp => d.M_mono (fun k' hk' => ⟨hk'.1, by simpa [Value.ownBlock] using hk'.2⟩) hp
 have hrun := run_copy_rowz (P := P) W dT sT ty e d.sz g (pre.length * d.sz) dLen cc1 ⟨gs, j * d.sz, none⟩ m cc2 cur e (inners.drop (j * d.sz)) ht hi hh (by rw [hcl, hmin]) (fun q v hq => by
   have hql : q < (inners.drop (j * d.sz)).length := (List.getElem?_eq_some_iff.1 hq).1
   rw [show (⟨gs, j * d.sz, none⟩ : Addr).add q = ⟨gs, j * d.sz + q, none⟩ by simp [Addr.add], cell_of_row W gs _ curs e (0, 0) hhs, ← Array.getElem?_toList]
   rw [List.getElem?_drop, ← hts, List.getElem?_take, if_pos (by omega)] at hq
   exact hq) (by rw [hcl]; omega) (fun v hv => reps_oneI d hrsM v (List.mem_of_mem_drop hv))
 rw [hmin] at hrun
 have hmv : ∀ p q, d.M W base (fun k' => ok k' ∧ some k' ≠ some g) p q → d.M (W.setRow g (cur.toList.take (pre.length * d.sz) ++ inners.drop (j * d.sz) ++ cur.toList.drop (pre.length * d.sz + (inners.drop (j * d.sz)).length)).toArray) base (fun k' => ok k' ∧ some k' ≠ some g) p q := fun p q hp =>
  d.M_move (fun k' hk' => setRow_other W g k' _ (fun he => hk'.2 (by rw [he]))) hp
 have hdl : (ys.drop j).length = m := by rw [List.length_drop]; omega
 refine ⟨_, hrun, ⟨hok, inner ++ inners.drop (j * d.sz), _, hb, setRow_heap W g cur _ e (0, 0) hh, ?_, by rw [List.length_append, hdl]; exact hfit, hcm, ?_, ?_⟩, grown_setRow W g _⟩
 ·rw [List.size_toArray]
  simp only [List.length_append, List.length_take, Array.length_toList, hcl, hcs, List.length_drop, hsin]
  omega
 ·show List.take _ (List.toArray _).toList = _
  rw [List.length_append, hdl, Nat.add_mul, htk]
  exact List.take_left' (by rw [List.length_append, hin, hcl])
 ·exact reps_append (hr.imp_ hmv) ((reps_drop (hrsM.imp_ hM)).imp_ hmv)
theorem T_grow_run (d : Kd α) {W : World} (base : Nat) (t tn ty e : TypeId) (i : TypeInfo) (z : Value) (kq kn : IntKind) (ht : P.underlying t = some (.slice e)) (htn : P.underlying tn = some (.int kn)) (hi : P.info? e = some i) (hz : i.zero = some z)
  (hisz : i.size = d.sz) (hzc : z.cells.size = d.sz) (hs0 : 0 < d.sz) (hb0 : 0 < i.bytes)
  {g n c k : Nat} {xs : List α} {ok : Nat → Prop} (HO : d.R e W base ok (.slice (some ⟨g, 0, none⟩) n c) xs) (hk : k ≤ n) (hc : c < n + 1) (hbytes : (n + 1) * i.bytes ≤ 140737488355328) (hbase : base ≤ W.heap.size) :
  ∃ w1 G, (Builtin.append_ #[t, tn] ty #[.slice (some ⟨g, 0, none⟩) k c, .int kq ((n + 1 - k : Nat) : Int)]).run P W = .ok (.slice (some ⟨W.heap.size, 0, none⟩) (n + 1) G) w1 ∧ n + 1 ≤ G ∧
   T d e w1 base (fun k' => ok k' ∨ W.heap.size ≤ k') W.heap.size G (xs.take k) ∧ Below W.heap.size W w1 := by
 obtain ⟨hn, hnc, _⟩ := R_reads' HO
 have hglt : g < W.heap.size := own_lt HO.2.choose_spec.1 g (by simp [Value.ownBlock])
 obtain ⟨hok, inner, hown, hr⟩ := HO
 have hin : inner.length = n * d.sz := by rw [hr.1, hn]
 rcases hown.2 with ⟨hv, _⟩ | ⟨g', cap', cur, hv, hb, hh, _, hcm, hcs, htake⟩
 ·cases hv
 injection hv with ha _ hc'
 injection ha with ha
 injection ha with hg
 subst hg; subst hc'
 rw [← hn] at htake
 have hle : k * d.sz ≤ n * d.sz := Nat.mul_le_mul_right _ hk
 have hlen : n + 1 ≤ 140737488355328 := Nat.le_trans (Nat.le_mul_of_pos_right _ hb0) hbytes
 have htl : (inner.take (k * d.sz)).length = k * d.sz := by rw [List.length_take, hin, Nat.min_eq_left hle]
 have hold : (Builtin.firstCells i.size k (.slice (some ⟨g, 0, none⟩) k c)).run P W.drew = .ok (inner.take (k * d.sz)).toArray W.drew := by
  rw [hisz]
  refine run_firstCells_some W.drew d.sz k ⟨g, 0, none⟩ k c (inner.take (k * d.sz)) htl (fun j v hj => ?_)
  have hjl : j < (inner.take (k * d.sz)).length := (List.getElem?_eq_some_iff.1 hj).1
  rw [show (⟨g, 0, none⟩ : Addr).add j = ⟨g, j, none⟩ by simp [Addr.add]; omega, cell_of_row W.drew g _ cur e (0, 0) hh, ← Array.getElem?_toList]
  rw [List.getElem?_take, if_pos (by omega), ← htake, List.getElem?_take, if_pos (by omega)] at hj
  exact hj
 have hks : k + (n + 1 - k) = n + 1 := by omega
 have hkb : (n + 1 - k) * i.bytes ≤ (n + 1) * i.bytes := Nat.mul_le_mul_right _ (by omega)
 have hrun := Lib.run_append_grow_zeros W t tn ty e i z kq kn ht htn hi hz (some ⟨g, 0, none⟩) k c (inner.take (k * d.sz)) hold (n + 1 - k) (by omega) (by omega) (by omega) (by omega) (by omega) (by rw [hks]; exact growslice_fits hc hbytes)
 rw [hks] at hrun
 have hge := grownCap_ge W (n + 1) c e
 have hgm : grownCap W (n + 1) c e ≤ maxLen := grownCap_le_maxLen W (n + 1) c e (by simp only [maxLen]; omega)
 refine ⟨_, _, hrun, hge, ⟨.inr (Nat.le_refl _), inner.take (k * d.sz), _, hbase, heap_alloc_new W.drew _, ?_, by rw [List.length_take]; omega, hgm, ?_, ?_⟩, below_alloc (below_drew1 (Below.refl _ _)) _⟩
 ·simp only [Array.size_append, List.size_toArray, size_zeroCells, hzc, htl, ← Nat.add_mul]
  congr 1
  omega
 ·rw [List.length_take, ← hn, Nat.min_eq_left hk]
  simp only [Array.toList_append, List.append_assoc]
  exact List.take_left' htl
 ·exact (reps_take hr (by omega)).imp_ fun p q hp => d.M_mono (fun k' hk' => ⟨.inl hk'.1.1, by
   intro he
   injection he with he
   have := hk'.2
   omega⟩) (d.M_move (w := W) (w1 := W.drew.alloc _) (ok := fun k' => (ok k' ∧ some k' ≠ (Value.slice (some ⟨g, 0, none⟩) n c).ownBlock) ∧ k' < W.heap.size) (fun k' hk' => heap_alloc_old W.drew _ hk'.2) (d.M_mono (fun k' hk' => ⟨hk'.1, hk'.2.2.1⟩) (d.M_bound hp)))
theorem U_fill_cells (d : Kd α) {W : World} (base : Nat) (dT sT ty e : TypeId) (ht : P.underlying dT = some (.slice e)) (hi : (P.info? e).map (·.size) = some d.sz)
  {g n c k cc1 cv : Nat} {ad : Addr} {xs : List α} {x : α} {ok : Nat → Prop} {cs : List Value} (HU : U d e W base ok g n c k xs) (hk : k < n)
  (hcs' : cs.length = d.sz) (hcell : ∀ j u, cs[j]? = some u → W.cell? (ad.add j) = some u) (hMx : d.M W base (fun k' => ok k' ∧ some k' ≠ some g) x cs) :
  ∃ w1, (Builtin.copy_ #[dT, sT] ty #[.slice (some ⟨g, k * d.sz, none⟩) (n + 1 - k) cc1, .slice (some ad) 1 cv]).run P W = .ok (goInt ((1 : Nat) : Int)) w1 ∧
   d.R e w1 base ok (.slice (some ⟨g, 0, none⟩) (n + 1) c) (xs.take k ++ [x] ++ xs.drop k) ∧ W.grownBy w1 (some g) := by
 obtain ⟨hok, inner, cur, hb, hh, hn, hcs, hc, hcm, h1, h2, hr⟩ := HU
 have hin : inner.length = n * d.sz := by rw [hr.1, hn]
 have hks : (k + 1) * d.sz = k * d.sz + d.sz := Nat.succ_mul _ _
 have hns : (n + 1) * d.sz = n * d.sz + d.sz := Nat.succ_mul _ _
 have hsub : (n - k) * d.sz = n * d.sz - k * d.sz := Nat.sub_mul _ _ _
 have hle : k * d.sz ≤ n * d.sz := Nat.mul_le_mul_right _ (by omega)
 have hcz : (n + 1) * d.sz ≤ c * d.sz := Nat.mul_le_mul_right _ hc
 have hmin : Nat.min 1 (n + 1 - k) = 1 := Nat.min_eq_left (by omega)
 have hrx : Reps (d.M W base (fun k' => ok k' ∧ some k' ≠ some g)) d.sz [x] cs := by
  have h := Reps.snoc (Reps.none (d.M W base (fun k' => ok k' ∧ some k' ≠ some g)) d.sz) hMx hcs'
  simpa using h
 have hrun := run_copy_rowz (P := P) W dT sT ty e d.sz g (k * d.sz) (n + 1 - k) cc1 ad 1 cv cur e cs ht hi hh (by rw [hcs', hmin, Nat.one_mul]) hcell (by rw [hcs']; omega) (reps_oneI d hrx)
 rw [hmin] at hrun
 have hgo : ∀ m, some g = (Value.slice (some ⟨g, 0, none⟩) m c).ownBlock := fun m => by simp [Value.ownBlock]
 have hmv : ∀ p q, d.M W base (fun k' => ok k' ∧ some k' ≠ some g) p q → d.M (W.setRow g (cur.toList.take (k * d.sz) ++ cs ++ cur.toList.drop (k * d.sz + cs.length)).toArray) base (fun k' => ok k' ∧ some k' ≠ (Value.slice (some ⟨g, 0, none⟩) (n + 1) c).ownBlock) p q := fun p q hp =>
  d.M_mono (fun k' hk' => ⟨hk'.1, by rw [← hgo]; exact hk'.2⟩) (d.M_move (fun k' hk' => setRow_other W g k' _ (fun he => hk'.2 (by rw [he]))) hp)
 have hel : (xs.take k ++ [x] ++ xs.drop k).length = n + 1 := by simp only [List.length_append, List.length_take, List.length_drop, List.length_singleton]; omega
 refine ⟨_, hrun, ⟨fun k' hk' => by rw [← hgo] at hk'; injection hk' with hk'; exact hk' ▸ hok, inner.take (k * d.sz) ++ cs ++ inner.drop (k * d.sz), ⟨?_, .inr ⟨g, c, _, by rw [hel], hb, setRow_heap W g cur _ e (0, 0) hh, by rw [hel]; exact hc, hcm, ?_, ?_⟩⟩, ?_⟩, grown_setRow W g _⟩
 ·rw [hel]
  simp only [List.length_append, List.length_take, List.length_drop, hin, hcs']
  omega
 ·rw [List.size_toArray]
  simp only [List.length_append, List.length_take, List.length_drop, Array.length_toList, hcs', hcs]
  omega
 ·rw [hel]
  show List.take _ (List.toArray _).toList = _
  have hlen : (cur.toList.take (k * d.sz) ++ cs).length = (k + 1) * d.sz := by rw [List.length_append, List.length_take, Array.length_toList, hcs', hcs]; omega
  rw [show (n + 1) * d.sz = (cur.toList.take (k * d.sz) ++ cs).length + (n - k) * d.sz by rw [hlen]; omega, List.take_length_add_append, hcs', ← hks, h2, h1]
 ·exact reps_append (reps_append ((reps_take hr (by omega)).imp_ hmv) (hrx.imp_ hmv)) ((reps_drop hr).imp_ hmv)
theorem T_extend_cells (d : Kd α) {W : World} (base : Nat) (dT sT ty e : TypeId) (ht : P.underlying dT = some (.slice e)) (hi : (P.info? e).map (·.size) = some d.sz)
  {g c dLen cc1 cv : Nat} {ad : Addr} {pre : List α} {x : α} {ok : Nat → Prop} {cs : List Value} (HT : T d e W base ok g c pre) (hd : 1 ≤ dLen) (hfit : pre.length + 1 ≤ c)
  (hcs' : cs.length = d.sz) (hcell : ∀ j u, cs[j]? = some u → W.cell? (ad.add j) = some u) (hMx : d.M W base (fun k' => ok k' ∧ some k' ≠ some g) x cs) :
  ∃ w1, (Builtin.copy_ #[dT, sT] ty #[.slice (some ⟨g, pre.length * d.sz, none⟩) dLen cc1, .slice (some ad) 1 cv]).run P W = .ok (goInt ((1 : Nat) : Int)) w1 ∧ T d e w1 base ok g c (pre ++ [x]) ∧ W.grownBy w1 (some g) := by
 obtain ⟨hok, inner, cur, hb, hh, hcs, hl, hcm, htk, hr⟩ := HT
 have hin : inner.length = pre.length * d.sz := hr.1
 have hfz : pre.length * d.sz + 1 * d.sz ≤ c * d.sz := by rw [← Nat.add_mul]; exact Nat.mul_le_mul_right _ hfit
 rw [Nat.one_mul] at hfz
 have hmin : Nat.min 1 dLen = 1 := Nat.min_eq_left hd
 have hrx : Reps (d.M W base (fun k' => ok k' ∧ some k' ≠ some g)) d.sz [x] cs := by
  have h := Reps.snoc (Reps.none (d.M W base (fun k' => ok k' ∧ some k' ≠ some g)) d.sz) hMx hcs'
  simpa using h
 have hrun := run_copy_rowz (P := P) W dT sT ty e d.sz g (pre.length * d.sz) dLen cc1 ad 1 cv cur e cs ht hi hh (by rw [hcs', hmin, Nat.one_mul]) hcell (by rw [hcs']; omega) (reps_oneI d hrx)
 rw [hmin] at hrun
 have hmv : ∀ p q, d.M W base (fun k' => ok k' ∧ some k' ≠ some g) p q → d.M (W.setRow g (cur.toList.take (pre.length * d.sz) ++ cs ++ cur.toList.drop (pre.length * d.sz + cs.length)).toArray) base (fun k' => ok k' ∧ some k' ≠ some g) p q := fun p q hp =>
  d.M_move (fun k' hk' => setRow_other W g k' _ (fun he => hk'.2 (by rw [he]))) hp
 refine ⟨_, hrun, ⟨hok, inner ++ cs, _, hb, setRow_heap W g cur _ e (0, 0) hh, ?_, by rw [List.length_append, List.length_singleton]; exact hfit, hcm, ?_, ?_⟩, grown_setRow W g _⟩
 ·rw [List.size_toArray]
  simp only [List.length_append, List.length_take, Array.length_toList, hcs', hcs, List.length_drop]
  omega
 ·show List.take _ (List.toArray _).toList = _
  rw [List.length_append, List.length_singleton, Nat.add_mul, Nat.one_mul, htk]
  exact List.take_left' (by rw [List.length_append, hin, hcs'])
 ·exact reps_append (hr.imp_ hmv) (hrx.imp_ hmv)
end
end Kd
end Go.Proofs.YtjjbkebodkjnkaaW.PrintWords
namespace Go.Proofs.YtjjbkebodkjnkaaW.PrintLast
section
variable {P : Program} {ops : Array Oper} {Q : Exit → Act → World → Prop} {md : Region.Mode} {S T : World → Prop} {ds : List Nat}
end
end Go.Proofs.YtjjbkebodkjnkaaW.PrintLast
namespace Go.Proofs.Ytjjbkebodkjnkaa.PFnExactLoadSave
open Go.RowKit Go.Proofs.YtjjbkebodkjnkaaW.PrintWords Go.Proofs.YtjjbkebodkjnkaaW.PrintLast Go.Proofs.YtjjbkebodkjnkaaW.PrintMore
attribute [local go_sem] max2_int min2_int max_two min_two max_three min_three max_four min_four
set_option linter.unusedVariables false
set_option linter.unusedSimpArgs false
def errW : Option Int → Value
 | none => .nilIface
 | some c => .iface 0 (.int .i64 c)
theorem errW_none : errW none = .nilIface := rfl
theorem errW_some (c : Int) : errW (some c) = .iface 0 (.int .i64 c) := rfl
theorem info5 : (Try.prog.info? 5).map (fun i => (i.zero, i.size, i.bytes)) = some (some (.int .u8 0), 1, 1) := by kernel_rfl
theorem info45 : (Try.prog.info? 45).map (fun i => (i.zero, i.size, i.bytes)) = some (some (.agg #[(.int .i64 0), (.int .i64 0), (.string ⟨#[]⟩), (.string ⟨#[]⟩), (.int .i64 0)]), 5, 56) := by kernel_rfl
theorem info49 : (Try.prog.info? 49).map (fun i => (i.zero, i.size, i.bytes)) = some (some (.agg #[(.string ⟨#[]⟩), (.int .i64 0), (.string ⟨#[]⟩)]), 3, 40) := by kernel_rfl
structure S40 where
 f0 : Int
 f1 : Int
 f2 : ByteArray
 f3 : ByteArray
 f4 : Int
def z40 : S40 := ⟨(0 : Int), (0 : Int), (⟨#[]⟩ : ByteArray), (⟨#[]⟩ : ByteArray), (0 : Int)⟩
def k40 : Kd S40 := Kd.iso (Kd.pair (Kd.int .i64) (Kd.pair (Kd.int .i64) (Kd.pair Kd.string (Kd.pair Kd.string (Kd.int .i64))))) (fun x : S40 => (x.f0, x.f1, x.f2, x.f3, x.f4))
theorem k40_open {w : World} {x : S40} {cs : List Value} (h : k40.K w x cs) : cs = [.int .i64 x.f0, .int .i64 x.f1, .string x.f2, .string x.f3, .int .i64 x.f4] := by
 obtain ⟨_, _, rfl, rfl, ⟨_, _, rfl, rfl, ⟨_, _, rfl, rfl, ⟨_, _, rfl, rfl, rfl⟩⟩⟩⟩ := h
 exact rfl
def rd_T40 (xs : List S40) (i : Int) : S40 := xs.getD i.toNat z40
theorem at_T40 {w : World} {A : Option Addr} {n : Nat} {xs : List S40} (h : Kd.C k40 w A n xs) (i : Int) (h0 : 0 ≤ i) (h1 : i < n) : ∃ ad , A = some ad ∧ w.cell? (ad.add (i.toNat * 5)) = some (.int .i64 (rd_T40 xs i).f0) ∧ w.cell? ⟨(ad.add (i.toNat * 5)).block, (ad.add (i.toNat * 5)).off + 1, none⟩ = some (.int .i64 (rd_T40 xs i).f1) ∧ w.cell? ⟨(ad.add (i.toNat * 5)).block, (ad.add (i.toNat * 5)).off + 2, none⟩ = some (.string (rd_T40 xs i).f2) ∧ w.cell? ⟨(ad.add (i.toNat * 5)).block, (ad.add (i.toNat * 5)).off + 3, none⟩ = some (.string (rd_T40 xs i).f3) ∧ w.cell? ⟨(ad.add (i.toNat * 5)).block, (ad.add (i.toNat * 5)).off + 4, none⟩ = some (.int .i64 (rd_T40 xs i).f4) := by
 obtain ⟨ad, c, e, _, hK, hc0⟩ := Kd.C_get h z40 i h0 h1
 have hc : ∀ j u, c[j]? = some u → w.cell? (ad.add (i.toNat * 5 + j)) = some u := hc0
 obtain rfl := k40_open hK
 exact ⟨ad, e, hc 0 _ rfl, by rw [← add_field _ _ 1 (by omega)]; exact hc 1 _ rfl, by rw [← add_field _ _ 2 (by omega)]; exact hc 2 _ rfl, by rw [← add_field _ _ 3 (by omega)]; exact hc 3 _ rfl, by rw [← add_field _ _ 4 (by omega)]; exact hc 4 _ rfl⟩
structure S49 where
 f0 : ByteArray
 f1 : Int
 f2 : ByteArray
def z49 : S49 := ⟨(⟨#[]⟩ : ByteArray), (0 : Int), (⟨#[]⟩ : ByteArray)⟩
def k49 : Kd S49 := Kd.iso (Kd.pair Kd.string (Kd.pair (Kd.int .i64) Kd.string)) (fun x : S49 => (x.f0, x.f1, x.f2))
theorem k49_open {w : World} {x : S49} {cs : List Value} (h : k49.K w x cs) : cs = [.string x.f0, .int .i64 x.f1, .string x.f2] := by
 obtain ⟨_, _, rfl, rfl, ⟨_, _, rfl, rfl, rfl⟩⟩ := h
 exact rfl
theorem k49_openM {w : World} {base : Nat} {ok : Nat → Prop} {x : S49} {cs : List Value} (h : k49.M w base ok x cs) : cs = [.string x.f0, .int .i64 x.f1, .string x.f2] := by
 obtain ⟨_, _, rfl, rfl, ⟨_, _, rfl, rfl, rfl⟩⟩ := h
 exact rfl
theorem k49_mkM (w : World) (base : Nat) (ok : Nat → Prop) (x : S49)  : k49.M w base ok x [.string x.f0, .int .i64 x.f1, .string x.f2] := ⟨[.string x.f0], [.int .i64 x.f1, .string x.f2], rfl, rfl, ⟨[.int .i64 x.f1], [.string x.f2], rfl, rfl, rfl⟩⟩
def rd_T49 (xs : List S49) (i : Int) : S49 := xs.getD i.toNat z49
theorem at_T49 {w : World} {A : Option Addr} {n : Nat} {xs : List S49} (h : Kd.C k49 w A n xs) (i : Int) (h0 : 0 ≤ i) (h1 : i < n) : ∃ ad , A = some ad ∧ w.cell? (ad.add (i.toNat * 3)) = some (.string (rd_T49 xs i).f0) ∧ w.cell? ⟨(ad.add (i.toNat * 3)).block, (ad.add (i.toNat * 3)).off + 1, none⟩ = some (.int .i64 (rd_T49 xs i).f1) ∧ w.cell? ⟨(ad.add (i.toNat * 3)).block, (ad.add (i.toNat * 3)).off + 2, none⟩ = some (.string (rd_T49 xs i).f2) := by
 obtain ⟨ad, c, e, _, hK, hc0⟩ := Kd.C_get h z49 i h0 h1
 have hc : ∀ j u, c[j]? = some u → w.cell? (ad.add (i.toNat * 3 + j)) = some u := hc0
 obtain rfl := k49_open hK
 exact ⟨ad, e, hc 0 _ rfl, by rw [← add_field _ _ 1 (by omega)]; exact hc 1 _ rfl, by rw [← add_field _ _ 2 (by omega)]; exact hc 2 _ rfl⟩
structure S45 where
 f0 : Int
 f1 : Int
 f2 : ByteArray
 f3 : ByteArray
 f4 : Int
def z45 : S45 := ⟨(0 : Int), (0 : Int), (⟨#[]⟩ : ByteArray), (⟨#[]⟩ : ByteArray), (0 : Int)⟩
def k45 : Kd S45 := Kd.iso (Kd.pair (Kd.int .i64) (Kd.pair (Kd.int .i64) (Kd.pair Kd.string (Kd.pair Kd.string (Kd.int .i64))))) (fun x : S45 => (x.f0, x.f1, x.f2, x.f3, x.f4))
theorem k45_open {w : World} {x : S45} {cs : List Value} (h : k45.K w x cs) : cs = [.int .i64 x.f0, .int .i64 x.f1, .string x.f2, .string x.f3, .int .i64 x.f4] := by
 obtain ⟨_, _, rfl, rfl, ⟨_, _, rfl, rfl, ⟨_, _, rfl, rfl, ⟨_, _, rfl, rfl, rfl⟩⟩⟩⟩ := h
 exact rfl
theorem k45_openM {w : World} {base : Nat} {ok : Nat → Prop} {x : S45} {cs : List Value} (h : k45.M w base ok x cs) : cs = [.int .i64 x.f0, .int .i64 x.f1, .string x.f2, .string x.f3, .int .i64 x.f4] := by
 obtain ⟨_, _, rfl, rfl, ⟨_, _, rfl, rfl, ⟨_, _, rfl, rfl, ⟨_, _, rfl, rfl, rfl⟩⟩⟩⟩ := h
 exact rfl
theorem k45_mkM (w : World) (base : Nat) (ok : Nat → Prop) (x : S45)  : k45.M w base ok x [.int .i64 x.f0, .int .i64 x.f1, .string x.f2, .string x.f3, .int .i64 x.f4] := ⟨[.int .i64 x.f0], [.int .i64 x.f1, .string x.f2, .string x.f3, .int .i64 x.f4], rfl, rfl, ⟨[.int .i64 x.f1], [.string x.f2, .string x.f3, .int .i64 x.f4], rfl, rfl, ⟨[.string x.f2], [.string x.f3, .int .i64 x.f4], rfl, rfl, ⟨[.string x.f3], [.int .i64 x.f4], rfl, rfl, rfl⟩⟩⟩⟩
def rd_T45 (xs : List S45) (i : Int) : S45 := xs.getD i.toNat z45
theorem at_T45 {w : World} {A : Option Addr} {n : Nat} {xs : List S45} (h : Kd.C k45 w A n xs) (i : Int) (h0 : 0 ≤ i) (h1 : i < n) : ∃ ad , A = some ad ∧ w.cell? (ad.add (i.toNat * 5)) = some (.int .i64 (rd_T45 xs i).f0) ∧ w.cell? ⟨(ad.add (i.toNat * 5)).block, (ad.add (i.toNat * 5)).off + 1, none⟩ = some (.int .i64 (rd_T45 xs i).f1) ∧ w.cell? ⟨(ad.add (i.toNat * 5)).block, (ad.add (i.toNat * 5)).off + 2, none⟩ = some (.string (rd_T45 xs i).f2) ∧ w.cell? ⟨(ad.add (i.toNat * 5)).block, (ad.add (i.toNat * 5)).off + 3, none⟩ = some (.string (rd_T45 xs i).f3) ∧ w.cell? ⟨(ad.add (i.toNat * 5)).block, (ad.add (i.toNat * 5)).off + 4, none⟩ = some (.int .i64 (rd_T45 xs i).f4) := by
 obtain ⟨ad, c, e, _, hK, hc0⟩ := Kd.C_get h z45 i h0 h1
 have hc : ∀ j u, c[j]? = some u → w.cell? (ad.add (i.toNat * 5 + j)) = some u := hc0
 obtain rfl := k45_open hK
 exact ⟨ad, e, hc 0 _ rfl, by rw [← add_field _ _ 1 (by omega)]; exact hc 1 _ rfl, by rw [← add_field _ _ 2 (by omega)]; exact hc 2 _ rfl, by rw [← add_field _ _ 3 (by omega)]; exact hc 3 _ rfl, by rw [← add_field _ _ 4 (by omega)]; exact hc 4 _ rfl⟩
end Go.Proofs.Ytjjbkebodkjnkaa.PFnExactLoadSave
namespace Go.Proofs.Ytjjbkebodkjnkaa.PFnExactLoadSave
open Go.RowKit Go.Proofs.YtjjbkebodkjnkaaW.PrintWords Go.Proofs.YtjjbkebodkjnkaaW.PrintLast Go.Proofs.YtjjbkebodkjnkaaW.PrintMore
attribute [local go_sem] max2_int min2_int max_two min_two max_three min_three max_four min_four
set_option linter.unusedVariables false
set_option linter.unusedSimpArgs false
def laws_szChange.f (a0_0 : Int) (a0_1 : Int) (a0_2 : ByteArray) (a0_3 : ByteArray) (a0_4 : Int) (a1 : Int) : Option (Int) := if (wrap64 (a1 - (a0_2.size : Int))) < 0 then (some (-1)) else (if (wrap64 ((wrap64 (a1 - (a0_2.size : Int))) - (a0_3.size : Int))) < 0 then (some (-1)) else (some (wrap64 ((wrap64 (a1 - (a0_2.size : Int))) - (a0_3.size : Int)))))
set_option maxHeartbeats 8000000 in
set_option maxRecDepth 100000 in
theorem laws_szChange.calls (a0_0 : Int) (a0_1 : Int) (a0_2 : ByteArray) (a0_3 : ByteArray) (a0_4 : Int) (a1 : Int) (r : Int) (w : World) (h : laws_szChange.f a0_0 a0_1 a0_2 a0_3 a0_4 a1 = some r) :
  Calls Try.prog 16 #[.agg #[.int .i64 a0_0, .int .i64 a0_1, .string a0_2, .string a0_3, .int .i64 a0_4], .int .i64 a1] w fun e w' => e = .returned (.int .i64 r) ∧ Below w.heap.size w w' := by
 have hu40 := Try.underlying40
 have HB := Aside0.mk (Below.refl w.heap.size w)
 have H : (if (wrap64 (a1 - (a0_2.size : Int))) < 0 then (some (-1)) else (if (wrap64 ((wrap64 (a1 - (a0_2.size : Int))) - (a0_3.size : Int))) < 0 then (some (-1)) else (some (wrap64 ((wrap64 (a1 - (a0_2.size : Int))) - (a0_3.size : Int)))))) = some r := h
 clear h
 by_cases c3 : (wrap64 (a1 - (a0_2.size : Int))) < 0
 ·rw [if_pos c3] at H
  have c3b0 : decide ((wrap64 (a1 - (a0_2.size : Int))) < 0) = true := decide_eq_true c3
  clear c3
  obtain rfl := Option.some.inj H
  go_enter Try.func16, Try.ntmps16
  go_wp2_with (first | ((with_reducible refine gate_dst (N := 2) rfl ?_); refine box_event rfl (N := 2) rfl (cs := #[.int .i64 a0_0, .int .i64 a0_1, .string a0_2, .string a0_3, .int .i64 a0_4]) (t := 40) sE ?_; intro gb101 hg w4 hbox hb; have BK101 := Aside0.mk hbox; have GW101 := gS w hg (lU); have GE101 := gS w hg (lU); replace HB := bH (lU) hb; clear hb hbox hg; have hcz5_0 := cz BK101 0 (.int .i64 a0_0); have hcz5_1 := cz BK101 1 (.int .i64 a0_1); have hcz5_2 := cz BK101 2 (.string a0_2); have hcz5_3 := cz BK101 3 (.string a0_3); have hcz5_4 := cz BK101 4 (.int .i64 a0_4); have hfz5_0 := fz BK101 0; have hfz5_1 := fz BK101 1; have hfz5_2 := fz BK101 2; have hfz5_3 := fz BK101 3; have hfz5_4 := fz BK101 4))
  go_ret
  exact ⟨eE, lV1 GE101⟩
 ·rw [if_neg c3] at H
  have c3b0 : decide ((wrap64 (a1 - (a0_2.size : Int))) < 0) = false := decide_eq_false c3
  clear c3
  by_cases c6 : (wrap64 ((wrap64 (a1 - (a0_2.size : Int))) - (a0_3.size : Int))) < 0
  ·rw [if_pos c6] at H
   have c6b0 : decide ((wrap64 ((wrap64 (a1 - (a0_2.size : Int))) - (a0_3.size : Int))) < 0) = true := decide_eq_true c6
   clear c6
   obtain rfl := Option.some.inj H
   go_enter Try.func16, Try.ntmps16
   go_wp2_with (first | ((with_reducible refine gate_dst (N := 2) rfl ?_); refine box_event rfl (N := 2) rfl (cs := #[.int .i64 a0_0, .int .i64 a0_1, .string a0_2, .string a0_3, .int .i64 a0_4]) (t := 40) sE ?_; intro gb101 hg w7 hbox hb; have BK101 := Aside0.mk hbox; have GW101 := gS w hg (lU); have GE101 := gS w hg (lU); replace HB := bH (lU) hb; clear hb hbox hg; have hcz8_0 := cz BK101 0 (.int .i64 a0_0); have hcz8_1 := cz BK101 1 (.int .i64 a0_1); have hcz8_2 := cz BK101 2 (.string a0_2); have hcz8_3 := cz BK101 3 (.string a0_3); have hcz8_4 := cz BK101 4 (.int .i64 a0_4); have hfz8_0 := fz BK101 0; have hfz8_1 := fz BK101 1; have hfz8_2 := fz BK101 2; have hfz8_3 := fz BK101 3; have hfz8_4 := fz BK101 4))
   go_ret
   exact ⟨eE, lV1 GE101⟩
  ·rw [if_neg c6] at H
   have c6b0 : decide ((wrap64 ((wrap64 (a1 - (a0_2.size : Int))) - (a0_3.size : Int))) < 0) = false := decide_eq_false c6
   clear c6
   obtain rfl := Option.some.inj H
   go_enter Try.func16, Try.ntmps16
   go_wp2_with (first | ((with_reducible refine gate_dst (N := 2) rfl ?_); refine box_event rfl (N := 2) rfl (cs := #[.int .i64 a0_0, .int .i64 a0_1, .string a0_2, .string a0_3, .int .i64 a0_4]) (t := 40) sE ?_; intro gb101 hg w9 hbox hb; have BK101 := Aside0.mk hbox; have GW101 := gS w hg (lU); have GE101 := gS w hg (lU); replace HB := bH (lU) hb; clear hb hbox hg; have hcz10_0 := cz BK101 0 (.int .i64 a0_0); have hcz10_1 := cz BK101 1 (.int .i64 a0_1); have hcz10_2 := cz BK101 2 (.string a0_2); have hcz10_3 := cz BK101 3 (.string a0_3); have hcz10_4 := cz BK101 4 (.int .i64 a0_4); have hfz10_0 := fz BK101 0; have hfz10_1 := fz BK101 1; have hfz10_2 := fz BK101 2; have hfz10_3 := fz BK101 3; have hfz10_4 := fz BK101 4))
   go_ret
   exact ⟨eE, lV1 GE101⟩
def laws_szChangeS.l0 : Nat → List (S40) → Int → Int → Option (Int)
 | 0, _, _, _ => none
 | k + 1, x0, x1, x5 => if x5 < (x0.length : Int) then (if 0 ≤ x5 then ((laws_szChange.f ((rd_T40 x0 x5).f0) ((rd_T40 x0 x5).f1) ((rd_T40 x0 x5).f2) ((rd_T40 x0 x5).f3) ((rd_T40 x0 x5).f4) x1).bind fun t103 => (if t103 < 0 then (some (-1)) else (laws_szChangeS.l0 k x0 t103 (wrap64 (x5 + 1))))) else (none)) else (some x1)
def laws_szChangeS.f (k : Nat) (l0 : List (S40)) (a1 : Int) : Option (Int) := if (wrap64 (a1 - (l0.length : Int))) < 0 then (some (-1)) else (laws_szChangeS.l0 k l0 (wrap64 (a1 - (l0.length : Int))) 0)
theorem laws_szChangeS.mono_l : ∀ k, (∀ y0 y1 y2, LeO (laws_szChangeS.l0 k y0 y1 y2) (laws_szChangeS.l0 (k + 1) y0 y1 y2))
 | 0 => fun _ _ _ r h => by simp [laws_szChangeS.l0] at h
 | k + 1 => by
  have ih0 := laws_szChangeS.mono_l k
  ·intro y0 y1 y2
   unfold laws_szChangeS.l0
   repeat' first
   | (with_reducible exact ih0 _ _ _)
   | (with_reducible first | exact LeO.refl _ | exact LeO.none _ | refine LeO.ite ?_ ?_ | refine LeO.bind ?_ (fun _ => ?_))
   | exact ih0 _ _ _ | exact LeO.none _ | refine LeO.ite ?_ ?_ | refine LeO.bind ?_ (fun _ => ?_)
theorem laws_szChangeS.mono : ∀ a0 a1 k, LeO (laws_szChangeS.f k a0 a1) (laws_szChangeS.f (k + 1) a0 a1) := by
 intro a0 a1 k
 have ih0 := laws_szChangeS.mono_l k
 unfold laws_szChangeS.f
 repeat' first
   | (with_reducible exact ih0 _ _ _)
   | (with_reducible first | exact LeO.refl _ | exact LeO.none _ | refine LeO.ite ?_ ?_ | refine LeO.bind ?_ (fun _ => ?_))
   | exact ih0 _ _ _ | exact LeO.none _ | refine LeO.ite ?_ ?_ | refine LeO.bind ?_ (fun _ => ?_)
set_option maxHeartbeats 8000000 in
set_option maxRecDepth 100000 in
theorem laws_szChangeS.calls (k : Nat) (A0 : Option Addr) (c0 : Nat) (l0 : List (S40)) (a1 : Int) (r : Int) (w : World) (hr0 : Kd.C k40 w A0 l0.length l0) (hc0 : l0.length ≤ c0) (h : laws_szChangeS.f k l0 a1 = some r) :
  Calls Try.prog 4 #[.slice A0 l0.length c0, .int .i64 a1] w fun e w' => e = .returned (.int .i64 r) ∧ Below w.heap.size w w' := by
 have hu40 := Try.underlying40
 have HR0 := Aside0.mk hr0
 have HC0 := Aside0.mk hc0
 clear hr0 hc0
 have HB := Aside0.mk (Below.refl w.heap.size w)
 have H : (if (wrap64 (a1 - (l0.length : Int))) < 0 then (some (-1)) else (laws_szChangeS.l0 k l0 (wrap64 (a1 - (l0.length : Int))) 0)) = some r := h
 clear h
 by_cases c3 : (wrap64 (a1 - (l0.length : Int))) < 0
 ·rw [if_pos c3] at H
  have c3b0 : decide ((wrap64 (a1 - (l0.length : Int))) < 0) = true := decide_eq_true c3
  clear c3
  obtain rfl := Option.some.inj H
  go_enter Try.func4, Try.ntmps4
  go_wp2
  go_ret
  exact ⟨eE, lU⟩
 ·rw [if_neg c3] at H
  have c3b0 : decide ((wrap64 (a1 - (l0.length : Int))) < 0) = false := decide_eq_false c3
  clear c3
  have H' := Aside0.mk H
  clear H
  go_enter Try.func4, Try.ntmps4
  go_wp2
  go_loopg [1, 5] k (fun kq v1 v5 w' => ∃ (x1_1 : Int) (x5_1 : Int), v1 = .int .i64 x1_1 ∧ v5 = .int .i64 x5_1 ∧ Aside0 (laws_szChangeS.l0 kq l0 x1_1 x5_1 = some r) ∧ Aside0 (kq ≤ k) ∧ Aside0 (Below w.heap.size w w'))
  case atStart => exact ⟨(wrap64 (a1 - (l0.length : Int))), (0), tE, tE, H', ⟨Nat.le_refl _⟩, ⟨by repeat (first | (with_reducible first | exact HB.out | apply below_alloc | apply pw_below_drewN | apply below_drew1) | exact HB.out)⟩⟩
  case round =>
   clear H'
   try clear c3; try clear c3b0
   obtain ⟨x1_1, x5_1, rfl, rfl, HA, HK1, HB⟩ := hrel
   cases gk with
   | zero => exact absurd HA.out (by simp [laws_szChangeS.l0])
   | succ k1 =>
    have H := HA.out
    clear HA
    simp only [laws_szChangeS.l0] at H
    by_cases c4 : x5_1 < (l0.length : Int)
    ·rw [if_pos c4] at H
     have c4b0 : decide (x5_1 < (l0.length : Int)) = true := decide_eq_true c4
     clear c4
     by_cases c5 : 0 ≤ x5_1
     ·rw [if_pos c5] at H
      have c5b0 : decide (0 ≤ x5_1) = true := decide_eq_true c5
      clear c5
      replace H := Option.bind_eq_some_iff.mp H
      obtain ⟨t103, A60, H⟩ := H
      replace H : (if t103 < 0 then (some (-1)) else (laws_szChangeS.l0 k1 l0 t103 (wrap64 (x5_1 + 1)))) = some r := H
      have A6 := Aside0.mk A60
      clear A60
      by_cases c7 : t103 < 0
      ·rw [if_pos c7] at H
       have c7b0 : decide (t103 < 0) = true := decide_eq_true c7
       clear c7
       obtain rfl := Option.some.inj H
       have p102 : 0 ≤ (x5_1 : Int) := of_decide_eq_true hE
       have q102 : x5_1 < (l0.length : Int) := of_decide_eq_true hE
       obtain ⟨ad102, e102, hx102_0, hx102_1, hx102_2, hx102_3, hx102_4⟩ := at_T40 HR0.out x5_1 p102 q102
       cases e102
       replace hx102_0 := (HB.out.cell (World.block_lt_of_cell? w _ hx102_0)).trans hx102_0
       replace hx102_1 := (HB.out.cell (World.block_lt_of_cell? w _ hx102_1)).trans hx102_1
       replace hx102_2 := (HB.out.cell (World.block_lt_of_cell? w _ hx102_2)).trans hx102_2
       replace hx102_3 := (HB.out.cell (World.block_lt_of_cell? w _ hx102_3)).trans hx102_3
       replace hx102_4 := (HB.out.cell (World.block_lt_of_cell? w _ hx102_4)).trans hx102_4
       replace p102 := eq_true p102
       replace q102 := eq_true q102
       go_wp2_with (first | ((with_reducible refine gate_callee (f := 16) rfl ?_); refine goesL_ (some 23) rfl rfl Try.func16 (by kernel_rfl) rfl #[.agg #[.int .i64 ((rd_T40 l0 x5_1).f0), .int .i64 ((rd_T40 l0 x5_1).f1), .string ((rd_T40 l0 x5_1).f2), .string ((rd_T40 l0 x5_1).f3), .int .i64 ((rd_T40 l0 x5_1).f4)], .int .i64 x1_1] rfl aE ?_; (with_reducible refine (laws_szChange.calls ((rd_T40 l0 x5_1).f0) ((rd_T40 l0 x5_1).f1) ((rd_T40 l0 x5_1).f2) ((rd_T40 l0 x5_1).f3) ((rd_T40 l0 x5_1).f4) x1_1 t103 _ A6.out).mono ?_); rintro e w8 ⟨rfl, hb⟩; refine ⟨_, rfl, ?_⟩; replace HB := bH (lU) hb; (try clear hb)))
       go_ret
       exact ⟨eE, lU⟩
      ·rw [if_neg c7] at H
       have c7b0 : decide (t103 < 0) = false := decide_eq_false c7
       clear c7
       have H' := Aside0.mk H
       clear H
       have p102 : 0 ≤ (x5_1 : Int) := of_decide_eq_true hE
       have q102 : x5_1 < (l0.length : Int) := of_decide_eq_true hE
       obtain ⟨ad102, e102, hx102_0, hx102_1, hx102_2, hx102_3, hx102_4⟩ := at_T40 HR0.out x5_1 p102 q102
       cases e102
       replace hx102_0 := (HB.out.cell (World.block_lt_of_cell? w _ hx102_0)).trans hx102_0
       replace hx102_1 := (HB.out.cell (World.block_lt_of_cell? w _ hx102_1)).trans hx102_1
       replace hx102_2 := (HB.out.cell (World.block_lt_of_cell? w _ hx102_2)).trans hx102_2
       replace hx102_3 := (HB.out.cell (World.block_lt_of_cell? w _ hx102_3)).trans hx102_3
       replace hx102_4 := (HB.out.cell (World.block_lt_of_cell? w _ hx102_4)).trans hx102_4
       replace p102 := eq_true p102
       replace q102 := eq_true q102
       go_wp2_with (first | ((with_reducible refine gate_callee (f := 16) rfl ?_); refine goesL_ (some 23) rfl rfl Try.func16 (by kernel_rfl) rfl #[.agg #[.int .i64 ((rd_T40 l0 x5_1).f0), .int .i64 ((rd_T40 l0 x5_1).f1), .string ((rd_T40 l0 x5_1).f2), .string ((rd_T40 l0 x5_1).f3), .int .i64 ((rd_T40 l0 x5_1).f4)], .int .i64 x1_1] rfl aE ?_; (with_reducible refine (laws_szChange.calls ((rd_T40 l0 x5_1).f0) ((rd_T40 l0 x5_1).f1) ((rd_T40 l0 x5_1).f2) ((rd_T40 l0 x5_1).f3) ((rd_T40 l0 x5_1).f4) x1_1 t103 _ A6.out).mono ?_); rintro e w9 ⟨rfl, hb⟩; refine ⟨_, rfl, ?_⟩; replace HB := bH (lU) hb; (try clear hb)))
       go_roundg k1
       case measure => have := HK1.out; omega
       case rel => exact ⟨(t103), (wrap64 (x5_1 + 1)), tE, tE, H', ⟨by have := HK1.out; omega⟩, ⟨by repeat (first | (with_reducible first | exact HB.out | apply below_alloc | apply pw_below_drewN | apply below_drew1) | exact HB.out)⟩⟩
     ·rw [if_neg c5] at H
      exact absurd H (by simp)
    ·rw [if_neg c4] at H
     have c4b0 : decide (x5_1 < (l0.length : Int)) = false := decide_eq_false c4
     clear c4
     obtain rfl := Option.some.inj H
     go_wp2
     go_ret
     exact ⟨eE, lU⟩
def spec_l21Digest.l0 : Nat → Int → List Int → Int → Int → Option (Int)
 | 0, _, _, _, _ => none
 | k + 1, x3, x6, x7, x8 => if x8 < x7 then (if 0 ≤ x8 then (if x8 < (x6.length : Int) then (spec_l21Digest.l0 k (Int.tmod (IntKind.u64.wrap ((Go.bits .xor .u64 x3 (IntKind.u64.wrap (rd x6 x8))) * 16777619)) 4294967296) x6 x7 (wrap64 (x8 + 1))) else (none)) else (none)) else (some ((x3) % 4294967296))
def spec_l21Digest.f (k : Nat) (l0 : List Int) : Option (Int) := spec_l21Digest.l0 k 2166136261 l0 (l0.length : Int) 0
theorem spec_l21Digest.mono_l : ∀ k, (∀ y0 y1 y2 y3, LeO (spec_l21Digest.l0 k y0 y1 y2 y3) (spec_l21Digest.l0 (k + 1) y0 y1 y2 y3))
 | 0 => fun _ _ _ _ r h => by simp [spec_l21Digest.l0] at h
 | k + 1 => by
  have ih0 := spec_l21Digest.mono_l k
  ·intro y0 y1 y2 y3
   unfold spec_l21Digest.l0
   repeat' first
   | (with_reducible exact ih0 _ _ _ _)
   | (with_reducible first | exact LeO.refl _ | exact LeO.none _ | refine LeO.ite ?_ ?_ | refine LeO.bind ?_ (fun _ => ?_))
   | exact ih0 _ _ _ _ | exact LeO.none _ | refine LeO.ite ?_ ?_ | refine LeO.bind ?_ (fun _ => ?_)
theorem spec_l21Digest.mono : ∀ a0 k, LeO (spec_l21Digest.f k a0) (spec_l21Digest.f (k + 1) a0) := by
 intro a0 k
 have ih0 := spec_l21Digest.mono_l k
 unfold spec_l21Digest.f
 repeat' first
   | (with_reducible exact ih0 _ _ _ _)
   | (with_reducible first | exact LeO.refl _ | exact LeO.none _ | refine LeO.ite ?_ ?_ | refine LeO.bind ?_ (fun _ => ?_))
   | exact ih0 _ _ _ _ | exact LeO.none _ | refine LeO.ite ?_ ?_ | refine LeO.bind ?_ (fun _ => ?_)
set_option maxHeartbeats 8000000 in
set_option maxRecDepth 100000 in
theorem spec_l21Digest.calls (k : Nat) (A0 : Option Addr) (c0 : Nat) (l0 : List Int) (r : Int) (w : World) (hr0 : Kd.C (Kd.int .u8) w A0 l0.length l0) (hc0 : l0.length ≤ c0) (h : spec_l21Digest.f k l0 = some r) :
  Calls Try.prog 25 #[.slice A0 l0.length c0] w fun e w' => e = .returned (.int .u32 r) ∧ Drawn0 w w' := by
 have HR0 := Aside0.mk hr0
 have HC0 := Aside0.mk hc0
 clear hr0 hc0
 have H : (spec_l21Digest.l0 k 2166136261 l0 (l0.length : Int) 0) = some r := h
 clear h
 have H' := Aside0.mk H
 clear H
 go_enter Try.func25, Try.ntmps25
 go_wp2
 go_loopg [3, 8] k (fun kq v3 v8 w' => ∃ (x3_1 : Int) (x8_1 : Int), v3 = .int .u64 x3_1 ∧ v8 = .int .i64 x8_1 ∧ Aside0 (spec_l21Digest.l0 kq x3_1 l0 (l0.length : Int) x8_1 = some r) ∧ Aside0 (kq ≤ k) ∧ Drawn0 w w')
 case atStart => exact ⟨(2166136261), (0), tE, tE, H', ⟨Nat.le_refl _⟩, by repeat (first | exact Drawn0.refl _ | apply Drawn0.step)⟩
 case round =>
  clear H'
  obtain ⟨x3_1, x8_1, rfl, rfl, HA, HK1, ⟨m1, rfl⟩⟩ := hrel
  cases gk with
  | zero => exact absurd HA.out (by simp [spec_l21Digest.l0])
  | succ k1 =>
   have H := HA.out
   clear HA
   simp only [spec_l21Digest.l0] at H
   by_cases c2 : x8_1 < (l0.length : Int)
   ·rw [if_pos c2] at H
    have c2b0 : decide (x8_1 < (l0.length : Int)) = true := decide_eq_true c2
    clear c2
    by_cases c3 : 0 ≤ x8_1
    ·rw [if_pos c3] at H
     have c3b0 : decide (0 ≤ x8_1) = true := decide_eq_true c3
     clear c3
     by_cases c4 : x8_1 < (l0.length : Int)
     ·rw [if_pos c4] at H
      have c4b0 : decide (x8_1 < (l0.length : Int)) = true := decide_eq_true c4
      clear c4
      have H' := Aside0.mk H
      clear H
      have p104 : 0 ≤ (x8_1 : Int) := of_decide_eq_true hE
      have q104 : x8_1 < (l0.length : Int) := of_decide_eq_true hE
      obtain ⟨ad104, e104, hx104_0⟩ := Kd.at_int HR0.out x8_1 p104 q104
      cases e104
      replace p104 := eq_true p104
      replace q104 := eq_true q104
      go_wp2
      go_roundg k1
      case measure => have := HK1.out; omega
      case rel => exact ⟨(Int.tmod (IntKind.u64.wrap ((Go.bits .xor .u64 x3_1 (IntKind.u64.wrap (rd l0 x8_1))) * 16777619)) 4294967296), (wrap64 (x8_1 + 1)), tE, tE, H', ⟨by have := HK1.out; omega⟩, by repeat (first | exact Drawn0.refl _ | apply Drawn0.step)⟩
     ·rw [if_neg c4] at H
      exact absurd H (by simp)
    ·rw [if_neg c3] at H
     exact absurd H (by simp)
   ·rw [if_neg c2] at H
    have c2b0 : decide (x8_1 < (l0.length : Int)) = false := decide_eq_false c2
    clear c2
    obtain rfl := Option.some.inj H
    go_wp2
    go_ret
    exact ⟨tE, by repeat (first | exact Drawn0.refl _ | apply Drawn0.step)⟩
def spec_l1In.f (a0 : Int) (a1 : Int) (a2 : Int) : Option (Bool) := if a0 ≥ a1 then (some (decide (a0 ≤ a2))) else (some false)
set_option maxHeartbeats 8000000 in
set_option maxRecDepth 100000 in
theorem spec_l1In.calls (a0 : Int) (a1 : Int) (a2 : Int) (r : Bool) (w : World) (h : spec_l1In.f a0 a1 a2 = some r) :
  Calls Try.prog 28 #[.int .i64 a0, .int .i64 a1, .int .i64 a2] w fun e w' => e = .returned (.bool r) ∧ Drawn0 w w' := by
 have H : (if a0 ≥ a1 then (some (decide (a0 ≤ a2))) else (some false)) = some r := h
 clear h
 by_cases c4 : a0 ≥ a1
 ·rw [if_pos c4] at H
  have c4b0 : decide (a1 ≤ a0) = true := decide_eq_true c4
  clear c4
  obtain rfl := Option.some.inj H
  go_enter Try.func28, Try.ntmps28
  go_wp2
  go_ret
  exact ⟨tE, by repeat (first | exact Drawn0.refl _ | apply Drawn0.step)⟩
 ·rw [if_neg c4] at H
  have c4b0 : decide (a1 ≤ a0) = false := decide_eq_false c4
  clear c4
  obtain rfl := Option.some.inj H
  go_enter Try.func28, Try.ntmps28
  go_wp2
  go_ret
  exact ⟨tE, by repeat (first | exact Drawn0.refl _ | apply Drawn0.step)⟩
def spec_l1Digit.f (a0 : Int) : Option (Bool) := if a0 ≥ 48 then (some (decide (a0 ≤ 57))) else (some false)
set_option maxHeartbeats 8000000 in
set_option maxRecDepth 100000 in
theorem spec_l1Digit.calls (a0 : Int) (r : Bool) (w : World) (h : spec_l1Digit.f a0 = some r) :
  Calls Try.prog 55 #[.int .u8 a0] w fun e w' => e = .returned (.bool r) ∧ Drawn0 w w' := by
 have H : (if a0 ≥ 48 then (some (decide (a0 ≤ 57))) else (some false)) = some r := h
 clear h
 by_cases c2 : a0 ≥ 48
 ·rw [if_pos c2] at H
  have c2b0 : decide (48 ≤ a0) = true := decide_eq_true c2
  clear c2
  obtain rfl := Option.some.inj H
  go_enter Try.func55, Try.ntmps55
  go_wp2
  go_ret
  exact ⟨tE, by repeat (first | exact Drawn0.refl _ | apply Drawn0.step)⟩
 ·rw [if_neg c2] at H
  have c2b0 : decide (48 ≤ a0) = false := decide_eq_false c2
  clear c2
  obtain rfl := Option.some.inj H
  go_enter Try.func55, Try.ntmps55
  go_wp2
  go_ret
  exact ⟨tE, by repeat (first | exact Drawn0.refl _ | apply Drawn0.step)⟩
def spec_l1Letter.f (a0 : Int) : Option (Bool) := if a0 ≥ 97 then (if a0 ≤ 122 then (some true) else (if a0 ≥ 65 then (if a0 ≤ 90 then (some true) else (some (a0 == 95))) else (some (a0 == 95)))) else (if a0 ≥ 65 then (if a0 ≤ 90 then (some true) else (some (a0 == 95))) else (some (a0 == 95)))
set_option maxHeartbeats 8000000 in
set_option maxRecDepth 100000 in
theorem spec_l1Letter.calls (a0 : Int) (r : Bool) (w : World) (h : spec_l1Letter.f a0 = some r) :
  Calls Try.prog 56 #[.int .u8 a0] w fun e w' => e = .returned (.bool r) ∧ Drawn0 w w' := by
 have H : (if a0 ≥ 97 then (if a0 ≤ 122 then (some true) else (if a0 ≥ 65 then (if a0 ≤ 90 then (some true) else (some (a0 == 95))) else (some (a0 == 95)))) else (if a0 ≥ 65 then (if a0 ≤ 90 then (some true) else (some (a0 == 95))) else (some (a0 == 95)))) = some r := h
 clear h
 by_cases c2 : a0 ≥ 97
 ·rw [if_pos c2] at H
  have c2b0 : decide (97 ≤ a0) = true := decide_eq_true c2
  clear c2
  by_cases c3 : a0 ≤ 122
  ·rw [if_pos c3] at H
   have c3b0 : decide (a0 ≤ 122) = true := decide_eq_true c3
   clear c3
   obtain rfl := Option.some.inj H
   go_enter Try.func56, Try.ntmps56
   go_wp2
   go_ret
   exact ⟨tE, by repeat (first | exact Drawn0.refl _ | apply Drawn0.step)⟩
  ·rw [if_neg c3] at H
   have c3b0 : decide (a0 ≤ 122) = false := decide_eq_false c3
   clear c3
   by_cases c4 : a0 ≥ 65
   ·rw [if_pos c4] at H
    have c4b0 : decide (65 ≤ a0) = true := decide_eq_true c4
    clear c4
    by_cases c5 : a0 ≤ 90
    ·rw [if_pos c5] at H
     have c5b0 : decide (a0 ≤ 90) = true := decide_eq_true c5
     clear c5
     obtain rfl := Option.some.inj H
     go_enter Try.func56, Try.ntmps56
     go_wp2
     go_ret
     exact ⟨tE, by repeat (first | exact Drawn0.refl _ | apply Drawn0.step)⟩
    ·rw [if_neg c5] at H
     have c5b0 : decide (a0 ≤ 90) = false := decide_eq_false c5
     clear c5
     obtain rfl := Option.some.inj H
     go_enter Try.func56, Try.ntmps56
     go_wp2
     go_ret
     exact ⟨tE, by repeat (first | exact Drawn0.refl _ | apply Drawn0.step)⟩
   ·rw [if_neg c4] at H
    have c4b0 : decide (65 ≤ a0) = false := decide_eq_false c4
    clear c4
    obtain rfl := Option.some.inj H
    go_enter Try.func56, Try.ntmps56
    go_wp2
    go_ret
    exact ⟨tE, by repeat (first | exact Drawn0.refl _ | apply Drawn0.step)⟩
 ·rw [if_neg c2] at H
  have c2b0 : decide (97 ≤ a0) = false := decide_eq_false c2
  clear c2
  by_cases c6 : a0 ≥ 65
  ·rw [if_pos c6] at H
   have c6b0 : decide (65 ≤ a0) = true := decide_eq_true c6
   clear c6
   by_cases c7 : a0 ≤ 90
   ·rw [if_pos c7] at H
    have c7b0 : decide (a0 ≤ 90) = true := decide_eq_true c7
    clear c7
    obtain rfl := Option.some.inj H
    go_enter Try.func56, Try.ntmps56
    go_wp2
    go_ret
    exact ⟨tE, by repeat (first | exact Drawn0.refl _ | apply Drawn0.step)⟩
   ·rw [if_neg c7] at H
    have c7b0 : decide (a0 ≤ 90) = false := decide_eq_false c7
    clear c7
    obtain rfl := Option.some.inj H
    go_enter Try.func56, Try.ntmps56
    go_wp2
    go_ret
    exact ⟨tE, by repeat (first | exact Drawn0.refl _ | apply Drawn0.step)⟩
  ·rw [if_neg c6] at H
   have c6b0 : decide (65 ≤ a0) = false := decide_eq_false c6
   clear c6
   obtain rfl := Option.some.inj H
   go_enter Try.func56, Try.ntmps56
   go_wp2
   go_ret
   exact ⟨tE, by repeat (first | exact Drawn0.refl _ | apply Drawn0.step)⟩
mutual
def spec_GoodName.j0 : Nat → ByteArray → Bool → Option (Bool)
 | 0, _, _ => none
 | k + 1, x0, x16 => if x16 = true then (some false) else (spec_GoodName.l0 k x0 0)
def spec_GoodName.l0 : Nat → ByteArray → Int → Option (Bool)
 | 0, _, _ => none
 | k + 1, x0, x3 => if x3 < (x0.size : Int) then (if 0 ≤ x3 then ((spec_l1Letter.f (bt x0 x3)).bind fun t106 => (if t106 = true then (spec_GoodName.l0 k x0 (wrap64 (x3 + 1))) else ((spec_l1Digit.f (bt x0 x3)).bind fun t107 => (if t107 = true then (spec_GoodName.l0 k x0 (wrap64 (x3 + 1))) else (some false))))) else (none)) else (some true)
end
def spec_GoodName.f (k : Nat) (a0 : ByteArray) : Option (Bool) := if (a0.size : Int) < 1 then (spec_GoodName.j0 k a0 true) else (if (a0.size : Int) > 20 then (spec_GoodName.j0 k a0 true) else (if 0 < (a0.size : Int) then ((spec_l1Digit.f (bt a0 0)).bind fun t105 => (spec_GoodName.j0 k a0 t105)) else (none)))
theorem spec_GoodName.mono_l : ∀ k, (∀ y0 y1, LeO (spec_GoodName.j0 k y0 y1) (spec_GoodName.j0 (k + 1) y0 y1)) ∧ (∀ y0 y1, LeO (spec_GoodName.l0 k y0 y1) (spec_GoodName.l0 (k + 1) y0 y1))
 | 0 => ⟨fun _ _ r h => by simp [spec_GoodName.j0] at h, fun _ _ r h => by simp [spec_GoodName.l0] at h⟩
 | k + 1 => by
  obtain ⟨ih0, ih1⟩ := spec_GoodName.mono_l k
  refine ⟨?_, ?_⟩
  ·intro y0 y1
   unfold spec_GoodName.j0
   repeat' first
   | (with_reducible exact ih0 _ _)
   | (with_reducible exact ih1 _ _)
   | (with_reducible first | exact LeO.refl _ | exact LeO.none _ | refine LeO.ite ?_ ?_ | refine LeO.bind ?_ (fun _ => ?_))
   | exact ih0 _ _
   | exact ih1 _ _ | exact LeO.none _ | refine LeO.ite ?_ ?_ | refine LeO.bind ?_ (fun _ => ?_)
  ·intro y0 y1
   unfold spec_GoodName.l0
   repeat' first
   | (with_reducible exact ih0 _ _)
   | (with_reducible exact ih1 _ _)
   | (with_reducible first | exact LeO.refl _ | exact LeO.none _ | refine LeO.ite ?_ ?_ | refine LeO.bind ?_ (fun _ => ?_))
   | exact ih0 _ _
   | exact ih1 _ _ | exact LeO.none _ | refine LeO.ite ?_ ?_ | refine LeO.bind ?_ (fun _ => ?_)
theorem spec_GoodName.mono : ∀ a0 k, LeO (spec_GoodName.f k a0) (spec_GoodName.f (k + 1) a0) := by
 intro a0 k
 obtain ⟨ih0, ih1⟩ := spec_GoodName.mono_l k
 unfold spec_GoodName.f
 repeat' first
   | (with_reducible exact ih0 _ _)
   | (with_reducible exact ih1 _ _)
   | (with_reducible first | exact LeO.refl _ | exact LeO.none _ | refine LeO.ite ?_ ?_ | refine LeO.bind ?_ (fun _ => ?_))
   | exact ih0 _ _
   | exact ih1 _ _ | exact LeO.none _ | refine LeO.ite ?_ ?_ | refine LeO.bind ?_ (fun _ => ?_)
set_option maxHeartbeats 8000000 in
set_option maxRecDepth 100000 in
theorem spec_GoodName.calls (k : Nat) (a0 : ByteArray) (r : Bool) (w : World) (h : spec_GoodName.f k a0 = some r) :
  Calls Try.prog 45 #[.string a0] w fun e w' => e = .returned (.bool r) ∧ Drawn0 w w' := by
 have H : (if (a0.size : Int) < 1 then (spec_GoodName.j0 k a0 true) else (if (a0.size : Int) > 20 then (spec_GoodName.j0 k a0 true) else (if 0 < (a0.size : Int) then ((spec_l1Digit.f (bt a0 0)).bind fun t105 => (spec_GoodName.j0 k a0 t105)) else (none)))) = some r := h
 clear h
 have HC2 := Aside0.mk H
 clear H
 go_enter Try.func45, Try.ntmps45
 go_upto_region 1 with (fail)
 go_cut [16] (fun v16 wc => ∃ (kq : Nat) (x16_1 : Bool), v16 = .bool x16_1 ∧ Aside0 (spec_GoodName.j0 kq a0 x16_1 = some r) ∧ Aside0 (kq ≤ k) ∧ Drawn0 w wc)
 case first =>
  have H := HC2.out
  clear HC2
  by_cases c3 : (a0.size : Int) < 1
  ·rw [if_pos c3] at H
   have c3b0 : decide ((a0.size : Int) < 1) = true := decide_eq_true c3
   have c3b1 : decide (a0.size < 1) = true := decide_eq_true (by omega)
   clear c3
   (first | rw [c3b0] | (simp only [i64_w, i32_w]; rw [c3b0]) | (rw [c3b2]; simp only [Bool.not_false, Bool.not_true]) | skip)
   have H' := Aside0.mk H
   clear H
   go_wp2
   go_meet
   case rel => exact ⟨_, (true), tE, H', ⟨by first | omega | exact Nat.le_refl _⟩, by repeat (first | exact Drawn0.refl _ | apply Drawn0.step)⟩
  ·rw [if_neg c3] at H
   have c3b0 : decide ((a0.size : Int) < 1) = false := decide_eq_false c3
   have c3b1 : decide (a0.size < 1) = false := decide_eq_false (by omega)
   clear c3
   (first | rw [c3b0] | (simp only [i64_w, i32_w]; rw [c3b0]) | (rw [c3b2]; simp only [Bool.not_false, Bool.not_true]) | skip)
   by_cases c4 : (a0.size : Int) > 20
   ·rw [if_pos c4] at H
    have c4b0 : decide (20 < (a0.size : Int)) = true := decide_eq_true c4
    have c4b1 : decide (20 < a0.size) = true := decide_eq_true (by omega)
    clear c4
    have H' := Aside0.mk H
    clear H
    go_wp2
    go_meet
    case rel => exact ⟨_, (true), tE, H', ⟨by first | omega | exact Nat.le_refl _⟩, by repeat (first | exact Drawn0.refl _ | apply Drawn0.step)⟩
   ·rw [if_neg c4] at H
    have c4b0 : decide (20 < (a0.size : Int)) = false := decide_eq_false c4
    have c4b1 : decide (20 < a0.size) = false := decide_eq_false (by omega)
    clear c4
    by_cases c5 : 0 < (a0.size : Int)
    ·rw [if_pos c5] at H
     have c5b0 : decide (0 < (a0.size : Int)) = true := decide_eq_true c5
     have c5b1 : decide (0 < a0.size) = true := decide_eq_true (by omega)
     clear c5
     replace H := Option.bind_eq_some_iff.mp H
     obtain ⟨t105, A70, H⟩ := H
     replace H : (spec_GoodName.j0 k a0 t105) = some r := H
     have A7 := Aside0.mk A70
     clear A70
     have H' := Aside0.mk H
     clear H
     have p6 : 0 ≤ (0 : Int) := (by omega)
     have q6 : 0 < a0.size := (by have : (0 : Int) < (a0.size : Int) := of_decide_eq_true hE; omega)
     have hx6 : ∀ h : 0 < a0.size, ((a0[0]'h).toNat : Int) = bt a0 0 := bt_at a0 0
     clear p6
     have qi6 : (0 < (a0.size : Int)) = True := eq_true (of_decide_eq_true hE)
     replace q6 := eq_true q6
     go_wp2_with (first | (go_at_call 55; (with_reducible refine (spec_l1Digit.calls (bt a0 0) t105 _ A7.out).mono ?_); rintro e w' ⟨rfl, ⟨nd, rfl⟩⟩))
     go_meet
     case rel => exact ⟨_, (t105), tE, H', ⟨by first | omega | exact Nat.le_refl _⟩, by repeat (first | exact Drawn0.refl _ | apply Drawn0.step)⟩
    ·rw [if_neg c5] at H
     exact absurd H (by simp)
 case rest =>
  clear HC2
  obtain ⟨kq, x16_1, rfl, HA, HJ1, ⟨mc1, rfl⟩⟩ := hcut
  cases kq with
  | zero => exact absurd HA.out (by simp [spec_GoodName.j0])
  | succ kj1 =>
   have H := HA.out
   clear HA
   simp only [spec_GoodName.j0] at H
   by_cases c8 : x16_1 = true
   ·subst c8
    have H1 : (some false) = some r := by rw [if_pos rfl] at H; exact H
    clear H
    have H := H1
    clear H1
    obtain rfl := Option.some.inj H
    go_wp2
    go_ret
    exact ⟨tE, by repeat (first | exact Drawn0.refl _ | apply Drawn0.step)⟩
   ·replace c8 := Bool.eq_false_iff.mpr c8
    subst c8
    have H1 : (spec_GoodName.l0 kj1 a0 0) = some r := by rw [if_neg (show ¬ (false = true) by decide)] at H; exact H
    clear H
    have H := H1
    clear H1
    have H' := Aside0.mk H
    clear H
    go_wp2
    go_loopg [3] kj1 (fun kq v3 w' => ∃ (x3_2 : Int), v3 = .int .i64 x3_2 ∧ Aside0 (spec_GoodName.l0 kq a0 x3_2 = some r) ∧ Aside0 (kq ≤ kj1) ∧ Drawn0 w w')
    case atStart => exact ⟨(0), tE, H', ⟨Nat.le_refl _⟩, by repeat (first | exact Drawn0.refl _ | apply Drawn0.step)⟩
    case round =>
     clear H'
     try clear c8
     obtain ⟨x3_2, rfl, HA, HK2, ⟨m2, rfl⟩⟩ := hrel
     cases gk with
     | zero => exact absurd HA.out (by simp [spec_GoodName.l0])
     | succ k2 =>
      have H := HA.out
      clear HA
      simp only [spec_GoodName.l0] at H
      by_cases c9 : x3_2 < (a0.size : Int)
      ·rw [if_pos c9] at H
       have c9b0 : decide (x3_2 < (a0.size : Int)) = true := decide_eq_true c9
       clear c9
       by_cases c10 : 0 ≤ x3_2
       ·rw [if_pos c10] at H
        have c10b0 : decide (0 ≤ x3_2) = true := decide_eq_true c10
        clear c10
        replace H := Option.bind_eq_some_iff.mp H
        obtain ⟨t106, A120, H⟩ := H
        replace H : (if t106 = true then (spec_GoodName.l0 k2 a0 (wrap64 (x3_2 + 1))) else ((spec_l1Digit.f (bt a0 x3_2)).bind fun t107 => (if t107 = true then (spec_GoodName.l0 k2 a0 (wrap64 (x3_2 + 1))) else (some false)))) = some r := H
        have A12 := Aside0.mk A120
        clear A120
        by_cases c13 : t106 = true
        ·subst c13
         have H1 : (spec_GoodName.l0 k2 a0 (wrap64 (x3_2 + 1))) = some r := by rw [if_pos rfl] at H; exact H
         clear H
         have H := H1
         clear H1
         have H' := Aside0.mk H
         clear H
         have p11 : 0 ≤ (x3_2 : Int) := of_decide_eq_true hE
         have q11 : x3_2 < (a0.size : Int) := of_decide_eq_true hE
         have hx11 := bt_at a0 x3_2
         replace p11 := eq_true p11
         replace q11 := eq_true q11
         go_wp2_with (first | ((with_reducible refine gate_callee (f := 56) rfl ?_); refine goesL_ (some 26) rfl rfl Try.func56 (by kernel_rfl) rfl #[.int .u8 (bt a0 x3_2)] rfl aE ?_; (with_reducible refine (spec_l1Letter.calls (bt a0 x3_2) true _ A12.out).mono ?_); rintro e w' ⟨rfl, ⟨nd, rfl⟩⟩; refine ⟨_, rfl, ?_⟩))
         go_roundg k2
         case measure => have := HJ1.out; have := HK2.out; omega
         case rel => exact ⟨(wrap64 (x3_2 + 1)), tE, H', ⟨by have := HJ1.out; have := HK2.out; omega⟩, by repeat (first | exact Drawn0.refl _ | apply Drawn0.step)⟩
        ·replace c13 := Bool.eq_false_iff.mpr c13
         subst c13
         have H1 : ((spec_l1Digit.f (bt a0 x3_2)).bind fun t107 => (if t107 = true then (spec_GoodName.l0 k2 a0 (wrap64 (x3_2 + 1))) else (some false))) = some r := by rw [if_neg (show ¬ (false = true) by decide)] at H; exact H
         clear H
         have H := H1
         clear H1
         replace H := Option.bind_eq_some_iff.mp H
         obtain ⟨t107, A150, H⟩ := H
         replace H : (if t107 = true then (spec_GoodName.l0 k2 a0 (wrap64 (x3_2 + 1))) else (some false)) = some r := H
         have A15 := Aside0.mk A150
         clear A150
         by_cases c16 : t107 = true
         ·subst c16
          have H1 : (spec_GoodName.l0 k2 a0 (wrap64 (x3_2 + 1))) = some r := by rw [if_pos rfl] at H; exact H
          clear H
          have H := H1
          clear H1
          have H' := Aside0.mk H
          clear H
          have p11 : 0 ≤ (x3_2 : Int) := of_decide_eq_true hE
          have q11 : x3_2 < (a0.size : Int) := of_decide_eq_true hE
          have hx11 := bt_at a0 x3_2
          replace p11 := eq_true p11
          replace q11 := eq_true q11
          go_wp2_with (first | ((with_reducible refine gate_callee (f := 56) rfl ?_); refine goesL_ (some 26) rfl rfl Try.func56 (by kernel_rfl) rfl #[.int .u8 (bt a0 x3_2)] rfl aE ?_; (with_reducible refine (spec_l1Letter.calls (bt a0 x3_2) false _ A12.out).mono ?_); rintro e w' ⟨rfl, ⟨nd, rfl⟩⟩; refine ⟨_, rfl, ?_⟩; have p14 : 0 ≤ (x3_2 : Int) := of_decide_eq_true hE; have q14 : x3_2 < (a0.size : Int) := of_decide_eq_true hE; have hx14 := bt_at a0 x3_2; replace p14 := eq_true p14; replace q14 := eq_true q14) | (go_at_call 55; (with_reducible refine (spec_l1Digit.calls (bt a0 x3_2) true _ A15.out).mono ?_); rintro e w' ⟨rfl, ⟨nd, rfl⟩⟩))
          go_roundg k2
          case measure => have := HJ1.out; have := HK2.out; omega
          case rel => exact ⟨(wrap64 (x3_2 + 1)), tE, H', ⟨by have := HJ1.out; have := HK2.out; omega⟩, by repeat (first | exact Drawn0.refl _ | apply Drawn0.step)⟩
         ·replace c16 := Bool.eq_false_iff.mpr c16
          subst c16
          have H1 : (some false) = some r := by rw [if_neg (show ¬ (false = true) by decide)] at H; exact H
          clear H
          have H := H1
          clear H1
          obtain rfl := Option.some.inj H
          have p11 : 0 ≤ (x3_2 : Int) := of_decide_eq_true hE
          have q11 : x3_2 < (a0.size : Int) := of_decide_eq_true hE
          have hx11 := bt_at a0 x3_2
          replace p11 := eq_true p11
          replace q11 := eq_true q11
          go_wp2_with (first | ((with_reducible refine gate_callee (f := 56) rfl ?_); refine goesL_ (some 26) rfl rfl Try.func56 (by kernel_rfl) rfl #[.int .u8 (bt a0 x3_2)] rfl aE ?_; (with_reducible refine (spec_l1Letter.calls (bt a0 x3_2) false _ A12.out).mono ?_); rintro e w' ⟨rfl, ⟨nd, rfl⟩⟩; refine ⟨_, rfl, ?_⟩; have p14 : 0 ≤ (x3_2 : Int) := of_decide_eq_true hE; have q14 : x3_2 < (a0.size : Int) := of_decide_eq_true hE; have hx14 := bt_at a0 x3_2; replace p14 := eq_true p14; replace q14 := eq_true q14) | (go_at_call 55; (with_reducible refine (spec_l1Digit.calls (bt a0 x3_2) false _ A15.out).mono ?_); rintro e w' ⟨rfl, ⟨nd, rfl⟩⟩))
          go_ret
          exact ⟨tE, by repeat (first | exact Drawn0.refl _ | apply Drawn0.step)⟩
       ·rw [if_neg c10] at H
        exact absurd H (by simp)
      ·rw [if_neg c9] at H
       have c9b0 : decide (x3_2 < (a0.size : Int)) = false := decide_eq_false c9
       clear c9
       obtain rfl := Option.some.inj H
       go_wp2
       go_ret
       exact ⟨tE, by repeat (first | exact Drawn0.refl _ | apply Drawn0.step)⟩
end Go.Proofs.Ytjjbkebodkjnkaa.PFnExactLoadSave
namespace Go.Proofs.Ytjjbkebodkjnkaa.PFnExactLoadSave
open Go.RowKit Go.Proofs.YtjjbkebodkjnkaaW.PrintWords Go.Proofs.YtjjbkebodkjnkaaW.PrintLast Go.Proofs.YtjjbkebodkjnkaaW.PrintMore
attribute [local go_sem] max2_int min2_int max_two min_two max_three min_three max_four min_four
set_option linter.unusedVariables false
set_option linter.unusedSimpArgs false
def spec_GoodValues.l0 : Nat → List (S49) → List (S49) → Int → Int → Option (Bool)
 | 0, _, _, _, _ => none
 | k + 1, x0, x8, x9, x10 => if x10 < x9 then (if 0 ≤ x10 then (if x10 < (x8.length : Int) then ((spec_GoodName.f k ((rd_T49 x8 x10).f0)).bind fun t110 => (if t110 = true then (if (((rd_T49 x8 x10).f2).size : Int) > 100 then (some false) else (if x10 > 0 then (if 0 ≤ (wrap64 (x10 - 1)) then (if (wrap64 (x10 - 1)) < (x0.length : Int) then (if ((Op.bytesLess (((rd_T49 x0 (wrap64 (x10 - 1))).f0).toList) (((rd_T49 x8 x10).f0).toList)) = true) then (spec_GoodValues.l0 k x0 x8 x9 (wrap64 (x10 + 1))) else (some false)) else (none)) else (none)) else (spec_GoodValues.l0 k x0 x8 x9 (wrap64 (x10 + 1))))) else (some false))) else (none)) else (none)) else (some true)
def spec_GoodValues.f (k : Nat) (l0 : List (S49)) : Option (Bool) := if (l0.length : Int) > 30 then (some false) else (spec_GoodValues.l0 k l0 l0 (l0.length : Int) 0)
theorem spec_GoodValues.mono_l : ∀ k, (∀ y0 y1 y2 y3, LeO (spec_GoodValues.l0 k y0 y1 y2 y3) (spec_GoodValues.l0 (k + 1) y0 y1 y2 y3))
 | 0 => fun _ _ _ _ r h => by simp [spec_GoodValues.l0] at h
 | k + 1 => by
  have ih0 := spec_GoodValues.mono_l k
  ·intro y0 y1 y2 y3
   unfold spec_GoodValues.l0
   repeat' first
   | (with_reducible exact ih0 _ _ _ _)
   | (with_reducible exact spec_GoodName.mono _ _)
   | (with_reducible first | exact LeO.refl _ | exact LeO.none _ | refine LeO.ite ?_ ?_ | refine LeO.bind ?_ (fun _ => ?_))
   | exact ih0 _ _ _ _
   | exact spec_GoodName.mono _ _ | exact LeO.none _ | refine LeO.ite ?_ ?_ | refine LeO.bind ?_ (fun _ => ?_)
theorem spec_GoodValues.mono : ∀ a0 k, LeO (spec_GoodValues.f k a0) (spec_GoodValues.f (k + 1) a0) := by
 intro a0 k
 have ih0 := spec_GoodValues.mono_l k
 unfold spec_GoodValues.f
 repeat' first
   | (with_reducible exact ih0 _ _ _ _)
   | (with_reducible exact spec_GoodName.mono _ _)
   | (with_reducible first | exact LeO.refl _ | exact LeO.none _ | refine LeO.ite ?_ ?_ | refine LeO.bind ?_ (fun _ => ?_))
   | exact ih0 _ _ _ _
   | exact spec_GoodName.mono _ _ | exact LeO.none _ | refine LeO.ite ?_ ?_ | refine LeO.bind ?_ (fun _ => ?_)
set_option maxHeartbeats 8000000 in
set_option maxRecDepth 100000 in
theorem spec_GoodValues.calls (k : Nat) (A0 : Option Addr) (c0 : Nat) (l0 : List (S49)) (r : Bool) (w : World) (hr0 : Kd.C k49 w A0 l0.length l0) (hc0 : l0.length ≤ c0) (h : spec_GoodValues.f k l0 = some r) :
  Calls Try.prog 29 #[.slice A0 l0.length c0] w fun e w' => e = .returned (.bool r) ∧ Below w.heap.size w w' := by
 have hu49 := Try.underlying49
 have HR0 := Aside0.mk hr0
 have HC0 := Aside0.mk hc0
 clear hr0 hc0
 have HB := Aside0.mk (Below.refl w.heap.size w)
 have H : (if (l0.length : Int) > 30 then (some false) else (spec_GoodValues.l0 k l0 l0 (l0.length : Int) 0)) = some r := h
 clear h
 by_cases c2 : (l0.length : Int) > 30
 ·rw [if_pos c2] at H
  have c2b0 : decide (30 < (l0.length : Int)) = true := decide_eq_true c2
  have c2b1 : decide (30 < l0.length) = true := decide_eq_true (by omega)
  clear c2
  obtain rfl := Option.some.inj H
  go_enter Try.func29, Try.ntmps29
  go_wp2
  repeat (go_quiet (fail); try go_wp2)
  go_ret
  exact ⟨eE, lU⟩
 ·rw [if_neg c2] at H
  have c2b0 : decide (30 < (l0.length : Int)) = false := decide_eq_false c2
  have c2b1 : decide (30 < l0.length) = false := decide_eq_false (by omega)
  clear c2
  have H' := Aside0.mk H
  clear H
  go_enter Try.func29, Try.ntmps29
  go_wp2
  repeat (go_quiet (fail); try go_wp2)
  go_loopg [10] k (fun kq v10 w' => ∃ (x10_1 : Int), v10 = .int .i64 x10_1 ∧ Aside0 (spec_GoodValues.l0 kq l0 l0 (l0.length : Int) x10_1 = some r) ∧ Aside0 (kq ≤ k) ∧ Aside0 (Below w.heap.size w w'))
  case atStart => exact ⟨(0), tE, H', ⟨Nat.le_refl _⟩, ⟨by repeat (first | (with_reducible first | exact HB.out | apply below_alloc | apply pw_below_drewN | apply below_drew1) | exact HB.out)⟩⟩
  case round =>
   clear H'
   try clear c2; try clear c2b0; try clear c2b1
   obtain ⟨x10_1, rfl, HA, HK1, HB⟩ := hrel
   cases gk with
   | zero => exact absurd HA.out (by simp [spec_GoodValues.l0])
   | succ k1 =>
    have H := HA.out
    clear HA
    simp only [spec_GoodValues.l0] at H
    by_cases c3 : x10_1 < (l0.length : Int)
    ·rw [if_pos c3] at H
     have c3b0 : decide (x10_1 < (l0.length : Int)) = true := decide_eq_true c3
     clear c3
     by_cases c4 : 0 ≤ x10_1
     ·rw [if_pos c4] at H
      have c4b0 : decide (0 ≤ x10_1) = true := decide_eq_true c4
      clear c4
      by_cases c5 : x10_1 < (l0.length : Int)
      ·rw [if_pos c5] at H
       have c5b0 : decide (x10_1 < (l0.length : Int)) = true := decide_eq_true c5
       clear c5
       replace H := Option.bind_eq_some_iff.mp H
       obtain ⟨t110, A60, H⟩ := H
       replace H : (if t110 = true then (if (((rd_T49 l0 x10_1).f2).size : Int) > 100 then (some false) else (if x10_1 > 0 then (if 0 ≤ (wrap64 (x10_1 - 1)) then (if (wrap64 (x10_1 - 1)) < (l0.length : Int) then (if ((Op.bytesLess (((rd_T49 l0 (wrap64 (x10_1 - 1))).f0).toList) (((rd_T49 l0 x10_1).f0).toList)) = true) then (spec_GoodValues.l0 k1 l0 l0 (l0.length : Int) (wrap64 (x10_1 + 1))) else (some false)) else (none)) else (none)) else (spec_GoodValues.l0 k1 l0 l0 (l0.length : Int) (wrap64 (x10_1 + 1))))) else (some false)) = some r := H
       have A6 := Aside0.mk A60
       clear A60
       by_cases c7 : t110 = true
       ·subst c7
        have H1 : (if (((rd_T49 l0 x10_1).f2).size : Int) > 100 then (some false) else (if x10_1 > 0 then (if 0 ≤ (wrap64 (x10_1 - 1)) then (if (wrap64 (x10_1 - 1)) < (l0.length : Int) then (if ((Op.bytesLess (((rd_T49 l0 (wrap64 (x10_1 - 1))).f0).toList) (((rd_T49 l0 x10_1).f0).toList)) = true) then (spec_GoodValues.l0 k1 l0 l0 (l0.length : Int) (wrap64 (x10_1 + 1))) else (some false)) else (none)) else (none)) else (spec_GoodValues.l0 k1 l0 l0 (l0.length : Int) (wrap64 (x10_1 + 1))))) = some r := by rw [if_pos rfl] at H; exact H
        clear H
        have H := H1
        clear H1
        by_cases c8 : (((rd_T49 l0 x10_1).f2).size : Int) > 100
        ·rw [if_pos c8] at H
         have c8b0 : decide (100 < (((rd_T49 l0 x10_1).f2).size : Int)) = true := decide_eq_true c8
         have c8b1 : decide (100 < ((rd_T49 l0 x10_1).f2).size) = true := decide_eq_true (by omega)
         clear c8
         obtain rfl := Option.some.inj H
         have p108 : 0 ≤ (x10_1 : Int) := of_decide_eq_true hE
         have q108 : x10_1 < (l0.length : Int) := of_decide_eq_true hE
         obtain ⟨ad108, e108, hx108_0, hx108_1, hx108_2⟩ := at_T49 HR0.out x10_1 p108 q108
         cases e108
         replace hx108_0 := (HB.out.cell (World.block_lt_of_cell? w _ hx108_0)).trans hx108_0
         replace hx108_1 := (HB.out.cell (World.block_lt_of_cell? w _ hx108_1)).trans hx108_1
         replace hx108_2 := (HB.out.cell (World.block_lt_of_cell? w _ hx108_2)).trans hx108_2
         replace p108 := eq_true p108
         replace q108 := eq_true q108
         go_wp2_with (first | ((with_reducible refine gate_dst (N := 4) rfl ?_); (try (refine gate_guard (by rfl) ?_; dsimp only)); refine box_event rfl (N := 4) rfl (cs := #[.string (⟨#[]⟩ : ByteArray), .int .i64 0, .string (⟨#[]⟩ : ByteArray)]) (t := 49) sE ?_; intro gb109 hg w9 hbox hb; have BK109 := Aside0.mk hbox; have GW109 := gS w hg (lU); have GE109 := gS w hg (lU); replace HB := bH (lU) hb; clear hb hbox hg; have hcz10_0 := cz BK109 0 (.string (⟨#[]⟩ : ByteArray)); have hcz10_1 := cz BK109 1 (.int .i64 0); have hcz10_2 := cz BK109 2 (.string (⟨#[]⟩ : ByteArray)); have hfz10_0 := fz BK109 0; have hfz10_1 := fz BK109 1; have hfz10_2 := fz BK109 2) | ((with_reducible refine gate_store (t := 49) (p := 4) rfl ?_); (try (rw [drewN_self w9]; generalize hq_ : World.drewN w9 _ = w9; replace BK109 := Aside0.mk (blk_at hq_ BK109.out); replace HB := Aside0.mk (below_at hq_ HB.out); clear hq_)); refine store_event (t := 49) (p := 4) (v := ?vo_w11) (w1 := (((w9.setCell ⟨gb109, 0, none⟩ (.string ((rd_T49 l0 x10_1).f0))).setCell ⟨gb109, 1, none⟩ (.int .i64 ((rd_T49 l0 x10_1).f1))).setCell ⟨gb109, 2, none⟩ (.string ((rd_T49 l0 x10_1).f2)))) ?hg ?ho ?hn ?hr ?_; (case ho => rfl); (case hg => rfl); (case hn => rfl); (case hr => first | (go_simp; done) | (go_simp; rfl) | (have hq0_ := (blk_cell BK109.out 0).trans (show _ = some _ from rfl); have hf0_ := blk_frozen BK109.out 0; have hq1_ := (blk_cell BK109.out 1).trans (show _ = some _ from rfl); have hf1_ := blk_frozen BK109.out 1; have hq2_ := (blk_cell BK109.out 2).trans (show _ = some _ from rfl); have hf2_ := blk_frozen BK109.out 2; first | (go_simp; done) | (go_simp; rfl))); intro w11 hw; replace BK109 : Aside0 (w11.heap[gb109]? = some (.cells #[.string ((rd_T49 l0 x10_1).f0), .int .i64 ((rd_T49 l0 x10_1).f1), .string ((rd_T49 l0 x10_1).f2)] 49 (0, 0))) := ⟨(by rw [hw]; exact (by refine bU ?_; refine blk_put (cs := #[.string ((rd_T49 l0 x10_1).f0), .int .i64 ((rd_T49 l0 x10_1).f1), .string (⟨#[]⟩ : ByteArray)]) ?_ 2 _ rfl; refine bU ?_; refine blk_put (cs := #[.string ((rd_T49 l0 x10_1).f0), .int .i64 0, .string (⟨#[]⟩ : ByteArray)]) ?_ 1 _ rfl; refine bU ?_; refine blk_put (cs := #[.string (⟨#[]⟩ : ByteArray), .int .i64 0, .string (⟨#[]⟩ : ByteArray)]) ?_ 0 _ rfl; refine bU ?_; exact BK109.out))⟩; replace HB : Aside0 (Below w.heap.size w w11) := ⟨(by rw [hw]; exact (lV1 GE109))⟩; clear hw; have hcz12_0 := cz BK109 0 (.string ((rd_T49 l0 x10_1).f0)); have hcz12_1 := cz BK109 1 (.int .i64 ((rd_T49 l0 x10_1).f1)); have hcz12_2 := cz BK109 2 (.string ((rd_T49 l0 x10_1).f2)); have hfz12_0 := fz BK109 0; have hfz12_1 := fz BK109 1; have hfz12_2 := fz BK109 2))
         repeat (go_quiet (first | (go_at_call 45; (with_reducible refine (spec_GoodName.calls k1 ((rd_T49 l0 x10_1).f0) true _ A6.out).mono ?_); rintro e w' ⟨rfl, ⟨nd, rfl⟩⟩; (try first | exact ⟨rfl, _, World.drewN_drewN _ _ _⟩ | exact ⟨rfl, _, Eq.trans (World.drewN_drewN _ _ _) (congrArg (World.drewN _) (Nat.add_assoc _ _ _))⟩))); try go_wp2)
         go_ret
         exact ⟨eE, lV1 GE109⟩
        ·rw [if_neg c8] at H
         have c8b0 : decide (100 < (((rd_T49 l0 x10_1).f2).size : Int)) = false := decide_eq_false c8
         have c8b1 : decide (100 < ((rd_T49 l0 x10_1).f2).size) = false := decide_eq_false (by omega)
         clear c8
         by_cases c13 : x10_1 > 0
         ·rw [if_pos c13] at H
          have c13b0 : decide (0 < x10_1) = true := decide_eq_true c13
          clear c13
          obtain ⟨ji14, hji14⟩ : ∃ j_ : Int, (wrap64 (x10_1 - 1)) = j_ := ⟨_, rfl⟩
          replace H : (if 0 ≤ (ji14) then (if (ji14) < (l0.length : Int) then (if ((Op.bytesLess (((rd_T49 l0 (ji14)).f0).toList) (((rd_T49 l0 x10_1).f0).toList)) = true) then (spec_GoodValues.l0 k1 l0 l0 (l0.length : Int) (wrap64 (x10_1 + 1))) else (some false)) else (none)) else (none)) = some r := by first | (rw [hji14] at H; exact H) | (simp only [hji14] at H ⊢; exact H)
          (try rw [hji14] at A6)
          have hji14w : (IntKind.i64.wrap (x10_1 - 1)) = ji14 := (i64_w _).trans hji14
          by_cases c15 : 0 ≤ (ji14)
          ·rw [if_pos c15] at H
           have c15b0 : decide (0 ≤ (ji14)) = true := decide_eq_true c15
           clear c15
           by_cases c16 : (ji14) < (l0.length : Int)
           ·rw [if_pos c16] at H
            have c16b0 : decide ((ji14) < (l0.length : Int)) = true := decide_eq_true c16
            clear c16
            by_cases c17 : ((Op.bytesLess (((rd_T49 l0 (ji14)).f0).toList) (((rd_T49 l0 x10_1).f0).toList)) = true)
            ·rw [if_pos c17] at H
             have c17b0 : (Op.bytesLess (((rd_T49 l0 (ji14)).f0).toList) (((rd_T49 l0 x10_1).f0).toList)) = true := c17
             clear c17
             have H' := Aside0.mk H
             clear H
             have p108 : 0 ≤ (x10_1 : Int) := of_decide_eq_true hE
             have q108 : x10_1 < (l0.length : Int) := of_decide_eq_true hE
             obtain ⟨ad108, e108, hx108_0, hx108_1, hx108_2⟩ := at_T49 HR0.out x10_1 p108 q108
             cases e108
             replace hx108_0 := (HB.out.cell (World.block_lt_of_cell? w _ hx108_0)).trans hx108_0
             replace hx108_1 := (HB.out.cell (World.block_lt_of_cell? w _ hx108_1)).trans hx108_1
             replace hx108_2 := (HB.out.cell (World.block_lt_of_cell? w _ hx108_2)).trans hx108_2
             replace p108 := eq_true p108
             replace q108 := eq_true q108
             go_wp2_with (first | ((with_reducible refine gate_dst (N := 4) rfl ?_); (try (refine gate_guard (by rfl) ?_; dsimp only)); refine box_event rfl (N := 4) rfl (cs := #[.string (⟨#[]⟩ : ByteArray), .int .i64 0, .string (⟨#[]⟩ : ByteArray)]) (t := 49) sE ?_; intro gb109 hg w18 hbox hb; have BK109 := Aside0.mk hbox; have GW109 := gS w hg (lU); have GE109 := gS w hg (lU); replace HB := bH (lU) hb; clear hb hbox hg; have hcz19_0 := cz BK109 0 (.string (⟨#[]⟩ : ByteArray)); have hcz19_1 := cz BK109 1 (.int .i64 0); have hcz19_2 := cz BK109 2 (.string (⟨#[]⟩ : ByteArray)); have hfz19_0 := fz BK109 0; have hfz19_1 := fz BK109 1; have hfz19_2 := fz BK109 2) | ((with_reducible refine gate_store (t := 49) (p := 4) rfl ?_); (try (rw [drewN_self w18]; generalize hq_ : World.drewN w18 _ = w18; replace BK109 := Aside0.mk (blk_at hq_ BK109.out); replace HB := Aside0.mk (below_at hq_ HB.out); clear hq_)); refine store_event (t := 49) (p := 4) (v := ?vo_w20) (w1 := (((w18.setCell ⟨gb109, 0, none⟩ (.string ((rd_T49 l0 x10_1).f0))).setCell ⟨gb109, 1, none⟩ (.int .i64 ((rd_T49 l0 x10_1).f1))).setCell ⟨gb109, 2, none⟩ (.string ((rd_T49 l0 x10_1).f2)))) ?hg ?ho ?hn ?hr ?_; (case ho => rfl); (case hg => rfl); (case hn => rfl); (case hr => first | (go_simp; done) | (go_simp; rfl) | (have hq0_ := (blk_cell BK109.out 0).trans (show _ = some _ from rfl); have hf0_ := blk_frozen BK109.out 0; have hq1_ := (blk_cell BK109.out 1).trans (show _ = some _ from rfl); have hf1_ := blk_frozen BK109.out 1; have hq2_ := (blk_cell BK109.out 2).trans (show _ = some _ from rfl); have hf2_ := blk_frozen BK109.out 2; first | (go_simp; done) | (go_simp; rfl))); intro w20 hw; replace BK109 : Aside0 (w20.heap[gb109]? = some (.cells #[.string ((rd_T49 l0 x10_1).f0), .int .i64 ((rd_T49 l0 x10_1).f1), .string ((rd_T49 l0 x10_1).f2)] 49 (0, 0))) := ⟨(by rw [hw]; exact (by refine bU ?_; refine blk_put (cs := #[.string ((rd_T49 l0 x10_1).f0), .int .i64 ((rd_T49 l0 x10_1).f1), .string (⟨#[]⟩ : ByteArray)]) ?_ 2 _ rfl; refine bU ?_; refine blk_put (cs := #[.string ((rd_T49 l0 x10_1).f0), .int .i64 0, .string (⟨#[]⟩ : ByteArray)]) ?_ 1 _ rfl; refine bU ?_; refine blk_put (cs := #[.string (⟨#[]⟩ : ByteArray), .int .i64 0, .string (⟨#[]⟩ : ByteArray)]) ?_ 0 _ rfl; refine bU ?_; exact BK109.out))⟩; replace HB : Aside0 (Below w.heap.size w w20) := ⟨(by rw [hw]; exact (lV1 GE109))⟩; clear hw; have hcz21_0 := cz BK109 0 (.string ((rd_T49 l0 x10_1).f0)); have hcz21_1 := cz BK109 1 (.int .i64 ((rd_T49 l0 x10_1).f1)); have hcz21_2 := cz BK109 2 (.string ((rd_T49 l0 x10_1).f2)); have hfz21_0 := fz BK109 0; have hfz21_1 := fz BK109 1; have hfz21_2 := fz BK109 2))
             repeat (go_quiet (first | (go_at_call 45; (with_reducible refine (spec_GoodName.calls k1 ((rd_T49 l0 x10_1).f0) true _ A6.out).mono ?_); rintro e w' ⟨rfl, ⟨nd, rfl⟩⟩; (try first | exact ⟨rfl, _, World.drewN_drewN _ _ _⟩ | exact ⟨rfl, _, Eq.trans (World.drewN_drewN _ _ _) (congrArg (World.drewN _) (Nat.add_assoc _ _ _))⟩); have p111 : 0 ≤ ((ji14) : Int) := of_decide_eq_true hE; have q111 : (ji14) < (l0.length : Int) := of_decide_eq_true hE; obtain ⟨ad111, e111, hx111_0, hx111_1, hx111_2⟩ := at_T49 HR0.out (ji14) p111 q111; obtain rfl : ad108 = ad111 := (by injection e111); replace hx111_0 := (HB.out.cell (World.block_lt_of_cell? w _ hx111_0)).trans hx111_0; replace hx111_1 := (HB.out.cell (World.block_lt_of_cell? w _ hx111_1)).trans hx111_1; replace hx111_2 := (HB.out.cell (World.block_lt_of_cell? w _ hx111_2)).trans hx111_2; replace p111 := eq_true p111; replace q111 := eq_true q111)); try go_wp2)
             go_roundg k1
             case measure => have := HK1.out; omega
             case rel => exact ⟨(wrap64 (x10_1 + 1)), tE, H', ⟨by have := HK1.out; omega⟩, ⟨by repeat (first | (with_reducible first | exact HB.out | apply below_alloc | apply pw_below_drewN | apply below_drew1 | refine below_set ?_ GE109.out) | exact HB.out)⟩⟩
            ·rw [if_neg c17] at H
             have c17b0 : (Op.bytesLess (((rd_T49 l0 (ji14)).f0).toList) (((rd_T49 l0 x10_1).f0).toList)) = false := by simpa using c17
             clear c17
             obtain rfl := Option.some.inj H
             have p108 : 0 ≤ (x10_1 : Int) := of_decide_eq_true hE
             have q108 : x10_1 < (l0.length : Int) := of_decide_eq_true hE
             obtain ⟨ad108, e108, hx108_0, hx108_1, hx108_2⟩ := at_T49 HR0.out x10_1 p108 q108
             cases e108
             replace hx108_0 := (HB.out.cell (World.block_lt_of_cell? w _ hx108_0)).trans hx108_0
             replace hx108_1 := (HB.out.cell (World.block_lt_of_cell? w _ hx108_1)).trans hx108_1
             replace hx108_2 := (HB.out.cell (World.block_lt_of_cell? w _ hx108_2)).trans hx108_2
             replace p108 := eq_true p108
             replace q108 := eq_true q108
             go_wp2_with (first | ((with_reducible refine gate_dst (N := 4) rfl ?_); (try (refine gate_guard (by rfl) ?_; dsimp only)); refine box_event rfl (N := 4) rfl (cs := #[.string (⟨#[]⟩ : ByteArray), .int .i64 0, .string (⟨#[]⟩ : ByteArray)]) (t := 49) sE ?_; intro gb109 hg w22 hbox hb; have BK109 := Aside0.mk hbox; have GW109 := gS w hg (lU); have GE109 := gS w hg (lU); replace HB := bH (lU) hb; clear hb hbox hg; have hcz23_0 := cz BK109 0 (.string (⟨#[]⟩ : ByteArray)); have hcz23_1 := cz BK109 1 (.int .i64 0); have hcz23_2 := cz BK109 2 (.string (⟨#[]⟩ : ByteArray)); have hfz23_0 := fz BK109 0; have hfz23_1 := fz BK109 1; have hfz23_2 := fz BK109 2) | ((with_reducible refine gate_store (t := 49) (p := 4) rfl ?_); (try (rw [drewN_self w22]; generalize hq_ : World.drewN w22 _ = w22; replace BK109 := Aside0.mk (blk_at hq_ BK109.out); replace HB := Aside0.mk (below_at hq_ HB.out); clear hq_)); refine store_event (t := 49) (p := 4) (v := ?vo_w24) (w1 := (((w22.setCell ⟨gb109, 0, none⟩ (.string ((rd_T49 l0 x10_1).f0))).setCell ⟨gb109, 1, none⟩ (.int .i64 ((rd_T49 l0 x10_1).f1))).setCell ⟨gb109, 2, none⟩ (.string ((rd_T49 l0 x10_1).f2)))) ?hg ?ho ?hn ?hr ?_; (case ho => rfl); (case hg => rfl); (case hn => rfl); (case hr => first | (go_simp; done) | (go_simp; rfl) | (have hq0_ := (blk_cell BK109.out 0).trans (show _ = some _ from rfl); have hf0_ := blk_frozen BK109.out 0; have hq1_ := (blk_cell BK109.out 1).trans (show _ = some _ from rfl); have hf1_ := blk_frozen BK109.out 1; have hq2_ := (blk_cell BK109.out 2).trans (show _ = some _ from rfl); have hf2_ := blk_frozen BK109.out 2; first | (go_simp; done) | (go_simp; rfl))); intro w24 hw; replace BK109 : Aside0 (w24.heap[gb109]? = some (.cells #[.string ((rd_T49 l0 x10_1).f0), .int .i64 ((rd_T49 l0 x10_1).f1), .string ((rd_T49 l0 x10_1).f2)] 49 (0, 0))) := ⟨(by rw [hw]; exact (by refine bU ?_; refine blk_put (cs := #[.string ((rd_T49 l0 x10_1).f0), .int .i64 ((rd_T49 l0 x10_1).f1), .string (⟨#[]⟩ : ByteArray)]) ?_ 2 _ rfl; refine bU ?_; refine blk_put (cs := #[.string ((rd_T49 l0 x10_1).f0), .int .i64 0, .string (⟨#[]⟩ : ByteArray)]) ?_ 1 _ rfl; refine bU ?_; refine blk_put (cs := #[.string (⟨#[]⟩ : ByteArray), .int .i64 0, .string (⟨#[]⟩ : ByteArray)]) ?_ 0 _ rfl; refine bU ?_; exact BK109.out))⟩; replace HB : Aside0 (Below w.heap.size w w24) := ⟨(by rw [hw]; exact (lV1 GE109))⟩; clear hw; have hcz25_0 := cz BK109 0 (.string ((rd_T49 l0 x10_1).f0)); have hcz25_1 := cz BK109 1 (.int .i64 ((rd_T49 l0 x10_1).f1)); have hcz25_2 := cz BK109 2 (.string ((rd_T49 l0 x10_1).f2)); have hfz25_0 := fz BK109 0; have hfz25_1 := fz BK109 1; have hfz25_2 := fz BK109 2))
             repeat (go_quiet (first | (go_at_call 45; (with_reducible refine (spec_GoodName.calls k1 ((rd_T49 l0 x10_1).f0) true _ A6.out).mono ?_); rintro e w' ⟨rfl, ⟨nd, rfl⟩⟩; (try first | exact ⟨rfl, _, World.drewN_drewN _ _ _⟩ | exact ⟨rfl, _, Eq.trans (World.drewN_drewN _ _ _) (congrArg (World.drewN _) (Nat.add_assoc _ _ _))⟩); have p111 : 0 ≤ ((ji14) : Int) := of_decide_eq_true hE; have q111 : (ji14) < (l0.length : Int) := of_decide_eq_true hE; obtain ⟨ad111, e111, hx111_0, hx111_1, hx111_2⟩ := at_T49 HR0.out (ji14) p111 q111; obtain rfl : ad108 = ad111 := (by injection e111); replace hx111_0 := (HB.out.cell (World.block_lt_of_cell? w _ hx111_0)).trans hx111_0; replace hx111_1 := (HB.out.cell (World.block_lt_of_cell? w _ hx111_1)).trans hx111_1; replace hx111_2 := (HB.out.cell (World.block_lt_of_cell? w _ hx111_2)).trans hx111_2; replace p111 := eq_true p111; replace q111 := eq_true q111)); try go_wp2)
             go_ret
             exact ⟨by first | rfl | (simp [errW_none, errW_some] <;> rfl) | (simp only [← hji14]; first | rfl | (simp [errW_none, errW_some] <;> rfl)) | (simp [*, errW_none, errW_some] <;> rfl), lV1 GE109⟩
           ·rw [if_neg c16] at H
            exact absurd H (by simp)
          ·rw [if_neg c15] at H
           exact absurd H (by simp)
         ·rw [if_neg c13] at H
          have c13b0 : decide (0 < x10_1) = false := decide_eq_false c13
          clear c13
          have H' := Aside0.mk H
          clear H
          have p108 : 0 ≤ (x10_1 : Int) := of_decide_eq_true hE
          have q108 : x10_1 < (l0.length : Int) := of_decide_eq_true hE
          obtain ⟨ad108, e108, hx108_0, hx108_1, hx108_2⟩ := at_T49 HR0.out x10_1 p108 q108
          cases e108
          replace hx108_0 := (HB.out.cell (World.block_lt_of_cell? w _ hx108_0)).trans hx108_0
          replace hx108_1 := (HB.out.cell (World.block_lt_of_cell? w _ hx108_1)).trans hx108_1
          replace hx108_2 := (HB.out.cell (World.block_lt_of_cell? w _ hx108_2)).trans hx108_2
          replace p108 := eq_true p108
          replace q108 := eq_true q108
          go_wp2_with (first | ((with_reducible refine gate_dst (N := 4) rfl ?_); (try (refine gate_guard (by rfl) ?_; dsimp only)); refine box_event rfl (N := 4) rfl (cs := #[.string (⟨#[]⟩ : ByteArray), .int .i64 0, .string (⟨#[]⟩ : ByteArray)]) (t := 49) sE ?_; intro gb109 hg w26 hbox hb; have BK109 := Aside0.mk hbox; have GW109 := gS w hg (lU); have GE109 := gS w hg (lU); replace HB := bH (lU) hb; clear hb hbox hg; have hcz27_0 := cz BK109 0 (.string (⟨#[]⟩ : ByteArray)); have hcz27_1 := cz BK109 1 (.int .i64 0); have hcz27_2 := cz BK109 2 (.string (⟨#[]⟩ : ByteArray)); have hfz27_0 := fz BK109 0; have hfz27_1 := fz BK109 1; have hfz27_2 := fz BK109 2) | ((with_reducible refine gate_store (t := 49) (p := 4) rfl ?_); (try (rw [drewN_self w26]; generalize hq_ : World.drewN w26 _ = w26; replace BK109 := Aside0.mk (blk_at hq_ BK109.out); replace HB := Aside0.mk (below_at hq_ HB.out); clear hq_)); refine store_event (t := 49) (p := 4) (v := ?vo_w28) (w1 := (((w26.setCell ⟨gb109, 0, none⟩ (.string ((rd_T49 l0 x10_1).f0))).setCell ⟨gb109, 1, none⟩ (.int .i64 ((rd_T49 l0 x10_1).f1))).setCell ⟨gb109, 2, none⟩ (.string ((rd_T49 l0 x10_1).f2)))) ?hg ?ho ?hn ?hr ?_; (case ho => rfl); (case hg => rfl); (case hn => rfl); (case hr => first | (go_simp; done) | (go_simp; rfl) | (have hq0_ := (blk_cell BK109.out 0).trans (show _ = some _ from rfl); have hf0_ := blk_frozen BK109.out 0; have hq1_ := (blk_cell BK109.out 1).trans (show _ = some _ from rfl); have hf1_ := blk_frozen BK109.out 1; have hq2_ := (blk_cell BK109.out 2).trans (show _ = some _ from rfl); have hf2_ := blk_frozen BK109.out 2; first | (go_simp; done) | (go_simp; rfl))); intro w28 hw; replace BK109 : Aside0 (w28.heap[gb109]? = some (.cells #[.string ((rd_T49 l0 x10_1).f0), .int .i64 ((rd_T49 l0 x10_1).f1), .string ((rd_T49 l0 x10_1).f2)] 49 (0, 0))) := ⟨(by rw [hw]; exact (by refine bU ?_; refine blk_put (cs := #[.string ((rd_T49 l0 x10_1).f0), .int .i64 ((rd_T49 l0 x10_1).f1), .string (⟨#[]⟩ : ByteArray)]) ?_ 2 _ rfl; refine bU ?_; refine blk_put (cs := #[.string ((rd_T49 l0 x10_1).f0), .int .i64 0, .string (⟨#[]⟩ : ByteArray)]) ?_ 1 _ rfl; refine bU ?_; refine blk_put (cs := #[.string (⟨#[]⟩ : ByteArray), .int .i64 0, .string (⟨#[]⟩ : ByteArray)]) ?_ 0 _ rfl; refine bU ?_; exact BK109.out))⟩; replace HB : Aside0 (Below w.heap.size w w28) := ⟨(by rw [hw]; exact (lV1 GE109))⟩; clear hw; have hcz29_0 := cz BK109 0 (.string ((rd_T49 l0 x10_1).f0)); have hcz29_1 := cz BK109 1 (.int .i64 ((rd_T49 l0 x10_1).f1)); have hcz29_2 := cz BK109 2 (.string ((rd_T49 l0 x10_1).f2)); have hfz29_0 := fz BK109 0; have hfz29_1 := fz BK109 1; have hfz29_2 := fz BK109 2))
          repeat (go_quiet (first | (go_at_call 45; (with_reducible refine (spec_GoodName.calls k1 ((rd_T49 l0 x10_1).f0) true _ A6.out).mono ?_); rintro e w' ⟨rfl, ⟨nd, rfl⟩⟩; (try first | exact ⟨rfl, _, World.drewN_drewN _ _ _⟩ | exact ⟨rfl, _, Eq.trans (World.drewN_drewN _ _ _) (congrArg (World.drewN _) (Nat.add_assoc _ _ _))⟩))); try go_wp2)
          go_roundg k1
          case measure => have := HK1.out; omega
          case rel => exact ⟨(wrap64 (x10_1 + 1)), tE, H', ⟨by have := HK1.out; omega⟩, ⟨by repeat (first | (with_reducible first | exact HB.out | apply below_alloc | apply pw_below_drewN | apply below_drew1 | refine below_set ?_ GE109.out) | exact HB.out)⟩⟩
       ·replace c7 := Bool.eq_false_iff.mpr c7
        subst c7
        have H1 : (some false) = some r := by rw [if_neg (show ¬ (false = true) by decide)] at H; exact H
        clear H
        have H := H1
        clear H1
        obtain rfl := Option.some.inj H
        have p108 : 0 ≤ (x10_1 : Int) := of_decide_eq_true hE
        have q108 : x10_1 < (l0.length : Int) := of_decide_eq_true hE
        obtain ⟨ad108, e108, hx108_0, hx108_1, hx108_2⟩ := at_T49 HR0.out x10_1 p108 q108
        cases e108
        replace hx108_0 := (HB.out.cell (World.block_lt_of_cell? w _ hx108_0)).trans hx108_0
        replace hx108_1 := (HB.out.cell (World.block_lt_of_cell? w _ hx108_1)).trans hx108_1
        replace hx108_2 := (HB.out.cell (World.block_lt_of_cell? w _ hx108_2)).trans hx108_2
        replace p108 := eq_true p108
        replace q108 := eq_true q108
        go_wp2_with (first | ((with_reducible refine gate_dst (N := 4) rfl ?_); (try (refine gate_guard (by rfl) ?_; dsimp only)); refine box_event rfl (N := 4) rfl (cs := #[.string (⟨#[]⟩ : ByteArray), .int .i64 0, .string (⟨#[]⟩ : ByteArray)]) (t := 49) sE ?_; intro gb109 hg w30 hbox hb; have BK109 := Aside0.mk hbox; have GW109 := gS w hg (lU); have GE109 := gS w hg (lU); replace HB := bH (lU) hb; clear hb hbox hg; have hcz31_0 := cz BK109 0 (.string (⟨#[]⟩ : ByteArray)); have hcz31_1 := cz BK109 1 (.int .i64 0); have hcz31_2 := cz BK109 2 (.string (⟨#[]⟩ : ByteArray)); have hfz31_0 := fz BK109 0; have hfz31_1 := fz BK109 1; have hfz31_2 := fz BK109 2) | ((with_reducible refine gate_store (t := 49) (p := 4) rfl ?_); (try (rw [drewN_self w30]; generalize hq_ : World.drewN w30 _ = w30; replace BK109 := Aside0.mk (blk_at hq_ BK109.out); replace HB := Aside0.mk (below_at hq_ HB.out); clear hq_)); refine store_event (t := 49) (p := 4) (v := ?vo_w32) (w1 := (((w30.setCell ⟨gb109, 0, none⟩ (.string ((rd_T49 l0 x10_1).f0))).setCell ⟨gb109, 1, none⟩ (.int .i64 ((rd_T49 l0 x10_1).f1))).setCell ⟨gb109, 2, none⟩ (.string ((rd_T49 l0 x10_1).f2)))) ?hg ?ho ?hn ?hr ?_; (case ho => rfl); (case hg => rfl); (case hn => rfl); (case hr => first | (go_simp; done) | (go_simp; rfl) | (have hq0_ := (blk_cell BK109.out 0).trans (show _ = some _ from rfl); have hf0_ := blk_frozen BK109.out 0; have hq1_ := (blk_cell BK109.out 1).trans (show _ = some _ from rfl); have hf1_ := blk_frozen BK109.out 1; have hq2_ := (blk_cell BK109.out 2).trans (show _ = some _ from rfl); have hf2_ := blk_frozen BK109.out 2; first | (go_simp; done) | (go_simp; rfl))); intro w32 hw; replace BK109 : Aside0 (w32.heap[gb109]? = some (.cells #[.string ((rd_T49 l0 x10_1).f0), .int .i64 ((rd_T49 l0 x10_1).f1), .string ((rd_T49 l0 x10_1).f2)] 49 (0, 0))) := ⟨(by rw [hw]; exact (by refine bU ?_; refine blk_put (cs := #[.string ((rd_T49 l0 x10_1).f0), .int .i64 ((rd_T49 l0 x10_1).f1), .string (⟨#[]⟩ : ByteArray)]) ?_ 2 _ rfl; refine bU ?_; refine blk_put (cs := #[.string ((rd_T49 l0 x10_1).f0), .int .i64 0, .string (⟨#[]⟩ : ByteArray)]) ?_ 1 _ rfl; refine bU ?_; refine blk_put (cs := #[.string (⟨#[]⟩ : ByteArray), .int .i64 0, .string (⟨#[]⟩ : ByteArray)]) ?_ 0 _ rfl; refine bU ?_; exact BK109.out))⟩; replace HB : Aside0 (Below w.heap.size w w32) := ⟨(by rw [hw]; exact (lV1 GE109))⟩; clear hw; have hcz33_0 := cz BK109 0 (.string ((rd_T49 l0 x10_1).f0)); have hcz33_1 := cz BK109 1 (.int .i64 ((rd_T49 l0 x10_1).f1)); have hcz33_2 := cz BK109 2 (.string ((rd_T49 l0 x10_1).f2)); have hfz33_0 := fz BK109 0; have hfz33_1 := fz BK109 1; have hfz33_2 := fz BK109 2))
        repeat (go_quiet (first | (go_at_call 45; (with_reducible refine (spec_GoodName.calls k1 ((rd_T49 l0 x10_1).f0) false _ A6.out).mono ?_); rintro e w' ⟨rfl, ⟨nd, rfl⟩⟩; (try first | exact ⟨rfl, _, World.drewN_drewN _ _ _⟩ | exact ⟨rfl, _, Eq.trans (World.drewN_drewN _ _ _) (congrArg (World.drewN _) (Nat.add_assoc _ _ _))⟩))); try go_wp2)
        go_ret
        exact ⟨eE, lV1 GE109⟩
      ·rw [if_neg c5] at H
       exact absurd H (by simp)
     ·rw [if_neg c4] at H
      exact absurd H (by simp)
    ·rw [if_neg c3] at H
     have c3b0 : decide (x10_1 < (l0.length : Int)) = false := decide_eq_false c3
     clear c3
     obtain rfl := Option.some.inj H
     go_wp2
     repeat (go_quiet (fail); try go_wp2)
     go_ret
     exact ⟨eE, lU⟩
theorem rs_low (w : World) (g j : Nat) (u : Value) : ∀ k, k < g → (w.setCell ⟨g, j, none⟩ u).heap[k]? = w.heap[k]? := fun k hk => Below.heap_setCell w ⟨g, j, none⟩ u k (by show k ≠ g; omega)
def Kb (w w' : World) (g : Nat) : Prop := KeepBut w w' g none ∧ Below 0 w w'
theorem Kb.trans {w w1 w2 : World} {g : Nat} (h : Kb w w1 g) (k : Kb w1 w2 g) : Kb w w2 g := ⟨h.1.trans k.1 (.inl rfl), h.2.trans k.2⟩
theorem Kb.of_below {w w1 : World} (h : Below w.heap.size w w1) (g : Nat) : Kb w w1 g := ⟨KeepBut.of_below h g none, h.mono (Nat.zero_le _)⟩
theorem Kb.set (w : World) (g j : Nat) (u : Value) : Kb w (w.setCell ⟨g, j, none⟩ u) g := ⟨(KeepBut.refl w g none).set_ j u, (Below.refl 0 w).setCell (Nat.zero_le _) u⟩
theorem Kb.below {w0 w w1 : World} {g : Nat} (h : Below w0.heap.size w0 w) (k : Kb w w1 g) (hg : w0.heap.size ≤ g) : Below w0.heap.size w0 w1 :=
 h.trans ⟨k.2.os, k.2.tape, k.2.output, k.2.size, fun i hi => k.1.2 i (Nat.lt_of_lt_of_le hi h.size) (by omega) (by simp)⟩
theorem Kb.blk {w w1 : World} {g g' : Nat} {o : Obj} (k : Kb w w1 g) (h : w.heap[g']? = some o) (hne : g' ≠ g) : w1.heap[g']? = some o := (k.1.2 g' (blk_lt h) hne (by simp)).trans h
def Sp.Is (w : World) (g : Nat) (l : List Int) (p : Nat) (s : Bool) : Prop := ∃ A c, w.heap[g]? = some (.cells #[.slice A l.length c, .int .i64 (p : Nat), .bool s] 57 (0, 0)) ∧ l.length ≤ c ∧ ∀ W' : World, (∀ k, k < g → W'.heap[k]? = w.heap[k]?) → (Kd.int .u8).C W' A l.length l
theorem Sp.Is.lt {w : World} {g p : Nat} {l : List Int} {s : Bool} (h : Sp.Is w g l p s) : g < w.heap.size := by
 obtain ⟨A, c, h1, _, _⟩ := h
 exact blk_lt h1
theorem Sp.Is.step {w w1 : World} {g p : Nat} {l : List Int} {s : Bool} (h : Sp.Is w g l p s) (hk : ∀ k, k ≤ g → w1.heap[k]? = w.heap[k]?) : Sp.Is w1 g l p s := by
 obtain ⟨A, c, h1, h2, h3⟩ := h
 exact ⟨A, c, (hk g (Nat.le_refl _)).trans h1, h2, fun W' h => h3 W' (fun k hg => (h k hg).trans (hk k (Nat.le_of_lt hg)))⟩
theorem Sp.Is.keep {w w1 : World} {g p : Nat} {l : List Int} {s : Bool} (h : Sp.Is w g l p s) (hb : Below w.heap.size w w1) : Sp.Is w1 g l p s := h.step (fun k hk => hb.block k (Nat.lt_of_le_of_lt hk h.lt))
theorem Sp.Is.far {w : World} {g g' j p : Nat} {u : Value} {l : List Int} {s : Bool} (h : Sp.Is w g l p s) (hg : g < g') : Sp.Is (w.setCell ⟨g', j, none⟩ u) g l p s := h.step (fun k hk => Below.heap_setCell w ⟨g', j, none⟩ u k (by show k ≠ g'; omega))
def spec_take.f (l : List Int) (p : Nat) (s : Bool) (n : Nat) : Nat × Bool × List Int := if s = true ∨ l.length < p + n then (p, true, []) else (p + n, false, (l.take (p + n)).drop p)
set_option maxHeartbeats 8000000 in
set_option maxRecDepth 100000 in
theorem spec_take.calls (g n p p2 : Nat) (l o : List Int) (s s2 : Bool) (w : World) (hn : n ≤ 1000) (hp : p ≤ 1000000) (hi : Sp.Is w g l p s) (h : spec_take.f l p s n = (p2, s2, o)) :
  Calls Try.prog 27 #[.pointer (some ⟨g, 0, none⟩), .int .i64 (n : Nat)] w fun e w' => ∃ Ao co, e = .returned (.slice Ao o.length co) ∧ Sp.Is w' g l p2 s2 ∧ o.length ≤ co ∧ (Kd.int .u8).C w' Ao o.length o ∧ Kb w w' g := by
 obtain ⟨A, c, hb0, hc0, hf0⟩ := hi
 have hmx : l.length ≤ 9223372036854775807 := (hf0 w (fun _ _ => rfl)).2.1
 have HF := Aside0.mk hf0
 have HC0 := Aside0.mk hc0
 have BK := Aside0.mk hb0
 have hcz0 : w.cell? ⟨g, 0, none⟩ = some (.slice A l.length c) := (blk_cell hb0 0).trans rfl
 have hcz1 : w.cell? ⟨g, 1, none⟩ = some (.int .i64 (p : Nat)) := (blk_cell hb0 1).trans rfl
 have hcz2 : w.cell? ⟨g, 2, none⟩ = some (.bool s) := (blk_cell hb0 2).trans rfl
 have hfz1 := blk_frozen hb0 1
 have hfz2 := blk_frozen hb0 2
 have hw1 : wrap64 ((l.length : Int) - (p : Int)) = (l.length : Int) - (p : Int) := by unfold wrap64; omega
 have hw2 : wrap64 ((p : Int) + (n : Int)) = (p : Int) + (n : Int) := by unfold wrap64; omega
 have hw3 : wrap64 ((p : Int) + (n : Int) - (n : Int)) = (p : Int) := by unfold wrap64; omega
 have hw4 : IntKind.i64.wrap ((p : Int) + (n : Int) - (n : Int)) = (p : Int) := (i64_w _).trans hw3
 clear hf0 hc0 hb0
 unfold spec_take.f at h
 split at h
 ·rename_i hor
  obtain ⟨rfl, h2⟩ := Prod.mk.inj h
  obtain ⟨rfl, rfl⟩ := Prod.mk.inj h2
  clear h h2
  have hend : ∀ W : World, (∃ m, W = (w.drewN m).setCell ⟨g, 2, none⟩ (.bool true)) → Sp.Is W g l p true ∧ Kb w W g := by
   rintro W ⟨m, rfl⟩
   refine ⟨⟨A, c, ?_, HC0.out, fun W' hW => HF.out W' (fun k hk => (hW k hk).trans (rs_low (w.drewN m) g 2 _ k hk))⟩, Kb.trans (Kb.of_below (pw_below_drewN (Below.refl _ _) m) g) (Kb.set _ g 2 _)⟩
   exact blk_set (blk_drewN BK.out m) 2 (.bool true)
  have HEND := Aside0.mk hend
  clear hend
  cases s with
  | true =>
   go_enter Try.func27, Try.ntmps27
   go_wp2
   go_quiet (fail)
   go_wp2
   go_ret
   obtain ⟨h1, h2⟩ := HEND.out _ ⟨_, rfl⟩
   exact ⟨none, 0, rfl, h1, Nat.le_refl _, Kd.C_nil _ _, h2⟩
  | false =>
   have hgt : (n : Int) > (l.length : Int) - (p : Int) := by
    have : l.length < p + n := by simpa using hor
    omega
   clear hor
   go_enter Try.func27, Try.ntmps27
   go_wp2
   go_quiet (fail)
   go_wp2
   go_ret
   obtain ⟨h1, h2⟩ := HEND.out _ ⟨_, rfl⟩
   exact ⟨none, 0, rfl, h1, Nat.le_refl _, Kd.C_nil _ _, h2⟩
 ·rename_i hor
  have hs : s = false := by cases s <;> simp_all
  subst hs
  have hle : p + n ≤ l.length := by
   have : ¬ l.length < p + n := by simpa using hor
   omega
  obtain ⟨rfl, h2⟩ := Prod.mk.inj h
  obtain ⟨rfl, h3⟩ := Prod.mk.inj h2
  have H3 := Aside0.mk h3
  have hl1 : o.length = n := by rw [← h3, List.length_drop, List.length_take]; omega
  have HL1 := Aside0.mk hl1
  clear h h2 h3 hl1 hor
  have hgt : ¬ ((n : Int) > (l.length : Int) - (p : Int)) := by omega
  obtain ⟨j0, hj0, _, hj1, _⟩ := info_parts info5
  have cutM := cut_mid (P := Try.prog) 22 5 .i64 .i64 Try.underlying22 hj0 1 hj1 A l.length c (p : Int) ((p : Int) + (n : Int)) (by omega) (by omega) (by omega) HC0.out
  rw [show ((p : Int) + (n : Int)).toNat - (p : Int).toNat = n by omega, Int.toNat_natCast] at cutM
  obtain ⟨A2, hA2⟩ : ∃ a, a = (if c = p then A else A.map (·.add (p * 1))) := ⟨_, rfl⟩
  rw [← hA2] at cutM
  have hend : ∀ W : World, (∃ m m2, W = ((w.drewN m).setCell ⟨g, 1, none⟩ (.int .i64 ((p : Int) + (n : Int)))).drewN m2) → Sp.Is W g l (p + n) false ∧ Kb w W g ∧ (Kd.int .u8).C W A2 o.length o := by
   rintro W ⟨m, m2, rfl⟩
   refine ⟨⟨A, c, ?_, HC0.out, fun W' hW => HF.out W' (fun k hk => (hW k hk).trans (rs_low (w.drewN m) g 1 _ k hk))⟩, Kb.trans (Kb.trans (Kb.of_below (pw_below_drewN (Below.refl _ _) m) g) (Kb.set _ g 1 _)) (Kb.of_below (pw_below_drewN (Below.refl _ _) m2) g), ?_⟩
   ·rw [Int.natCast_add]; exact blk_drewN (blk_set (blk_drewN BK.out m) 1 (.int .i64 ((p : Int) + (n : Int)))) m2
   ·rw [← H3.out, hA2]
    exact Kd.C_drewN (Kd.C_mid (lo := p) (hi := p + n) (HF.out ((w.drewN m).setCell ⟨g, 1, none⟩ (.int .i64 ((p : Int) + (n : Int)))) (fun k hk => rs_low (w.drewN m) g 1 _ k hk)) (by omega) hle HC0.out) m2
  have HEND := Aside0.mk hend
  clear hA2 hend
  go_enter Try.func27, Try.ntmps27
  go_wp2
  go_quiet (fail)
  go_wp2
  go_quiet (fail)
  go_wp2
  go_ret
  obtain ⟨h1, h2, h3⟩ := HEND.out _ ⟨_, _, rfl⟩
  exact ⟨A2, c - p, by rw [HL1.out]; rfl, h1, by rw [HL1.out]; have := HC0.out; omega, h3, h2⟩
theorem spec_take.length (l : List Int) (p : Nat) (s : Bool) (n : Nat) : (spec_take.f l p s n).2.2 = [] ∨ (spec_take.f l p s n).2.2.length = n := by
 unfold spec_take.f; split
 ·exact .inl rfl
 ·rename_i h
  have : ¬ l.length < p + n := fun h2 => h (.inr h2)
  exact .inr (by simp; omega)
def spec_byte.f (l : List Int) (p : Nat) (s : Bool) : Option (Nat × Bool × Nat) :=
 if (spec_take.f l p s 1).2.2 = [] then some ((spec_take.f l p s 1).1, (spec_take.f l p s 1).2.1, 0) else
 if 0 ≤ rd (spec_take.f l p s 1).2.2 0 ∧ rd (spec_take.f l p s 1).2.2 0 < 256 then some ((spec_take.f l p s 1).1, (spec_take.f l p s 1).2.1, (rd (spec_take.f l p s 1).2.2 0).toNat) else none
set_option maxHeartbeats 8000000 in
set_option maxRecDepth 100000 in
theorem spec_byte.calls (g p p2 v : Nat) (l : List Int) (s s2 : Bool) (w : World) (hp : p ≤ 1000000) (hi : Sp.Is w g l p s) (h : spec_byte.f l p s = some (p2, s2, v)) :
  Calls Try.prog 26 #[.pointer (some ⟨g, 0, none⟩)] w fun e w' => e = .returned (.int .i64 (v : Nat)) ∧ Sp.Is w' g l p2 s2 ∧ Kb w w' g := by
 have HI := Aside0.mk hi
 clear hi
 unfold spec_byte.f at h
 have hlen := spec_take.length l p s 1
 obtain ⟨⟨m1, q1, o1⟩, h1⟩ : ∃ x, x = spec_take.f l p s 1 := ⟨_, rfl⟩
 rw [← h1] at h hlen
 simp only at h hlen
 have H1 := Aside0.mk h1.symm
 clear h1
 split at h
 ·rename_i ho
  subst ho
  simp only [Option.some.injEq, Prod.mk.injEq] at h
  obtain ⟨rfl, rfl, rfl⟩ := h
  go_enter Try.func26, Try.ntmps26
  go_wp2_with (first
   | (go_at_call 27; refine (spec_take.calls g 1 p _ l _ s _ _ (by omega) hp HI.out H1.out).mono ?_; rintro e w1 ⟨A1, c1, rfl, hi, hlc, hf, hk⟩; have HI1 := Aside0.mk hi; have HK := Aside0.mk hk; clear hi hlc hf hk))
  go_ret
  exact ⟨rfl, HI1.out, HK.out⟩
 ·rename_i ho
  have hlen := hlen.resolve_left ho
  split at h
  ·rename_i hr
   simp only [Option.some.injEq, Prod.mk.injEq] at h
   obtain ⟨rfl, rfl, rfl⟩ := h
   have hcv : ((rd o1 0).toNat : Int) = rd o1 0 := by omega
   have hwr : wrap64 (rd o1 0) = rd o1 0 := by unfold wrap64; omega
   clear ho hr
   go_enter Try.func26, Try.ntmps26
   go_wp2_with (first
    | (go_at_call 27; refine (spec_take.calls g 1 p _ l _ s _ _ (by omega) hp HI.out H1.out).mono ?_; rintro e w1 ⟨A1, c1, rfl, hi, hlc, hf, hk⟩; have HI1 := Aside0.mk hi; have HK := Aside0.mk hk; obtain ⟨ad, rfl, hx0_⟩ := Kd.at_int hf 0 (by omega) (by omega); have hx0 : w1.cell? ad = some (.int .u8 (rd o1 0)) := (by rw [show ad.add (Int.toNat 0) = ad from rfl] at hx0_; exact hx0_); clear hi hlc hf hk hx0_))
   go_ret
   exact ⟨by rw [hcv]; exact congrArg (fun x => Ending.returned (.int .i64 x)) hwr, HI1.out, HK.out⟩
  ·cases h
def spec_num : Nat → Int → List Int → Int
 | _, u, [] => u
 | j, u, c :: r => spec_num (j + 1) (IntKind.u64.wrap (u + IntKind.u64.wrap (IntKind.u64.wrap c * 2 ^ (8 * j)))) r
def spec_ReadSave.go (l : List Int) : Nat → Nat → Bool → List S49 → Option (Nat × Bool × List S49)
 | 0, p, s, d => some (p, s, d)
 | n + 1, p, s, d => if s = true then some (p, s, d) else (spec_byte.f l p s).bind fun a => (spec_byte.f l (spec_take.f l (spec_take.f l a.1 a.2.1 a.2.2).1 (spec_take.f l a.1 a.2.1 a.2.2).2.1 8).1 (spec_take.f l (spec_take.f l a.1 a.2.1 a.2.2).1 (spec_take.f l a.1 a.2.1 a.2.2).2.1 8).2.1).bind fun e => spec_ReadSave.go l n (spec_take.f l e.1 e.2.1 e.2.2).1 (spec_take.f l e.1 e.2.1 e.2.2).2.1 (d ++ [⟨strOfNums (spec_take.f l a.1 a.2.1 a.2.2).2.2, wrap64 (spec_num 0 0 (spec_take.f l (spec_take.f l a.1 a.2.1 a.2.2).1 (spec_take.f l a.1 a.2.1 a.2.2).2.1 8).2.2), strOfNums (spec_take.f l e.1 e.2.1 e.2.2).2.2⟩])
def spec_ReadSave.f (k : Nat) (l0 : List Int) : Option (Int × List S49 × Int) :=
 if 4000 < l0.length then some (0, [], 5) else if l0.length < 10 then some (0, [], 1) else
 if ¬ (rd l0 0 = 83 ∧ rd l0 1 = 65 ∧ rd l0 2 = 86 ∧ rd l0 3 = 69) then some (0, [], 2) else
 (spec_l21Digest.f k (l0.take (l0.length - 4))).bind fun dg =>
 if ∀ j : Nat, j < 4 → rd l0 (((l0.length - 4 : Nat) : Int) + (j : Int)) = dg / 2 ^ (24 - 8 * j) % 256 then
  (spec_byte.f (l0.take (l0.length - 4)) 4 false).bind fun v => (spec_byte.f (l0.take (l0.length - 4)) v.1 v.2.1).bind fun m => (spec_ReadSave.go (l0.take (l0.length - 4)) m.2.2 m.1 m.2.1 []).bind fun z => if z.2.1 = true then some (0, [], 1) else (spec_l1In.f ((v.2.2 : Nat) : Int) 1 250).bind fun b => if b = true then (if z.1 < l0.length - 4 then some (0, [], 5) else (spec_GoodValues.f k z.2.2).bind fun g => if g = true then some (((v.2.2 : Nat) : Int), z.2.2, 0) else some (0, [], 5)) else some (0, [], 5)
 else some (0, [], 3)
theorem spec_ReadSave.mono : ∀ a0 k, LeO (spec_ReadSave.f k a0) (spec_ReadSave.f (k + 1) a0) := by
 intro a0 k
 unfold spec_ReadSave.f
 exact LeO.ite (LeO.refl _) (LeO.ite (LeO.refl _) (LeO.ite (LeO.refl _) (LeO.bind (spec_l21Digest.mono _ _) (fun dg => LeO.ite (LeO.bind (LeO.refl _) (fun v => LeO.bind (LeO.refl _) (fun m => LeO.bind (LeO.refl _) (fun z => LeO.ite (LeO.refl _) (LeO.bind (LeO.refl _) (fun b => LeO.ite (LeO.ite (LeO.refl _) (LeO.bind (spec_GoodValues.mono _ _) (fun g => LeO.ite (LeO.refl _) (LeO.refl _)))) (LeO.refl _))))))) (LeO.refl _)))))
theorem spec_take.le (l : List Int) (p : Nat) (s : Bool) (n : Nat) (h : p ≤ l.length) : (spec_take.f l p s n).1 ≤ l.length := by
 unfold spec_take.f; split
 ·exact h
 ·rename_i h2
  exact Nat.le_of_not_lt fun h3 => h2 (.inr h3)
theorem spec_byte.le (l : List Int) (p p2 v : Nat) (s s2 : Bool) (h : p ≤ l.length) (hf : spec_byte.f l p s = some (p2, s2, v)) : p2 ≤ l.length ∧ v < 256 := by
 unfold spec_byte.f at hf
 have hl := spec_take.le l p s 1 h
 split at hf
 ·simp only [Option.some.injEq, Prod.mk.injEq] at hf
  obtain ⟨rfl, _, rfl⟩ := hf
  exact ⟨hl, by decide⟩
 ·split at hf
  ·rename_i hr
   simp only [Option.some.injEq, Prod.mk.injEq] at hf
   obtain ⟨rfl, _, rfl⟩ := hf
   exact ⟨hl, by omega⟩
  ·cases hf
set_option maxHeartbeats 16000000 in
set_option maxRecDepth 100000 in
theorem spec_ReadSave.calls (k : Nat) (A0 : Option Addr) (c0 : Nat) (l0 : List Int) (r1 : Int) (r2 : List S49) (r3 : Int) (w : World) (hr0 : Kd.C (Kd.int .u8) w A0 l0.length l0) (hc0 : l0.length ≤ c0) (h : spec_ReadSave.f k l0 = some (r1, r2, r3)) :
  Calls Try.prog 17 #[.slice A0 l0.length c0] w fun e w' => ∃ v1_ : Value, e = .returned (.tuple #[.int .i64 r1, v1_, .int .i64 r3]) ∧ Kd.R k49 49 w' w.heap.size (fun _ => True) v1_ r2 ∧ Below w.heap.size w w' := by
 have hu49 := Try.underlying49
 have HR0 := Aside0.mk hr0
 have HC0 := Aside0.mk hc0
 clear hr0 hc0
 unfold spec_ReadSave.f at h
 split at h
 ·rename_i hl
  obtain ⟨rfl, h2⟩ := Prod.mk.inj (Option.some.inj h)
  obtain ⟨rfl, rfl⟩ := Prod.mk.inj h2
  clear h h2
  have hgt : (l0.length : Int) > 4000 := by omega
  go_enter Try.func17, Try.ntmps17
  go_wp2
  go_ret3
  exact ⟨_, rfl, Kd.R_nil _ _ _ _ _, Below.refl _ _⟩
 rename_i hl
 have hgt : ¬ (l0.length : Int) > 4000 := by omega
 split at h
 ·rename_i hl2
  obtain ⟨rfl, h2⟩ := Prod.mk.inj (Option.some.inj h)
  obtain ⟨rfl, rfl⟩ := Prod.mk.inj h2
  clear h h2
  have hlt : (l0.length : Int) < 10 := by omega
  go_enter Try.func17, Try.ntmps17
  go_wp2
  go_ret3
  exact ⟨_, rfl, Kd.R_nil _ _ _ _ _, Below.refl _ _⟩
 rename_i hl2
 have hlt : ¬ (l0.length : Int) < 10 := by omega
 obtain ⟨a0, rfl, hx0⟩ := Kd.at_int HR0.out 0 (by omega) (by omega)
 obtain ⟨a1, ha1, hx1⟩ := Kd.at_int HR0.out 1 (by omega) (by omega)
 obtain rfl := Option.some.inj ha1
 obtain ⟨a1, ha1, hx2⟩ := Kd.at_int HR0.out 2 (by omega) (by omega)
 obtain rfl := Option.some.inj ha1
 obtain ⟨a1, ha1, hx3⟩ := Kd.at_int HR0.out 3 (by omega) (by omega)
 obtain rfl := Option.some.inj ha1
 replace hx0 : w.cell? a0 = some (.int .u8 (rd l0 0)) := hx0
 replace hx1 : w.cell? ⟨a0.block, a0.off + 1, none⟩ = some (.int .u8 (rd l0 1)) := hx1
 replace hx2 : w.cell? ⟨a0.block, a0.off + 2, none⟩ = some (.int .u8 (rd l0 2)) := hx2
 replace hx3 : w.cell? ⟨a0.block, a0.off + 3, none⟩ = some (.int .u8 (rd l0 3)) := hx3
 have hi0 : (0 : Int) < (l0.length : Int) := by omega
 have hi1 : (1 : Int) < (l0.length : Int) := by omega
 have hi2 : (2 : Int) < (l0.length : Int) := by omega
 have hi3 : (3 : Int) < (l0.length : Int) := by omega
 clear ha1
 split at h
 ·rename_i hm
  obtain ⟨rfl, h2⟩ := Prod.mk.inj (Option.some.inj h)
  obtain ⟨rfl, rfl⟩ := Prod.mk.inj h2
  clear h h2
  by_cases m0 : rd l0 0 = 83
  ·have q0 : (rd l0 0 != 83) = false := bne_eq_false_iff_eq.mpr m0
   by_cases m1 : rd l0 1 = 65
   ·have q1 : (rd l0 1 != 65) = false := bne_eq_false_iff_eq.mpr m1
    by_cases m2 : rd l0 2 = 86
    ·have q2 : (rd l0 2 != 86) = false := bne_eq_false_iff_eq.mpr m2
     have m3 : ¬ rd l0 3 = 69 := fun h => hm ⟨m0, m1, m2, h⟩
     have q3 : (rd l0 3 != 69) = true := bne_iff_ne.mpr m3
     clear hm m0 m1 m2
     go_enter Try.func17, Try.ntmps17
     go_wp2
     go_ret3
     exact ⟨_, rfl, Kd.R_nil _ _ _ _ _, Below.refl _ _⟩
    ·have q2 : (rd l0 2 != 86) = true := bne_iff_ne.mpr m2
     clear hm m0 m1
     go_enter Try.func17, Try.ntmps17
     go_wp2
     go_ret3
     exact ⟨_, rfl, Kd.R_nil _ _ _ _ _, Below.refl _ _⟩
   ·have q1 : (rd l0 1 != 65) = true := bne_iff_ne.mpr m1
    clear hm m0
    go_enter Try.func17, Try.ntmps17
    go_wp2
    go_ret3
    exact ⟨_, rfl, Kd.R_nil _ _ _ _ _, Below.refl _ _⟩
  ·have q0 : (rd l0 0 != 83) = true := bne_iff_ne.mpr m0
   clear hm
   go_enter Try.func17, Try.ntmps17
   go_wp2
   go_ret3
   exact ⟨_, rfl, Kd.R_nil _ _ _ _ _, Below.refl _ _⟩
 rename_i hm
 obtain ⟨m0, m1, m2, m3⟩ := Classical.not_not.mp hm
 have q0 : (rd l0 0 != 83) = false := bne_eq_false_iff_eq.mpr m0
 have q1 : (rd l0 1 != 65) = false := bne_eq_false_iff_eq.mpr m1
 have q2 : (rd l0 2 != 86) = false := bne_eq_false_iff_eq.mpr m2
 have q3 : (rd l0 3 != 69) = false := bne_eq_false_iff_eq.mpr m3
 clear hm m0 m1 m2 m3
 obtain ⟨dg, hdg, h⟩ := Option.bind_eq_some_iff.mp h
 have HDG := Aside0.mk hdg
 have H := Aside0.mk h
 clear hdg h
 obtain ⟨m, hm⟩ : ∃ m, m = l0.length - 4 := ⟨_, rfl⟩
 have hlm : l0.length = m + 4 := by omega
 obtain ⟨j0, hj0, _, hj1, _⟩ := info_parts info5
 have cutB := cut_to (P := Try.prog) 22 5 .i64 Try.underlying22 hj0 (some a0) l0.length c0 ((l0.length : Int) - 4) (by omega) (by omega) HC0.out
 rw [show ((l0.length : Int) - 4).toNat = m by omega] at cutB
 have HLB := Aside0.mk (show (l0.take m).length = m by rw [List.length_take]; omega)
 have HCB := Aside0.mk (show Kd.C (Kd.int .u8) w (some a0) m (l0.take m) by have h_ := Kd.C_take (m := m) HR0.out (by omega); rw [HLB.out] at h_; exact h_)
 have HCb := Aside0.mk (show m ≤ c0 by have := HC0.out; omega)
 rw [← hm] at HDG H
 have hdig : ∀ W, Below w.heap.size w W → Calls Try.prog 25 #[.slice (some a0) m c0] W (fun e w' => e = .returned (.int .u32 dg) ∧ Below W.heap.size W w') := fun W hW => by
  have h_ := spec_l21Digest.calls k (some a0) c0 (l0.take m) dg W (Kd.C_below (by rw [HLB.out]; exact HCB.out) hW) (by rw [HLB.out]; exact HCb.out) HDG.out
  rw [HLB.out] at h_
  exact h_.mono (fun e w' h2_ => ⟨h2_.1, h2_.2.below⟩)
 have HLM := Aside0.mk hlm
 clear hlm hm
 go_enter Try.func17, Try.ntmps17
 go_wp2_with (first
  | (go_at_call 25; refine (hdig _ (Below.refl _ _)).mono ?_; rintro e w1 ⟨rfl, hb⟩; have HB := Aside0.mk hb; clear hb))
 obtain ⟨w1', hw1'⟩ : ∃ x : World, x = w1 := ⟨_, rfl⟩
 clear hx0 hx1 hx2 hx3 q0 q1 q2 q3 hdig hi0 hi1 hi2 hi3
 go_loopg [7] 4 (fun gk v7 wx => ∃ (j : Nat), j + gk = 4 ∧ v7 = .int .i64 (j : Nat) ∧ Aside0 (∀ i : Nat, i < j → rd l0 ((m : Int) + (i : Int)) = dg / 2 ^ (24 - 8 * i) % 256) ∧ w1 = wx)
 case atStart => exact ⟨0, by omega, rfl, ⟨fun i hi => absurd hi (Nat.not_lt_zero i)⟩, rfl⟩
 case round =>
  obtain ⟨j, hjg, rfl, HJ, rfl⟩ := hrel
  cases gk with
  | zero =>
   obtain rfl : j = 4 := by omega
   have hH := H.out
   rw [if_pos HJ.out] at hH
   obtain ⟨⟨pv, sv, vv⟩, hv, hH⟩ := Option.bind_eq_some_iff.mp hH
   obtain ⟨⟨pn, sn, nn⟩, hn, hH⟩ := Option.bind_eq_some_iff.mp hH
   obtain ⟨⟨pz, sz, dz⟩, hz, hH⟩ := Option.bind_eq_some_iff.mp hH
   simp only at hn hz hH
   obtain ⟨body, hbody⟩ : ∃ b, b = l0.take m := ⟨_, rfl⟩
   rw [← hbody] at hv hn hz HCB HLB
   have HC0B := Aside0.mk (show ∀ W, Below w.heap.size w W → ∀ W' : World, (∀ k, k < W.heap.size → W'.heap[k]? = W.heap[k]?) → (Kd.int .u8).C W' (some a0) m body from fun W hW W' hk => (Kd.heap_int _).C (fun k hk2 => (hk k (Nat.lt_of_lt_of_le hk2 hW.size)).trans (hW.block k hk2)) HCB.out)
   have HPV := Aside0.mk (spec_byte.le body 4 pv vv false sv (by rw [HLB.out]; have := HLM.out; omega) hv)
   have HPN := Aside0.mk (spec_byte.le body pv pn nn sv sn HPV.out.1 hn)
   have HM := Aside0.mk (show m ≤ 4000 by have := HLM.out; omega)
   have HV := Aside0.mk hv
   have HN := Aside0.mk hn
   have HZ := Aside0.mk hz
   have HH := Aside0.mk hH
   have HX4 := Aside0.mk (show ∀ W, Below w.heap.size w W → Kd.C (Kd.int .u8) W (some a0) l0.length l0 from fun W hW => Kd.C_below HR0.out hW)
   clear hv hn hz hH H HJ hbody cutB
   go_wp2_with (first
    | ((with_reducible refine gate_dst (N := 72) rfl ?_); refine box_event rfl (N := 72) rfl (cs := #[.slice (some a0) m c0, .int .i64 4, .bool false]) (t := 57) sE ?_; intro gR hg w4 hbox hb; have HGR := Aside0.mk (show w.heap.size ≤ gR by rw [hg]; exact HB.out.size); have HI := Aside0.mk (show Sp.Is w4 gR body 4 false from ⟨some a0, c0, by rw [HLB.out]; exact hbox, by rw [HLB.out]; exact HCb.out, fun W' hW => by rw [HLB.out]; exact HC0B.out _ HB.out W' (fun k hk => (hW k (by omega)).trans (hb.block k hk))⟩); replace HB := Aside0.mk (below_step HB.out hb); clear hb hbox hg HCB HC0B)
    | (go_at_call 26; refine (spec_byte.calls gR 4 pv vv body false sv _ (by omega) HI.out HV.out).mono ?_; rintro e w5 ⟨rfl, hi, hk⟩; have HI1 := Aside0.mk hi; have HB1 := Aside0.mk (Kb.below HB.out hk HGR.out); clear hi hk HI HB HV)
    | (go_at_call 26; refine (spec_byte.calls gR pv pn nn body sv sn _ (by have := HPV.out.1; have := HLB.out; have := HM.out; omega) HI1.out HN.out).mono ?_; rintro e w6 ⟨rfl, hi, hk⟩; have HI2 := Aside0.mk hi; have HB2 := Aside0.mk (Kb.below HB1.out hk HGR.out); clear hi hk HI1 HB1 HN))
   go_loopg [10, 11] nn (fun gk v10 v11 wx => ∃ (p : Nat) (s : Bool) (d : List S49), v11 = .int .i64 (gk : Nat) ∧ p ≤ m ∧ Aside0 (d.length + gk ≤ 256) ∧ Aside0 (Sp.Is wx gR body p s) ∧ Aside0 (Kd.R k49 49 wx w.heap.size (fun k => gR < k) v10 d) ∧ Aside0 (Below w.heap.size w wx) ∧ Aside0 (spec_ReadSave.go body gk p s d = some (pz, sz, dz)))
   case atStart => exact ⟨pn, sn, [], rfl, by rw [← HLB.out]; exact HPN.out.1, ⟨by have := HPN.out.2; simp; omega⟩, HI2, ⟨Kd.R_nil _ _ _ _ _⟩, HB2, HZ⟩
   case round =>
    clear HI2 HB2 HZ
    obtain ⟨p, s, d, rfl, hpm, HDL, HI, HO, HB, HZ⟩ := hrel
    obtain ⟨Ad, cd, rfl⟩ := Kd.R_slice HO.out
    obtain ⟨wo, rfl⟩ : ∃ x, x = wr := ⟨_, rfl⟩
    obtain ⟨AL, cL, hbk, hlc, _⟩ := HI.out
    have hcz1 : wo.cell? ⟨gR, 1, none⟩ = some (.int .i64 (p : Nat)) := (blk_cell hbk 1).trans rfl
    have hcz2 : wo.cell? ⟨gR, 2, none⟩ = some (.bool s) := (blk_cell hbk 2).trans rfl
    have BK := Aside0.mk hbk
    clear hbk hlc
    cases gk with
    | zero =>
     have hZ : some (p, s, d) = some (pz, sz, dz) := HZ.out
     obtain ⟨rfl, h2⟩ := Prod.mk.inj (Option.some.inj hZ)
     obtain ⟨rfl, rfl⟩ := Prod.mk.inj h2
     have hH := HH.out
     clear hZ h2
     cases s with
     | true =>
      simp only [if_true] at hH
      obtain ⟨rfl, h2⟩ := Prod.mk.inj (Option.some.inj hH)
      obtain ⟨rfl, rfl⟩ := Prod.mk.inj h2
      clear hH h2 HH HZ
      go_wp2
      go_ret3
      exact ⟨_, rfl, Kd.R_nil _ _ _ _ _, HB.out⟩
     | false =>
      have hrr := Kd.R_reads' HO.out
      have HRR := Aside0.mk hrr
      clear hrr
      rw [if_neg (by decide)] at hH
      obtain ⟨b, hbb, hH⟩ := Option.bind_eq_some_iff.mp hH
      have HIN := Aside0.mk hbb
      clear hbb HZ
      cases b with
      | false =>
       rw [if_neg (by decide)] at hH
       obtain ⟨rfl, h2⟩ := Prod.mk.inj (Option.some.inj hH)
       obtain ⟨rfl, rfl⟩ := Prod.mk.inj h2
       clear hH h2 HH
       go_wp2_with (first
        | (go_at_call 28; refine (spec_l1In.calls ((vv : Nat) : Int) 1 250 false _ HIN.out).mono ?_; rintro e w6 ⟨rfl, hb⟩; replace HB := Aside0.mk (below_step HB.out hb.below); clear hb))
       go_ret3
       exact ⟨_, rfl, Kd.R_nil _ _ _ _ _, HB.out⟩
      | true =>
       rw [if_pos rfl] at hH
       split at hH
       ·rename_i hlp
        have hlp2 : (p : Int) < (m : Int) := by omega
        obtain ⟨rfl, h2⟩ := Prod.mk.inj (Option.some.inj hH)
        obtain ⟨rfl, rfl⟩ := Prod.mk.inj h2
        clear hH h2 HH
        go_wp2_with (first
         | (go_at_call 28; refine (spec_l1In.calls ((vv : Nat) : Int) 1 250 true _ HIN.out).mono ?_; rintro e w6 ⟨rfl, hb⟩; replace HB := Aside0.mk (below_step HB.out hb.below); replace hcz1 : w6.cell? ⟨gR, 1, none⟩ = some (.int .i64 (p : Nat)) := (blk_cell (blk_below BK.out hb.below) 1).trans rfl; clear hb))
        go_ret3
        exact ⟨_, rfl, Kd.R_nil _ _ _ _ _, HB.out⟩
       ·rename_i hlp
        have hlp2 : ¬ ((p : Int) < (m : Int)) := by omega
        obtain ⟨gg, hgg, hH⟩ := Option.bind_eq_some_iff.mp hH
        have HGG := Aside0.mk hgg
        clear hgg
        cases gg with
        | true =>
         rw [if_pos rfl] at hH
         obtain ⟨rfl, h2⟩ := Prod.mk.inj (Option.some.inj hH)
         obtain ⟨rfl, rfl⟩ := Prod.mk.inj h2
         clear hH h2 HH
         go_wp2_with (first
          | (go_at_call 28; refine (spec_l1In.calls ((vv : Nat) : Int) 1 250 true _ HIN.out).mono ?_; rintro e w6 ⟨rfl, hb⟩; replace HB := Aside0.mk (below_step HB.out hb.below); replace HO := Aside0.mk (Kd.R_below HO.out hb.below); replace HRR := Aside0.mk (Kd.R_reads' HO.out); replace hcz1 : w6.cell? ⟨gR, 1, none⟩ = some (.int .i64 (p : Nat)) := (blk_cell (blk_below BK.out hb.below) 1).trans rfl; clear hb)
          | (go_at_call 29; refine (spec_GoodValues.calls k Ad cd d true _ HRR.out.2.2 HRR.out.2.1 HGG.out).mono ?_; rintro e w7 ⟨rfl, hb⟩; replace HB := Aside0.mk (below_step HB.out hb); replace HO := Aside0.mk (Kd.R_below HO.out hb); clear hb))
         go_ret3
         exact ⟨_, rfl, Kd.R_mono HO.out (fun _ _ => trivial), HB.out⟩
        | false =>
         rw [if_neg (by decide)] at hH
         obtain ⟨rfl, h2⟩ := Prod.mk.inj (Option.some.inj hH)
         obtain ⟨rfl, rfl⟩ := Prod.mk.inj h2
         clear hH h2 HH
         go_wp2_with (first
          | (go_at_call 28; refine (spec_l1In.calls ((vv : Nat) : Int) 1 250 true _ HIN.out).mono ?_; rintro e w6 ⟨rfl, hb⟩; replace HB := Aside0.mk (below_step HB.out hb.below); replace HO := Aside0.mk (Kd.R_below HO.out hb.below); replace HRR := Aside0.mk (Kd.R_reads' HO.out); replace hcz1 : w6.cell? ⟨gR, 1, none⟩ = some (.int .i64 (p : Nat)) := (blk_cell (blk_below BK.out hb.below) 1).trans rfl; clear hb)
          | (go_at_call 29; refine (spec_GoodValues.calls k Ad cd d false _ HRR.out.2.2 HRR.out.2.1 HGG.out).mono ?_; rintro e w7 ⟨rfl, hb⟩; replace HB := Aside0.mk (below_step HB.out hb); clear hb))
         go_ret3
         exact ⟨_, rfl, Kd.R_nil _ _ _ _ _, HB.out⟩
    | succ go =>
     have hgo : (0 : Int) < ((go : Nat) : Int) + 1 := by omega
     have hgo2 : go < 256 := by have := HDL.out; omega
     cases s with
     | true =>
      have hZ : some (p, true, d) = some (pz, sz, dz) := HZ.out
      obtain ⟨rfl, h2⟩ := Prod.mk.inj (Option.some.inj hZ)
      obtain ⟨rfl, rfl⟩ := Prod.mk.inj h2
      have hH := HH.out
      clear hZ h2
      simp only [if_true] at hH
      obtain ⟨rfl, h2⟩ := Prod.mk.inj (Option.some.inj hH)
      obtain ⟨rfl, rfl⟩ := Prod.mk.inj h2
      clear hH h2 HH HZ
      go_wp2
      go_ret3
      exact ⟨_, rfl, Kd.R_nil _ _ _ _ _, HB.out⟩
     | false =>
      have hZ : ((spec_byte.f body p false).bind fun a => (spec_byte.f body (spec_take.f body (spec_take.f body a.1 a.2.1 a.2.2).1 (spec_take.f body a.1 a.2.1 a.2.2).2.1 8).1 (spec_take.f body (spec_take.f body a.1 a.2.1 a.2.2).1 (spec_take.f body a.1 a.2.1 a.2.2).2.1 8).2.1).bind fun e => spec_ReadSave.go body go (spec_take.f body e.1 e.2.1 e.2.2).1 (spec_take.f body e.1 e.2.1 e.2.2).2.1 (d ++ [⟨strOfNums (spec_take.f body a.1 a.2.1 a.2.2).2.2, wrap64 (spec_num 0 0 (spec_take.f body (spec_take.f body a.1 a.2.1 a.2.2).1 (spec_take.f body a.1 a.2.1 a.2.2).2.1 8).2.2), strOfNums (spec_take.f body e.1 e.2.1 e.2.2).2.2⟩])) = some (pz, sz, dz) := HZ.out
      obtain ⟨⟨p1, s1, v1⟩, hx1, hZ⟩ := Option.bind_eq_some_iff.mp hZ
      simp only at hZ
      obtain ⟨⟨p2, s2, o2⟩, h2⟩ : ∃ x, x = spec_take.f body p1 s1 v1 := ⟨_, rfl⟩
      rw [← h2] at hZ
      obtain ⟨⟨p3, s3, o3⟩, h3⟩ : ∃ x, x = spec_take.f body p2 s2 8 := ⟨_, rfl⟩
      simp only at hZ
      rw [← h3] at hZ
      obtain ⟨⟨p4, s4, v4⟩, hx4, hZ⟩ := Option.bind_eq_some_iff.mp hZ
      simp only at hZ hx4
      obtain ⟨⟨p5, s5, o5⟩, h5⟩ : ∃ x, x = spec_take.f body p4 s4 v4 := ⟨_, rfl⟩
      rw [← h5] at hZ
      have HLB' := HLB.out
      have e1 := spec_byte.le body p p1 v1 false s1 (by omega) hx1
      have e2 := spec_take.le body p1 s1 v1 e1.1
      rw [← h2] at e2
      have e3 := spec_take.le body p2 s2 8 e2
      rw [← h3] at e3
      have e4 := spec_byte.le body p3 p4 v4 s3 s4 e3 hx4
      have e5 := spec_take.le body p4 s4 v4 e4.1
      rw [← h5] at e5
      have hl3 := spec_take.length body p2 s2 8
      rw [← h3] at hl3
      simp only at e2 e3 e5 hl3
      rw [HLB'] at e1 e2 e3 e4 e5
      have HE := Aside0.mk (show p ≤ 4000 ∧ p1 ≤ 4000 ∧ v1 ≤ 1000 ∧ p2 ≤ 4000 ∧ p3 ≤ 4000 ∧ p4 ≤ 4000 ∧ v4 ≤ 1000 by have := HM.out; omega)
      have HE5 := Aside0.mk e5
      have HL3 := Aside0.mk hl3
      have HX1 := Aside0.mk hx1
      have HT2 := Aside0.mk h2.symm
      have HT3 := Aside0.mk h3.symm
      have HX4' := Aside0.mk hx4
      have HT5 := Aside0.mk h5.symm
      have HZ2 := Aside0.mk hZ
      clear hx1 h2 h3 hx4 h5 hZ e1 e2 e3 e4 e5 hl3 HLB' HZ BK
      go_wp2_with (first
       | (go_at_call 26; refine (spec_byte.calls gR p p1 v1 body false s1 _ (by have := HE.out; omega) HI.out HX1.out).mono ?_; rintro e w6 ⟨rfl, hi, hk⟩; have HI1 := Aside0.mk hi; have HO1 := Aside0.mk (Kd.R_keep HO.out hk.1 (fun _ h => Nat.ne_of_gt h)); have HB1 := Aside0.mk (Kb.below HB.out hk HGR.out); clear hi hk HI HO HB HX1)
       | (go_at_call 27; refine (spec_take.calls gR v1 p1 p2 body o2 s1 s2 _ (by have := HE.out; omega) (by have := HE.out; omega) HI1.out HT2.out).mono ?_; rintro e w7 ⟨A2, c2, rfl, hi, hlc, hf, hk⟩; have HI2 := Aside0.mk hi; have HO2 := Aside0.mk (Kd.R_keep HO1.out hk.1 (fun _ h => Nat.ne_of_gt h)); have HB2 := Aside0.mk (Kb.below HB1.out hk HGR.out); have hst := Kd.C_string (P := Try.prog) (c := c2) Try.underlying22 Try.underlying5 Try.underlying9 hf; clear hi hlc hf hk HI1 HO1 HB1 HT2)
       | ((with_reducible refine gate_dst (N := 12) rfl ?_); refine box_event rfl (N := 12) rfl (cs := #[.string ⟨#[]⟩, .int .i64 0, .string ⟨#[]⟩]) (t := 49) sE ?_; intro gV hg w8 hbox hb; have hgl_ := HI2.out.lt; have HRV := Aside0.mk (show gR < gV by omega); have HGV := Aside0.mk (show w.heap.size ≤ gV by rw [hg]; exact HB2.out.size); have HO3 := Aside0.mk (show Kd.R k49 49 w8 w.heap.size (fun k => gR < k ∧ k ≠ gV) (.slice Ad d.length cd) d from Kd.R_below (Kd.R_elderB HO2.out gV (by omega)) hb); have HI3 := Aside0.mk (HI2.out.keep hb); have HB3 := Aside0.mk (below_step HB2.out hb); have BK := Aside0.mk hbox; have hcz0 : w8.cell? ⟨gV, 0, none⟩ = some (.string ⟨#[]⟩) := (blk_cell hbox 0).trans rfl; have hcz1 : w8.cell? ⟨gV, 1, none⟩ = some (.int .i64 0) := (blk_cell hbox 1).trans rfl; have hcz2 : w8.cell? ⟨gV, 2, none⟩ = some (.string ⟨#[]⟩) := (blk_cell hbox 2).trans rfl; have hfz0 := blk_frozen hbox 0; have hfz1 := blk_frozen hbox 1; have hfz2 := blk_frozen hbox 2; clear hbox hb hg hgl_ HI2 HO2 HB2 hst)
       | ((with_reducible refine gate_store (t := 49) (p := 12) rfl ?_); refine store_event (t := 49) (p := 12) (v := ?vo) (w1 := (((w8.setCell ⟨gV, 0, none⟩ (.string (strOfNums o2))).setCell ⟨gV, 1, none⟩ (.int .i64 0)).setCell ⟨gV, 2, none⟩ (.string ⟨#[]⟩))) ?hg ?ho ?hn ?hr ?_; (case ho => rfl); (case hg => rfl); (case hn => rfl); (case hr => exact sE); intro w9 hw; have HI4 := Aside0.mk (show Sp.Is w9 gR body p2 s2 by rw [hw]; exact ((HI3.out.far HRV.out).far HRV.out).far HRV.out); have HO4 := Aside0.mk (show Kd.R k49 49 w9 w.heap.size (fun k => gR < k ∧ k ≠ gV) (.slice Ad d.length cd) d by rw [hw]; exact Kd.R_far (Kd.R_far (Kd.R_far HO3.out (fun k hk => hk.2) _) (fun k hk => hk.2) _) (fun k hk => hk.2) _); have HB4 := Aside0.mk (show Below w.heap.size w w9 by rw [hw]; exact below_set (below_set (below_set HB3.out HGV.out) HGV.out) HGV.out); have BK4 := Aside0.mk (show w9.heap[gV]? = some (.cells #[.string (strOfNums o2), .int .i64 0, .string ⟨#[]⟩] 49 (0, 0)) by rw [hw]; exact blk_put (cs := #[.string (strOfNums o2), .int .i64 0, .string ⟨#[]⟩]) (blk_put (cs := #[.string (strOfNums o2), .int .i64 0, .string ⟨#[]⟩]) (blk_put (cs := #[.string ⟨#[]⟩, .int .i64 0, .string ⟨#[]⟩]) BK.out 0 _ rfl) 1 _ rfl) 2 _ rfl); clear hw HI3 HO3 HB3 BK hcz0 hcz1 hcz2 hfz0 hfz1 hfz2)
       | (go_at_call 27; refine (spec_take.calls gR 8 p2 p3 body o3 s2 s3 _ (by omega) (by have := HE.out; omega) HI4.out HT3.out).mono ?_; rintro e w10 ⟨A3, c3, rfl, hi, hlc, hf, hk⟩; have HI5 := Aside0.mk hi; have HO5 := Aside0.mk (Kd.R_keep HO4.out hk.1 (fun _ h => Nat.ne_of_gt h.1)); have HB5 := Aside0.mk (Kb.below HB4.out hk HGR.out); have BK5 := Aside0.mk (hk.blk BK4.out (by have := HRV.out; omega)); have HF := Aside0.mk hf; clear hi hlc hf hk HI4 HO4 HB4 BK4))
      go_loopg [13, 97] o3.length (fun gk v13 v97 wx => ∃ (j : Nat) (u : Int), j + gk = o3.length ∧ v97 = .int .i64 (j : Nat) ∧ v13 = .int .u64 u ∧ Aside0 (spec_num j u (o3.drop j) = spec_num 0 0 o3) ∧ w10 = wx)
      case atStart => exact ⟨0, 0, by omega, rfl, rfl, ⟨rfl⟩, rfl⟩
      case round =>
       obtain ⟨j, u, hjg, rfl, rfl, HN, rfl⟩ := hrel
       cases gk with
       | zero =>
        have hju : j = o3.length := by omega
        have hn8 : ¬ ((j : Int) < (o3.length : Int)) := by omega
        have hu : u = spec_num 0 0 o3 := by
         have h_ := HN.out
         rw [List.drop_eq_nil_of_le (by omega)] at h_
         exact h_
        rw [← hu] at HZ2
        clear hu HN hju hjg
        have hbV := BK5.out
        have hcz1 : w10.cell? ⟨gV, 1, none⟩ = some (.int .i64 0) := (blk_cell hbV 1).trans rfl
        have hfz1 := blk_frozen hbV 1
        have BK6 := Aside0.mk (show (w10.setCell ⟨gV, 1, none⟩ (.int .i64 (wrap64 u))).heap[gV]? = some (.cells #[.string (strOfNums o2), .int .i64 (wrap64 u), .string ⟨#[]⟩] 49 (0, 0)) from blk_put hbV 1 (.int .i64 (wrap64 u)) rfl)
        have HI6 := Aside0.mk (show Sp.Is (w10.setCell ⟨gV, 1, none⟩ (.int .i64 (wrap64 u))) gR body p3 s3 from HI5.out.far HRV.out)
        have HO6 := Aside0.mk (show Kd.R k49 49 (w10.setCell ⟨gV, 1, none⟩ (.int .i64 (wrap64 u))) w.heap.size (fun k => gR < k ∧ k ≠ gV) (.slice Ad d.length cd) d from Kd.R_far HO5.out (fun k hk => hk.2) _)
        have HB6 := Aside0.mk (show Below w.heap.size w (w10.setCell ⟨gV, 1, none⟩ (.int .i64 (wrap64 u))) from below_set HB5.out HGV.out)
        clear HI5 HO5 HB5 BK5 hbV
        go_wp2_with (first
         | (go_at_call 26; refine (spec_byte.calls gR p3 p4 v4 body s3 s4 _ (by have := HE.out; omega) HI6.out HX4'.out).mono ?_; rintro e w11 ⟨rfl, hi, hk⟩; have HI7 := Aside0.mk hi; have HO7 := Aside0.mk (Kd.R_keep HO6.out hk.1 (fun _ h => Nat.ne_of_gt h.1)); have HB7 := Aside0.mk (Kb.below HB6.out hk HGR.out); have BK7 := Aside0.mk (hk.blk BK6.out (by have := HRV.out; omega)); clear hi hk HI6 HO6 HB6 BK6 HX4')
         | (go_at_call 27; refine (spec_take.calls gR v4 p4 p5 body o5 s4 s5 _ (by have := HE.out; omega) (by have := HE.out; omega) HI7.out HT5.out).mono ?_; rintro e w12 ⟨A5, c5, rfl, hi, hlc, hf, hk⟩; have HO8 := Aside0.mk (Kd.R_keep HO7.out hk.1 (fun _ h => Nat.ne_of_gt h.1)); have HB8 := Aside0.mk (Kb.below HB7.out hk HGR.out); have hb_ := hk.blk BK7.out (by have := HRV.out; omega); have hst := Kd.C_string (P := Try.prog) (c := c5) Try.underlying22 Try.underlying5 Try.underlying9 hf; have hcz2 : w12.cell? ⟨gV, 2, none⟩ = some (.string ⟨#[]⟩) := (blk_cell hb_ 2).trans rfl; have hfz2 := blk_frozen hb_ 2; have hb2_ := blk_put (cs' := #[.string (strOfNums o2), .int .i64 (wrap64 u), .string (strOfNums o5)]) hb_ 2 (.string (strOfNums o5)) rfl; have hcv0 : (w12.setCell ⟨gV, 2, none⟩ (.string (strOfNums o5))).cell? ⟨gV, 0, none⟩ = some (.string (strOfNums o2)) := (blk_cell hb2_ 0).trans rfl; have hcv1 : (w12.setCell ⟨gV, 2, none⟩ (.string (strOfNums o5))).cell? ⟨gV, 1, none⟩ = some (.int .i64 (wrap64 u)) := (blk_cell hb2_ 1).trans rfl; have hcv2 : (w12.setCell ⟨gV, 2, none⟩ (.string (strOfNums o5))).cell? ⟨gV, 2, none⟩ = some (.string (strOfNums o5)) := (blk_cell hb2_ 2).trans rfl; have HI9 := Aside0.mk (show Sp.Is (w12.setCell ⟨gV, 2, none⟩ (.string (strOfNums o5))) gR body p5 s5 from hi.far HRV.out); have HO9 := Aside0.mk (show Kd.R k49 49 (w12.setCell ⟨gV, 2, none⟩ (.string (strOfNums o5))) w.heap.size (fun k => gR < k ∧ k ≠ gV) (.slice Ad d.length cd) d from Kd.R_far HO8.out (fun k hk => hk.2) _); have HB9 := Aside0.mk (show Below w.heap.size w (w12.setCell ⟨gV, 2, none⟩ (.string (strOfNums o5))) from below_set HB8.out HGV.out); clear hi hlc hf hk hb_ hb2_ HI7 HO7 HO8 HB7 HB8 BK7 HT5)
         | ((with_reducible refine gate_builtin (b := .append) (xs := #[.tmp 120, .tmp 122]) rfl ?_); at_builtin; have hgl_ := HI9.out.lt; refine Kd.R_append k49 (w0 := w) w.heap.size rfl (.tmp 120) (.tmp 122) 25 49 (.agg #[.string ⟨#[]⟩, .int .i64 0, .string ⟨#[]⟩]) 40 rfl Try.underlying25 info49 rfl (by decide) (by omega) (.slice Ad d.length cd) d (⟨strOfNums o2, wrap64 u, strOfNums o5⟩ : S49) [.string (strOfNums o2), .int .i64 (wrap64 u), .string (strOfNums o5)] (fun k => gR < k) (fun _ => False) rfl ?aX ?aP (fun _ hk => hk.elim) ?aF ?aO ?aB ?aS ?aL ?_; (case aX => first | rfl | (go_simp; done) | (go_simp; rfl)); (case aP => exact k49_mkM _ _ _ (⟨strOfNums o2, wrap64 u, strOfNums o5⟩ : S49)); (case aB => exact HB9.out); (case aF => intro k_ hk_; omega); (case aO => exact Kd.R_mono HO9.out (fun _ h => h.1)); (case aS => exact below_size HB9.out); (case aL => have := HDL.out; omega); intro v1 w13 ho hb hg hat; have HO10 := Aside0.mk ho; have HB10 := Aside0.mk hb; have HI10 := Aside0.mk (HI9.out.step (fun k_ hk_ => hg.block k_ (by omega) (fun e_ => by have ho_ := (HO9.out.1 k_ e_.symm).1; omega))); clear ho hb hg hat hgl_))
        go_roundg go
        case measure => omega
        case rel => exact ⟨p5, s5, _, by go_num, HE5.out, ⟨by rw [List.length_append]; have := HDL.out; simp; omega⟩, HI10, HO10, HB10, HZ2⟩
       | succ gj2 =>
        have hj8 : (j : Int) < (o3.length : Int) := by omega
        have hj0' : (0 : Int) ≤ (j : Int) := by omega
        have hjb : j < 8 := by
         rcases HL3.out with h_ | h_
         ·rw [h_] at hjg; simp at hjg
         ·omega
        obtain ⟨a2, rfl, hxj⟩ := Kd.at_int HF.out (j : Int) hj0' hj8
        rw [Int.toNat_natCast] at hxj
        have h8j : wrap64 (8 * (j : Int)) = 8 * (j : Int) := by unfold wrap64; omega
        have h8n : ¬ (8 * (j : Int) < 0) := by omega
        go_wp2
        go_roundg gj2
        case measure => omega
        case rel =>
         refine ⟨j + 1, _, by omega, by go_num, rfl, ⟨?_⟩, rfl⟩
         have h_ := HN.out
         have hjl : j < o3.length := by omega
         rw [List.drop_eq_getElem_cons hjl] at h_
         rw [← h_]
         have hrd : rd o3 (j : Int) = o3[j] := by simp [rd, List.getD_eq_getElem?_getD, hjl]
         rw [hrd]
         rfl
  | succ gj =>
   have hj4 : (j : Int) < 4 := by omega
   obtain ⟨a1, ha1, hxj⟩ := Kd.at_int HR0.out ((m + j : Nat) : Int) (by omega) (by have := HLM.out; omega)
   obtain rfl := Option.some.inj ha1
   have hbd : (m : Int) + (j : Int) < (l0.length : Int) := by have := HLM.out; omega
   have hbw : wrap64 ((m : Int) + (j : Int)) = (m : Int) + (j : Int) := by have := HLM.out; unfold wrap64; omega
   have hb0 : (0 : Int) ≤ (m : Int) + (j : Int) := by omega
   have h8j : wrap64 (8 * (j : Int)) = 8 * (j : Int) := by unfold wrap64; omega
   have h24 : wrap64 (24 - 8 * (j : Int)) = 24 - 8 * (j : Int) := by unfold wrap64; omega
   replace hxj := (HB.out.cell (World.block_lt_of_cell? _ _ hxj)).trans hxj
   rw [Int.toNat_natCast, Int.natCast_add] at hxj
   by_cases cj : rd l0 ((m : Int) + (j : Int)) = dg / 2 ^ (24 - 8 * j) % 256
   ·have hcj : (rd l0 ((m : Int) + (j : Int)) != dg / 2 ^ (24 - 8 * j) % 256) = false := bne_eq_false_iff_eq.mpr cj
    have HCJ := Aside0.mk cj
    clear cj
    go_wp2
    go_roundg gj
    case measure => omega
    case rel =>
     refine ⟨j + 1, by omega, by go_num, ⟨fun i hi => ?_⟩, rfl⟩
     by_cases e : i = j
     ·rw [e]; exact HCJ.out
     ·exact HJ.out i (by omega)
   ·have hcj : (rd l0 ((m : Int) + (j : Int)) != dg / 2 ^ (24 - 8 * j) % 256) = true := bne_iff_ne.mpr cj
    have hH := H.out
    rw [if_neg (fun h_ => cj (h_ j (by omega)))] at hH
    obtain ⟨rfl, h2⟩ := Prod.mk.inj (Option.some.inj hH)
    obtain ⟨rfl, rfl⟩ := Prod.mk.inj h2
    clear hH h2 cj H
    go_wp2
    go_ret3
    exact ⟨_, rfl, Kd.R_nil _ _ _ _ _, HB.out⟩
end Go.Proofs.Ytjjbkebodkjnkaa.PFnExactLoadSave
namespace Go.Proofs.YtjjbkebodkjnkaaW.PrintWords
open Go.RowKit
theorem hT {w w1 : World} {a : Addr} {v : Value} (hb : Below w.heap.size w w1) (h : w.cell? a = some v) : w1.cell? a = some v := (hb.cell (World.block_lt_of_cell? _ _ h)).trans h
end Go.Proofs.YtjjbkebodkjnkaaW.PrintWords
namespace Go.Proofs.Ytjjbkebodkjnkaa.PFnExactLoadSave
open Go.RowKit Go.Proofs.YtjjbkebodkjnkaaW.PrintWords Go.Proofs.YtjjbkebodkjnkaaW.PrintLast Go.Proofs.YtjjbkebodkjnkaaW.PrintMore
attribute [local go_sem] max2_int min2_int max_two min_two max_three min_three max_four min_four
set_option linter.unusedVariables false
set_option linter.unusedSimpArgs false
mutual
def spec_GoodChanges.l0 : Nat → List (S45) → List (S45) → Int → Int → Option (Bool)
 | 0, _, _, _, _ => none
 | k + 1, x0, x8, x9, x10 => if x10 < x9 then (if 0 ≤ x10 then (if x10 < (x8.length : Int) then ((spec_l1In.f ((rd_T45 x8 x10).f0) 1 2).bind fun t114 => (if t114 = true then (if x10 > 0 then (if 0 ≤ (wrap64 (x10 - 1)) then (if (wrap64 (x10 - 1)) < (x0.length : Int) then (if ((rd_T45 x0 (wrap64 (x10 - 1))).f0) > ((rd_T45 x8 x10).f0) then (spec_GoodChanges.j1 k x0 x8 x9 x10 true ((rd_T45 x8 x10).f0) ((rd_T45 x8 x10).f1) ((rd_T45 x8 x10).f2) ((rd_T45 x8 x10).f3) ((rd_T45 x8 x10).f4)) else ((spec_l1In.f ((rd_T45 x8 x10).f1) 1 5).bind fun t116 => (if t116 = true then ((spec_GoodName.f k ((rd_T45 x8 x10).f2)).bind fun t117 => (if t117 = true then ((spec_l1In.f ((rd_T45 x8 x10).f4) (-1000000) 1000000).bind fun t118 => (spec_GoodChanges.j1 k x0 x8 x9 x10 (!t118) ((rd_T45 x8 x10).f0) ((rd_T45 x8 x10).f1) ((rd_T45 x8 x10).f2) ((rd_T45 x8 x10).f3) ((rd_T45 x8 x10).f4))) else (spec_GoodChanges.j1 k x0 x8 x9 x10 true ((rd_T45 x8 x10).f0) ((rd_T45 x8 x10).f1) ((rd_T45 x8 x10).f2) ((rd_T45 x8 x10).f3) ((rd_T45 x8 x10).f4)))) else (spec_GoodChanges.j1 k x0 x8 x9 x10 true ((rd_T45 x8 x10).f0) ((rd_T45 x8 x10).f1) ((rd_T45 x8 x10).f2) ((rd_T45 x8 x10).f3) ((rd_T45 x8 x10).f4))))) else (none)) else (none)) else ((spec_l1In.f ((rd_T45 x8 x10).f1) 1 5).bind fun t119 => (if t119 = true then ((spec_GoodName.f k ((rd_T45 x8 x10).f2)).bind fun t120 => (if t120 = true then ((spec_l1In.f ((rd_T45 x8 x10).f4) (-1000000) 1000000).bind fun t121 => (spec_GoodChanges.j1 k x0 x8 x9 x10 (!t121) ((rd_T45 x8 x10).f0) ((rd_T45 x8 x10).f1) ((rd_T45 x8 x10).f2) ((rd_T45 x8 x10).f3) ((rd_T45 x8 x10).f4))) else (spec_GoodChanges.j1 k x0 x8 x9 x10 true ((rd_T45 x8 x10).f0) ((rd_T45 x8 x10).f1) ((rd_T45 x8 x10).f2) ((rd_T45 x8 x10).f3) ((rd_T45 x8 x10).f4)))) else (spec_GoodChanges.j1 k x0 x8 x9 x10 true ((rd_T45 x8 x10).f0) ((rd_T45 x8 x10).f1) ((rd_T45 x8 x10).f2) ((rd_T45 x8 x10).f3) ((rd_T45 x8 x10).f4))))) else (spec_GoodChanges.j1 k x0 x8 x9 x10 true ((rd_T45 x8 x10).f0) ((rd_T45 x8 x10).f1) ((rd_T45 x8 x10).f2) ((rd_T45 x8 x10).f3) ((rd_T45 x8 x10).f4)))) else (none)) else (none)) else (some true)
def spec_GoodChanges.j1 : Nat → List (S45) → List (S45) → Int → Int → Bool → Int → Int → ByteArray → ByteArray → Int → Option (Bool)
 | 0, _, _, _, _, _, _, _, _, _, _ => none
 | k + 1, x0, x8, x9, x10, x51, x114000, x114001, x114002, x114003, x114004 => if x51 = true then (some false) else (if x114001 = 1 then ((spec_GoodName.f k x114003).bind fun t122 => (if t122 = true then (spec_GoodChanges.j2 k x0 x8 x9 x10 false x114000 x114001 x114002 x114003 x114004) else (spec_GoodChanges.j2 k x0 x8 x9 x10 true x114000 x114001 x114002 x114003 x114004))) else (spec_GoodChanges.j2 k x0 x8 x9 x10 (x114003.toList != ([] : List UInt8)) x114000 x114001 x114002 x114003 x114004))
def spec_GoodChanges.j2 : Nat → List (S45) → List (S45) → Int → Int → Bool → Int → Int → ByteArray → ByteArray → Int → Option (Bool)
 | 0, _, _, _, _, _, _, _, _, _, _ => none
 | k + 1, x0, x8, x9, x10, x70, x114000, x114001, x114002, x114003, x114004 => if x70 = true then (some false) else (if x114001 = 1 then (if x114004 = 0 then (spec_GoodChanges.l0 k x0 x8 x9 (wrap64 (x10 + 1))) else (some false)) else (if x114001 = 4 then (if x114004 = 0 then (spec_GoodChanges.l0 k x0 x8 x9 (wrap64 (x10 + 1))) else (some false)) else (spec_GoodChanges.l0 k x0 x8 x9 (wrap64 (x10 + 1)))))
end
def spec_GoodChanges.f (k : Nat) (l0 : List (S45)) : Option (Bool) := if (l0.length : Int) > 30 then (some false) else (spec_GoodChanges.l0 k l0 l0 (l0.length : Int) 0)
theorem spec_GoodChanges.mono_l : ∀ k, (∀ y0 y1 y2 y3, LeO (spec_GoodChanges.l0 k y0 y1 y2 y3) (spec_GoodChanges.l0 (k + 1) y0 y1 y2 y3)) ∧ (∀ y0 y1 y2 y3 y4 y5 y6 y7 y8 y9, LeO (spec_GoodChanges.j1 k y0 y1 y2 y3 y4 y5 y6 y7 y8 y9) (spec_GoodChanges.j1 (k + 1) y0 y1 y2 y3 y4 y5 y6 y7 y8 y9)) ∧ (∀ y0 y1 y2 y3 y4 y5 y6 y7 y8 y9, LeO (spec_GoodChanges.j2 k y0 y1 y2 y3 y4 y5 y6 y7 y8 y9) (spec_GoodChanges.j2 (k + 1) y0 y1 y2 y3 y4 y5 y6 y7 y8 y9))
 | 0 => ⟨fun _ _ _ _ r h => by simp [spec_GoodChanges.l0] at h, fun _ _ _ _ _ _ _ _ _ _ r h => by simp [spec_GoodChanges.j1] at h, fun _ _ _ _ _ _ _ _ _ _ r h => by simp [spec_GoodChanges.j2] at h⟩
 | k + 1 => by
  obtain ⟨ih0, ih1, ih2⟩ := spec_GoodChanges.mono_l k
  refine ⟨?_, ?_, ?_⟩
  ·intro y0 y1 y2 y3
   unfold spec_GoodChanges.l0
   repeat' first
   | (with_reducible exact ih0 _ _ _ _)
   | (with_reducible exact ih1 _ _ _ _ _ _ _ _ _ _)
   | (with_reducible exact ih2 _ _ _ _ _ _ _ _ _ _)
   | (with_reducible exact spec_GoodName.mono _ _)
   | (with_reducible first | exact LeO.refl _ | exact LeO.none _ | refine LeO.ite ?_ ?_ | refine LeO.bind ?_ (fun _ => ?_))
   | exact ih0 _ _ _ _
   | exact ih1 _ _ _ _ _ _ _ _ _ _
   | exact ih2 _ _ _ _ _ _ _ _ _ _
   | exact spec_GoodName.mono _ _ | exact LeO.none _ | refine LeO.ite ?_ ?_ | refine LeO.bind ?_ (fun _ => ?_)
  ·intro y0 y1 y2 y3 y4 y5 y6 y7 y8 y9
   unfold spec_GoodChanges.j1
   repeat' first
   | (with_reducible exact ih0 _ _ _ _)
   | (with_reducible exact ih1 _ _ _ _ _ _ _ _ _ _)
   | (with_reducible exact ih2 _ _ _ _ _ _ _ _ _ _)
   | (with_reducible exact spec_GoodName.mono _ _)
   | (with_reducible first | exact LeO.refl _ | exact LeO.none _ | refine LeO.ite ?_ ?_ | refine LeO.bind ?_ (fun _ => ?_))
   | exact ih0 _ _ _ _
   | exact ih1 _ _ _ _ _ _ _ _ _ _
   | exact ih2 _ _ _ _ _ _ _ _ _ _
   | exact spec_GoodName.mono _ _ | exact LeO.none _ | refine LeO.ite ?_ ?_ | refine LeO.bind ?_ (fun _ => ?_)
  ·intro y0 y1 y2 y3 y4 y5 y6 y7 y8 y9
   unfold spec_GoodChanges.j2
   repeat' first
   | (with_reducible exact ih0 _ _ _ _)
   | (with_reducible exact ih1 _ _ _ _ _ _ _ _ _ _)
   | (with_reducible exact ih2 _ _ _ _ _ _ _ _ _ _)
   | (with_reducible exact spec_GoodName.mono _ _)
   | (with_reducible first | exact LeO.refl _ | exact LeO.none _ | refine LeO.ite ?_ ?_ | refine LeO.bind ?_ (fun _ => ?_))
   | exact ih0 _ _ _ _
   | exact ih1 _ _ _ _ _ _ _ _ _ _
   | exact ih2 _ _ _ _ _ _ _ _ _ _
   | exact spec_GoodName.mono _ _ | exact LeO.none _ | refine LeO.ite ?_ ?_ | refine LeO.bind ?_ (fun _ => ?_)
theorem spec_GoodChanges.mono : ∀ a0 k, LeO (spec_GoodChanges.f k a0) (spec_GoodChanges.f (k + 1) a0) := by
 intro a0 k
 obtain ⟨ih0, ih1, ih2⟩ := spec_GoodChanges.mono_l k
 unfold spec_GoodChanges.f
 repeat' first
   | (with_reducible exact ih0 _ _ _ _)
   | (with_reducible exact ih1 _ _ _ _ _ _ _ _ _ _)
   | (with_reducible exact ih2 _ _ _ _ _ _ _ _ _ _)
   | (with_reducible exact spec_GoodName.mono _ _)
   | (with_reducible first | exact LeO.refl _ | exact LeO.none _ | refine LeO.ite ?_ ?_ | refine LeO.bind ?_ (fun _ => ?_))
   | exact ih0 _ _ _ _
   | exact ih1 _ _ _ _ _ _ _ _ _ _
   | exact ih2 _ _ _ _ _ _ _ _ _ _
   | exact spec_GoodName.mono _ _ | exact LeO.none _ | refine LeO.ite ?_ ?_ | refine LeO.bind ?_ (fun _ => ?_)
def spec_GoodChanges.T6 : Bool × List (List Nat × List Nat) := (true, [([], []), ([0], [0]), ([1], [1]), ([2], [2]), ([3, 2], [3]), ([4], [4]), ([5, 4], [4, 5]), ([6, 4, 4], [4, 6]), ([7], [7]), ([7], [7]), ([9, 7], [7, 9]), ([8, 10, 7], [7, 8, 10]), ([11, 7], [7, 11]), ([12, 7], [7, 12]), ([7], [7]), ([14, 7], [7, 14]), ([13, 15, 7], [7, 13, 15]), ([7, 16, 4], [4, 7, 16]), ([4, 17], [4, 17]), ([18, 7], [18]), ([19], [19]), ([20, 19], [19, 20]), ([21, 19, 19], [19, 21]), ([22, 19], [19, 22]), ([19, 23], [19, 23]), ([24, 22], [24]), ([25], [25]), ([26, 25], [25, 26]), ([27, 25, 25], [25, 27]), ([28, 25], [25, 28]), ([25, 29], [25, 29]), ([30, 28], [30]), ([31], [31]), ([32, 31], [31, 32]), ([33, 31, 31], [31, 33]), ([34, 31], [31, 34]), ([31, 35], [31, 35])])
def spec_GoodChanges.B6 : List Nat := [0, 1, 3, 7, 15, 31, 63, 127, 255, 255, 767, 2047, 4095, 8191, 255, 16639, 65535, 131071, 262143, 524287, 1048575, 2097151, 4194303, 8388607, 16777215, 33554431, 67108863, 134217727, 268435455, 536870911, 1073741823, 2147483647, 4294967295, 8589934591, 17179869183, 34359738367, 68719476735]
theorem spec_GoodChanges.tab6 : rtab .any (opsOf Try.f30 6) = spec_GoodChanges.T6 := by kernel_rfl
theorem spec_GoodChanges.bits6 : waitsOk spec_GoodChanges.T6.2 spec_GoodChanges.B6 = true := by kernel_rfl
set_option maxHeartbeats 8000000 in
set_option maxRecDepth 100000 in
theorem spec_GoodChanges.calls (k : Nat) (A0 : Option Addr) (c0 : Nat) (l0 : List (S45)) (r : Bool) (w : World) (hr0 : Kd.C k45 w A0 l0.length l0) (hc0 : l0.length ≤ c0) (h : spec_GoodChanges.f k l0 = some r) :
  Calls Try.prog 30 #[.slice A0 l0.length c0] w fun e w' => e = .returned (.bool r) ∧ Below w.heap.size w w' := by
 have hu45 := Try.underlying45
 have HR0 := Aside0.mk hr0
 have HC0 := Aside0.mk hc0
 clear hr0 hc0
 have HB := Aside0.mk (Below.refl w.heap.size w)
 have H : (if (l0.length : Int) > 30 then (some false) else (spec_GoodChanges.l0 k l0 l0 (l0.length : Int) 0)) = some r := h
 clear h
 by_cases c2 : (l0.length : Int) > 30
 ·rw [if_pos c2] at H
  have c2b0 : decide (30 < (l0.length : Int)) = true := decide_eq_true c2
  have c2b1 : decide (30 < l0.length) = true := decide_eq_true (by omega)
  clear c2
  obtain rfl := Option.some.inj H
  go_enter Try.func30, Try.ntmps30
  go_wp2
  go_ret
  exact ⟨eE, lU⟩
 ·rw [if_neg c2] at H
  have c2b0 : decide (30 < (l0.length : Int)) = false := decide_eq_false c2
  have c2b1 : decide (30 < l0.length) = false := decide_eq_false (by omega)
  clear c2
  have H' := Aside0.mk H
  clear H
  go_enter Try.func30, Try.ntmps30
  go_wp2
  go_loopg [10] k (fun kq v10 w' => ∃ (x10_1 : Int), v10 = .int .i64 x10_1 ∧ Aside0 (spec_GoodChanges.l0 kq l0 l0 (l0.length : Int) x10_1 = some r) ∧ Aside0 (kq ≤ k) ∧ Aside0 (Below w.heap.size w w'))
  case atStart => exact ⟨(0), tE, H', ⟨Nat.le_refl _⟩, ⟨by repeat (first | (with_reducible first | exact HB.out | apply below_alloc | apply pw_below_drewN | apply below_drew1) | exact HB.out)⟩⟩
  case round =>
   clear H'
   try clear c2; try clear c2b0; try clear c2b1
   obtain ⟨x10_1, rfl, HA, HK1, HB⟩ := hrel
   cases gk with
   | zero => exact absurd HA.out (by simp [spec_GoodChanges.l0])
   | succ k1 =>
    have H := HA.out
    clear HA
    simp only [spec_GoodChanges.l0] at H
    by_cases c3 : x10_1 < (l0.length : Int)
    ·rw [if_pos c3] at H
     have c3b0 : decide (x10_1 < (l0.length : Int)) = true := decide_eq_true c3
     clear c3
     by_cases c4 : 0 ≤ x10_1
     ·rw [if_pos c4] at H
      have c4b0 : decide (0 ≤ x10_1) = true := decide_eq_true c4
      clear c4
      by_cases c5 : x10_1 < (l0.length : Int)
      ·rw [if_pos c5] at H
       have c5b0 : decide (x10_1 < (l0.length : Int)) = true := decide_eq_true c5
       clear c5
       have HC6 := Aside0.mk H
       clear H
       have p112 : 0 ≤ (x10_1 : Int) := of_decide_eq_true hE
       have q112 : x10_1 < (l0.length : Int) := of_decide_eq_true hE
       obtain ⟨ad112, e112, hx112_0, hx112_1, hx112_2, hx112_3, hx112_4⟩ := at_T45 HR0.out x10_1 p112 q112
       cases e112
       replace hx112_0 := (HB.out.cell (World.block_lt_of_cell? w _ hx112_0)).trans hx112_0
       replace hx112_1 := (HB.out.cell (World.block_lt_of_cell? w _ hx112_1)).trans hx112_1
       replace hx112_2 := (HB.out.cell (World.block_lt_of_cell? w _ hx112_2)).trans hx112_2
       replace hx112_3 := (HB.out.cell (World.block_lt_of_cell? w _ hx112_3)).trans hx112_3
       replace hx112_4 := (HB.out.cell (World.block_lt_of_cell? w _ hx112_4)).trans hx112_4
       replace p112 := eq_true p112
       replace q112 := eq_true q112
       go_upto_region 6 with (first | ((with_reducible refine gate_dst (N := 4) rfl ?_); refine box_event rfl (N := 4) rfl (cs := #[.int .i64 0, .int .i64 0, .string (⟨#[]⟩ : ByteArray), .string (⟨#[]⟩ : ByteArray), .int .i64 0]) (t := 45) sE ?_; intro gb113 hg w7 hbox hb; have BK113 := Aside0.mk hbox; have GW113 := gS w hg (lU); have GE113 := gS w hg (lU); replace HB := bH (lU) hb; clear hb hbox hg; have hcz8_0 := cz BK113 0 (.int .i64 0); have hcz8_1 := cz BK113 1 (.int .i64 0); have hcz8_2 := cz BK113 2 (.string (⟨#[]⟩ : ByteArray)); have hcz8_3 := cz BK113 3 (.string (⟨#[]⟩ : ByteArray)); have hcz8_4 := cz BK113 4 (.int .i64 0); have hfz8_0 := fz BK113 0; have hfz8_1 := fz BK113 1; have hfz8_2 := fz BK113 2; have hfz8_3 := fz BK113 3; have hfz8_4 := fz BK113 4) | ((with_reducible refine gate_store (t := 45) (p := 4) rfl ?_); refine store_event (t := 45) (p := 4) (v := ?vo_w9) (w1 := (((((w7.setCell ⟨gb113, 0, none⟩ (.int .i64 ((rd_T45 l0 x10_1).f0))).setCell ⟨gb113, 1, none⟩ (.int .i64 ((rd_T45 l0 x10_1).f1))).setCell ⟨gb113, 2, none⟩ (.string ((rd_T45 l0 x10_1).f2))).setCell ⟨gb113, 3, none⟩ (.string ((rd_T45 l0 x10_1).f3))).setCell ⟨gb113, 4, none⟩ (.int .i64 ((rd_T45 l0 x10_1).f4)))) ?hg ?ho ?hn ?hr ?_; (case ho => rfl); (case hg => rfl); (case hn => rfl); (case hr => first | (go_simp; done) | (go_simp; rfl) | (have hq0_ := (blk_cell BK113.out 0).trans (show _ = some _ from rfl); have hf0_ := blk_frozen BK113.out 0; have hq1_ := (blk_cell BK113.out 1).trans (show _ = some _ from rfl); have hf1_ := blk_frozen BK113.out 1; have hq2_ := (blk_cell BK113.out 2).trans (show _ = some _ from rfl); have hf2_ := blk_frozen BK113.out 2; have hq3_ := (blk_cell BK113.out 3).trans (show _ = some _ from rfl); have hf3_ := blk_frozen BK113.out 3; have hq4_ := (blk_cell BK113.out 4).trans (show _ = some _ from rfl); have hf4_ := blk_frozen BK113.out 4; first | (go_simp; done) | (go_simp; rfl))); intro w9 hw; replace BK113 : Aside0 (w9.heap[gb113]? = some (.cells #[.int .i64 ((rd_T45 l0 x10_1).f0), .int .i64 ((rd_T45 l0 x10_1).f1), .string ((rd_T45 l0 x10_1).f2), .string ((rd_T45 l0 x10_1).f3), .int .i64 ((rd_T45 l0 x10_1).f4)] 45 (0, 0))) := ⟨(by rw [hw]; exact (by refine bU ?_; refine blk_put (cs := #[.int .i64 ((rd_T45 l0 x10_1).f0), .int .i64 ((rd_T45 l0 x10_1).f1), .string ((rd_T45 l0 x10_1).f2), .string ((rd_T45 l0 x10_1).f3), .int .i64 0]) ?_ 4 _ rfl; refine bU ?_; refine blk_put (cs := #[.int .i64 ((rd_T45 l0 x10_1).f0), .int .i64 ((rd_T45 l0 x10_1).f1), .string ((rd_T45 l0 x10_1).f2), .string (⟨#[]⟩ : ByteArray), .int .i64 0]) ?_ 3 _ rfl; refine bU ?_; refine blk_put (cs := #[.int .i64 ((rd_T45 l0 x10_1).f0), .int .i64 ((rd_T45 l0 x10_1).f1), .string (⟨#[]⟩ : ByteArray), .string (⟨#[]⟩ : ByteArray), .int .i64 0]) ?_ 2 _ rfl; refine bU ?_; refine blk_put (cs := #[.int .i64 ((rd_T45 l0 x10_1).f0), .int .i64 0, .string (⟨#[]⟩ : ByteArray), .string (⟨#[]⟩ : ByteArray), .int .i64 0]) ?_ 1 _ rfl; refine bU ?_; refine blk_put (cs := #[.int .i64 0, .int .i64 0, .string (⟨#[]⟩ : ByteArray), .string (⟨#[]⟩ : ByteArray), .int .i64 0]) ?_ 0 _ rfl; refine bU ?_; exact BK113.out))⟩; replace HB : Aside0 (Below w.heap.size w w9) := ⟨(by rw [hw]; exact (lV1 GE113))⟩; clear hw))
       (try simp only [Act.put, List.setIfInBounds_toArray, List.set_cons_zero, List.set_cons_succ])
       go_cut [51] (fun v51 wc => ∃ (kq : Nat) (x51_5 : Bool), v51 = .bool x51_5 ∧ Aside0 (spec_GoodChanges.j1 kq l0 l0 (l0.length : Int) x10_1 x51_5 ((rd_T45 l0 x10_1).f0) ((rd_T45 l0 x10_1).f1) ((rd_T45 l0 x10_1).f2) ((rd_T45 l0 x10_1).f3) ((rd_T45 l0 x10_1).f4) = some r) ∧ Aside0 (kq ≤ k1) ∧ Aside0 (wc.heap[gb113]? = some (.cells #[.int .i64 ((rd_T45 l0 x10_1).f0), .int .i64 ((rd_T45 l0 x10_1).f1), .string ((rd_T45 l0 x10_1).f2), .string ((rd_T45 l0 x10_1).f3), .int .i64 ((rd_T45 l0 x10_1).f4)] 45 (0, 0))) ∧ Aside0 (Below w.heap.size w wc))
       case first =>
        have H := HC6.out
        clear HC6
        replace H := Option.bind_eq_some_iff.mp H
        obtain ⟨t114, A100, H⟩ := H
        replace H : (if t114 = true then (if x10_1 > 0 then (if 0 ≤ (wrap64 (x10_1 - 1)) then (if (wrap64 (x10_1 - 1)) < (l0.length : Int) then (if ((rd_T45 l0 (wrap64 (x10_1 - 1))).f0) > ((rd_T45 l0 x10_1).f0) then (spec_GoodChanges.j1 k1 l0 l0 (l0.length : Int) x10_1 true ((rd_T45 l0 x10_1).f0) ((rd_T45 l0 x10_1).f1) ((rd_T45 l0 x10_1).f2) ((rd_T45 l0 x10_1).f3) ((rd_T45 l0 x10_1).f4)) else ((spec_l1In.f ((rd_T45 l0 x10_1).f1) 1 5).bind fun t116 => (if t116 = true then ((spec_GoodName.f k1 ((rd_T45 l0 x10_1).f2)).bind fun t117 => (if t117 = true then ((spec_l1In.f ((rd_T45 l0 x10_1).f4) (-1000000) 1000000).bind fun t118 => (spec_GoodChanges.j1 k1 l0 l0 (l0.length : Int) x10_1 (!t118) ((rd_T45 l0 x10_1).f0) ((rd_T45 l0 x10_1).f1) ((rd_T45 l0 x10_1).f2) ((rd_T45 l0 x10_1).f3) ((rd_T45 l0 x10_1).f4))) else (spec_GoodChanges.j1 k1 l0 l0 (l0.length : Int) x10_1 true ((rd_T45 l0 x10_1).f0) ((rd_T45 l0 x10_1).f1) ((rd_T45 l0 x10_1).f2) ((rd_T45 l0 x10_1).f3) ((rd_T45 l0 x10_1).f4)))) else (spec_GoodChanges.j1 k1 l0 l0 (l0.length : Int) x10_1 true ((rd_T45 l0 x10_1).f0) ((rd_T45 l0 x10_1).f1) ((rd_T45 l0 x10_1).f2) ((rd_T45 l0 x10_1).f3) ((rd_T45 l0 x10_1).f4))))) else (none)) else (none)) else ((spec_l1In.f ((rd_T45 l0 x10_1).f1) 1 5).bind fun t119 => (if t119 = true then ((spec_GoodName.f k1 ((rd_T45 l0 x10_1).f2)).bind fun t120 => (if t120 = true then ((spec_l1In.f ((rd_T45 l0 x10_1).f4) (-1000000) 1000000).bind fun t121 => (spec_GoodChanges.j1 k1 l0 l0 (l0.length : Int) x10_1 (!t121) ((rd_T45 l0 x10_1).f0) ((rd_T45 l0 x10_1).f1) ((rd_T45 l0 x10_1).f2) ((rd_T45 l0 x10_1).f3) ((rd_T45 l0 x10_1).f4))) else (spec_GoodChanges.j1 k1 l0 l0 (l0.length : Int) x10_1 true ((rd_T45 l0 x10_1).f0) ((rd_T45 l0 x10_1).f1) ((rd_T45 l0 x10_1).f2) ((rd_T45 l0 x10_1).f3) ((rd_T45 l0 x10_1).f4)))) else (spec_GoodChanges.j1 k1 l0 l0 (l0.length : Int) x10_1 true ((rd_T45 l0 x10_1).f0) ((rd_T45 l0 x10_1).f1) ((rd_T45 l0 x10_1).f2) ((rd_T45 l0 x10_1).f3) ((rd_T45 l0 x10_1).f4))))) else (spec_GoodChanges.j1 k1 l0 l0 (l0.length : Int) x10_1 true ((rd_T45 l0 x10_1).f0) ((rd_T45 l0 x10_1).f1) ((rd_T45 l0 x10_1).f2) ((rd_T45 l0 x10_1).f3) ((rd_T45 l0 x10_1).f4))) = some r := H
        have A10 := Aside0.mk A100
        clear A100
        by_cases c11 : t114 = true
        ·subst c11
         have H1 : (if x10_1 > 0 then (if 0 ≤ (wrap64 (x10_1 - 1)) then (if (wrap64 (x10_1 - 1)) < (l0.length : Int) then (if ((rd_T45 l0 (wrap64 (x10_1 - 1))).f0) > ((rd_T45 l0 x10_1).f0) then (spec_GoodChanges.j1 k1 l0 l0 (l0.length : Int) x10_1 true ((rd_T45 l0 x10_1).f0) ((rd_T45 l0 x10_1).f1) ((rd_T45 l0 x10_1).f2) ((rd_T45 l0 x10_1).f3) ((rd_T45 l0 x10_1).f4)) else ((spec_l1In.f ((rd_T45 l0 x10_1).f1) 1 5).bind fun t116 => (if t116 = true then ((spec_GoodName.f k1 ((rd_T45 l0 x10_1).f2)).bind fun t117 => (if t117 = true then ((spec_l1In.f ((rd_T45 l0 x10_1).f4) (-1000000) 1000000).bind fun t118 => (spec_GoodChanges.j1 k1 l0 l0 (l0.length : Int) x10_1 (!t118) ((rd_T45 l0 x10_1).f0) ((rd_T45 l0 x10_1).f1) ((rd_T45 l0 x10_1).f2) ((rd_T45 l0 x10_1).f3) ((rd_T45 l0 x10_1).f4))) else (spec_GoodChanges.j1 k1 l0 l0 (l0.length : Int) x10_1 true ((rd_T45 l0 x10_1).f0) ((rd_T45 l0 x10_1).f1) ((rd_T45 l0 x10_1).f2) ((rd_T45 l0 x10_1).f3) ((rd_T45 l0 x10_1).f4)))) else (spec_GoodChanges.j1 k1 l0 l0 (l0.length : Int) x10_1 true ((rd_T45 l0 x10_1).f0) ((rd_T45 l0 x10_1).f1) ((rd_T45 l0 x10_1).f2) ((rd_T45 l0 x10_1).f3) ((rd_T45 l0 x10_1).f4))))) else (none)) else (none)) else ((spec_l1In.f ((rd_T45 l0 x10_1).f1) 1 5).bind fun t119 => (if t119 = true then ((spec_GoodName.f k1 ((rd_T45 l0 x10_1).f2)).bind fun t120 => (if t120 = true then ((spec_l1In.f ((rd_T45 l0 x10_1).f4) (-1000000) 1000000).bind fun t121 => (spec_GoodChanges.j1 k1 l0 l0 (l0.length : Int) x10_1 (!t121) ((rd_T45 l0 x10_1).f0) ((rd_T45 l0 x10_1).f1) ((rd_T45 l0 x10_1).f2) ((rd_T45 l0 x10_1).f3) ((rd_T45 l0 x10_1).f4))) else (spec_GoodChanges.j1 k1 l0 l0 (l0.length : Int) x10_1 true ((rd_T45 l0 x10_1).f0) ((rd_T45 l0 x10_1).f1) ((rd_T45 l0 x10_1).f2) ((rd_T45 l0 x10_1).f3) ((rd_T45 l0 x10_1).f4)))) else (spec_GoodChanges.j1 k1 l0 l0 (l0.length : Int) x10_1 true ((rd_T45 l0 x10_1).f0) ((rd_T45 l0 x10_1).f1) ((rd_T45 l0 x10_1).f2) ((rd_T45 l0 x10_1).f3) ((rd_T45 l0 x10_1).f4))))) = some r := by rw [if_pos rfl] at H; exact H
         clear H
         have H := H1
         clear H1
         by_cases c12 : x10_1 > 0
         ·rw [if_pos c12] at H
          have c12b0 : decide (0 < x10_1) = true := decide_eq_true c12
          clear c12
          (first | rw [c12b0] | (simp only [i64_w, i32_w]; rw [c12b0]) | (rw [c12b2]; simp only [Bool.not_false, Bool.not_true]) | skip)
          obtain ⟨ji13, hji13⟩ : ∃ j_ : Int, (wrap64 (x10_1 - 1)) = j_ := ⟨_, rfl⟩
          replace H : (if 0 ≤ (ji13) then (if (ji13) < (l0.length : Int) then (if ((rd_T45 l0 (ji13)).f0) > ((rd_T45 l0 x10_1).f0) then (spec_GoodChanges.j1 k1 l0 l0 (l0.length : Int) x10_1 true ((rd_T45 l0 x10_1).f0) ((rd_T45 l0 x10_1).f1) ((rd_T45 l0 x10_1).f2) ((rd_T45 l0 x10_1).f3) ((rd_T45 l0 x10_1).f4)) else ((spec_l1In.f ((rd_T45 l0 x10_1).f1) 1 5).bind fun t116 => (if t116 = true then ((spec_GoodName.f k1 ((rd_T45 l0 x10_1).f2)).bind fun t117 => (if t117 = true then ((spec_l1In.f ((rd_T45 l0 x10_1).f4) (-1000000) 1000000).bind fun t118 => (spec_GoodChanges.j1 k1 l0 l0 (l0.length : Int) x10_1 (!t118) ((rd_T45 l0 x10_1).f0) ((rd_T45 l0 x10_1).f1) ((rd_T45 l0 x10_1).f2) ((rd_T45 l0 x10_1).f3) ((rd_T45 l0 x10_1).f4))) else (spec_GoodChanges.j1 k1 l0 l0 (l0.length : Int) x10_1 true ((rd_T45 l0 x10_1).f0) ((rd_T45 l0 x10_1).f1) ((rd_T45 l0 x10_1).f2) ((rd_T45 l0 x10_1).f3) ((rd_T45 l0 x10_1).f4)))) else (spec_GoodChanges.j1 k1 l0 l0 (l0.length : Int) x10_1 true ((rd_T45 l0 x10_1).f0) ((rd_T45 l0 x10_1).f1) ((rd_T45 l0 x10_1).f2) ((rd_T45 l0 x10_1).f3) ((rd_T45 l0 x10_1).f4))))) else (none)) else (none)) = some r := by first | (rw [hji13] at H; exact H) | (simp only [hji13] at H ⊢; exact H)
          (try rw [hji13] at A10)
          have hji13w : (IntKind.i64.wrap (x10_1 - 1)) = ji13 := (i64_w _).trans hji13
          by_cases c14 : 0 ≤ (ji13)
          ·rw [if_pos c14] at H
           have c14b0 : decide (0 ≤ (ji13)) = true := decide_eq_true c14
           clear c14
           by_cases c15 : (ji13) < (l0.length : Int)
           ·rw [if_pos c15] at H
            have c15b0 : decide ((ji13) < (l0.length : Int)) = true := decide_eq_true c15
            clear c15
            by_cases c16 : ((rd_T45 l0 (ji13)).f0) > ((rd_T45 l0 x10_1).f0)
            ·rw [if_pos c16] at H
             have c16b0 : decide (((rd_T45 l0 x10_1).f0) < ((rd_T45 l0 (ji13)).f0)) = true := decide_eq_true c16
             clear c16
             have H' := Aside0.mk H
             clear H
             try go_wp2
             replace BK113 := Aside0.mk (blk_drew BK113.out)
             replace HB := Aside0.mk (below_drew1 HB.out)
             have p115 : 0 ≤ ((ji13) : Int) := of_decide_eq_true hE
             have q115 : (ji13) < (l0.length : Int) := of_decide_eq_true hE
             obtain ⟨ad115, e115, hx115_0, hx115_1, hx115_2, hx115_3, hx115_4⟩ := at_T45 HR0.out (ji13) p115 q115
             have hw115_4 := hx115_4
             have hw115_3 := hx115_3
             have hw115_2 := hx115_2
             have hw115_1 := hx115_1
             have hw115_0 := hx115_0
             obtain rfl : ad112 = ad115 := (by injection e115)
             replace hx115_0 := (HB.out.cell (World.block_lt_of_cell? w _ hx115_0)).trans hx115_0
             replace hx115_1 := (HB.out.cell (World.block_lt_of_cell? w _ hx115_1)).trans hx115_1
             replace hx115_2 := (HB.out.cell (World.block_lt_of_cell? w _ hx115_2)).trans hx115_2
             replace hx115_3 := (HB.out.cell (World.block_lt_of_cell? w _ hx115_3)).trans hx115_3
             replace hx115_4 := (HB.out.cell (World.block_lt_of_cell? w _ hx115_4)).trans hx115_4
             replace p115 := eq_true p115
             replace q115 := eq_true q115
             refine start_ (n := 37) (S := fun w' => w'.cell? ⟨gb113, 0, none⟩ = some (.int .i64 ((rd_T45 l0 x10_1).f0)) ∧ w'.cell? ⟨gb113, 1, none⟩ = some (.int .i64 ((rd_T45 l0 x10_1).f1)) ∧ w'.cell? ⟨gb113, 2, none⟩ = some (.string ((rd_T45 l0 x10_1).f2)) ∧ w'.cell? ⟨gb113, 3, none⟩ = some (.string ((rd_T45 l0 x10_1).f3)) ∧ w'.cell? ⟨gb113, 4, none⟩ = some (.int .i64 ((rd_T45 l0 x10_1).f4)) ∧ w'.cell? (ad112.add (((ji13)).toNat * 5)) = some (.int .i64 ((rd_T45 l0 (ji13)).f0)) ∧ w'.cell? ⟨(ad112.add (((ji13)).toNat * 5)).block, (ad112.add (((ji13)).toNat * 5)).off + 1, none⟩ = some (.int .i64 ((rd_T45 l0 (ji13)).f1)) ∧ w'.cell? ⟨(ad112.add (((ji13)).toNat * 5)).block, (ad112.add (((ji13)).toNat * 5)).off + 2, none⟩ = some (.string ((rd_T45 l0 (ji13)).f2)) ∧ w'.cell? ⟨(ad112.add (((ji13)).toNat * 5)).block, (ad112.add (((ji13)).toNat * 5)).off + 3, none⟩ = some (.string ((rd_T45 l0 (ji13)).f3)) ∧ w'.cell? ⟨(ad112.add (((ji13)).toNat * 5)).block, (ad112.add (((ji13)).toNat * 5)).off + 4, none⟩ = some (.int .i64 ((rd_T45 l0 (ji13)).f4))) (ds := []) #[false, false, false, false, false, false, false, false, false, false, false, false, false, false, false, false, false, false, false, false, false, false, false, false, false, false, false, false, false, false, false, false, false, false, false, false, false] (by kernel_rfl) rfl rfl ⟨cz BK113 0 _, cz BK113 1 _, cz BK113 2 _, cz BK113 3 _, cz BK113 4 _, ((HB.out.cell (World.block_lt_of_cell? w _ hw115_0)).trans hw115_0), ((HB.out.cell (World.block_lt_of_cell? w _ hw115_1)).trans hw115_1), ((HB.out.cell (World.block_lt_of_cell? w _ hw115_2)).trans hw115_2), ((HB.out.cell (World.block_lt_of_cell? w _ hw115_3)).trans hw115_3), ((HB.out.cell (World.block_lt_of_cell? w _ hw115_4)).trans hw115_4)⟩ (fun hHeld => ?_); refine with_tabW spec_GoodChanges.tab6 spec_GoodChanges.bits6 (fun HT_ HW_ => ?_)
             generalize w9.drew = w17 at BK113 HB hx115_0 hx115_1 hx115_2 hx115_3 hx115_4 hHeld ⊢
             refine pureA 0 15 (bz 37 1) rfl rfl (any_of HT_.out (by kernel_rfl)) ?_
             refine takeA 1 16 (bz 37 3) rfl rfl (take_ofW HT_.out HW_.out (by kernel_rfl)) hHeld (by rintro w' ⟨s0, s1, s2, s3, s4, s5, s6, s7, s8, s9⟩; go_simp; with_reducible rfl) ?_
             refine one_ (i := 2) (N := some 17) (bz 37 7) rfl rfl (one_of HT_.out (by kernel_rfl)) (by decide) (fun K hK => ?_)
             refine goes_ Try.func28 (by kernel_rfl) rfl #[.int .i64 ((rd_T45 l0 x10_1).f0), .int .i64 1, .int .i64 2] (by rfl) rfl rfl aE ?_
             with_reducible refine (spec_l1In.calls ((rd_T45 l0 x10_1).f0) 1 2 true _ A10.out).mono ?_
             rintro e w' ⟨rfl, ⟨nd, rfl⟩⟩
             refine ⟨_, rfl, ?_⟩
             refine hK.out _ _ ⟨cz BK113 0 _, cz BK113 1 _, cz BK113 2 _, cz BK113 3 _, cz BK113 4 _, ((HB.out.cell (World.block_lt_of_cell? w _ hw115_0)).trans hw115_0), ((HB.out.cell (World.block_lt_of_cell? w _ hw115_1)).trans hw115_1), ((HB.out.cell (World.block_lt_of_cell? w _ hw115_2)).trans hw115_2), ((HB.out.cell (World.block_lt_of_cell? w _ hw115_3)).trans hw115_3), ((HB.out.cell (World.block_lt_of_cell? w _ hw115_4)).trans hw115_4)⟩ (fun hHeld => ?_)
             clear hK K
             refine norm_ (a' := ?_) ?_ ?_
             rotate_left
             ·show Act.put _ (some 17) _ = _
              simp only [Act.put, List.setIfInBounds_toArray, List.set_cons_zero, List.set_cons_succ, i64_w, i32_w]
              rfl
             refine pureA 3 18 (bz 37 15) rfl rfl (any_of HT_.out (by kernel_rfl)) ?_
             refine pureA 4 19 (bz 37 31) rfl rfl (any_of HT_.out (by kernel_rfl)) ?_
             refine pureA 5 20 (bz 37 63) rfl rfl (any_of HT_.out (by kernel_rfl)) ?_
             refine pureA 6 21 (bz 37 127) rfl rfl (any_of HT_.out (by kernel_rfl)) ?_
             refine pureA 7 22 (bz 37 255) rfl rfl (any_of HT_.out (by kernel_rfl)) ?_
             refine pureA 8 23 (bz 37 511) rfl rfl (any_of HT_.out (by kernel_rfl)) ?_
             refine pureA 9 24 (bz 37 1023) rfl rfl (any_of HT_.out (by kernel_rfl)) ?_
             refine pureA 10 25 (bz 37 2047) rfl rfl (any_of HT_.out (by kernel_rfl)) ?_
             refine pureA 11 26 (bz 37 4095) rfl rfl (any_of HT_.out (by kernel_rfl)) ?_
             refine pureA 12 27 (bz 37 8191) rfl rfl (any_of HT_.out (by kernel_rfl)) ?_
             refine pureA 14 29 (bz 37 24575) rfl rfl (any_of HT_.out (by kernel_rfl)) ?_
             refine takeA 13 28 (bz 37 32767) rfl rfl (take_ofW HT_.out HW_.out (by kernel_rfl)) hHeld (by rintro w' ⟨s0, s1, s2, s3, s4, s5, s6, s7, s8, s9⟩; go_simp; with_reducible rfl) ?_
             refine takeA 15 30 (bz 37 65535) rfl rfl (take_ofW HT_.out HW_.out (by kernel_rfl)) hHeld (by rintro w' ⟨s0, s1, s2, s3, s4, s5, s6, s7, s8, s9⟩; go_simp; with_reducible rfl) ?_
             refine pureA 16 31 (bz 37 131071) rfl rfl (any_of HT_.out (by kernel_rfl)) ?_
             refine pureA 17 32 (bz 37 262143) rfl rfl (any_of HT_.out (by kernel_rfl)) ?_
             refine pureA 18 33 (bz 37 524287) rfl rfl (any_of HT_.out (by kernel_rfl)) ?_
             refine pureA 19 34 (bz 37 1048575) rfl rfl (any_of HT_.out (by kernel_rfl)) ?_
             refine pureU 20 35 (bz 37 2097151) rfl rfl (any_of HT_.out (by kernel_rfl)) ?_
             refine pureU 21 36 (bz 37 4194303) rfl rfl (any_of HT_.out (by kernel_rfl)) ?_
             refine pureU 22 37 (bz 37 8388607) rfl rfl (any_of HT_.out (by kernel_rfl)) ?_
             refine pureU 23 38 (bz 37 16777215) rfl rfl (any_of HT_.out (by kernel_rfl)) ?_
             refine pureA 24 39 (bz 37 33554431) rfl rfl (any_of HT_.out (by kernel_rfl)) ?_
             refine pureA 25 40 (bz 37 67108863) rfl rfl (any_of HT_.out (by kernel_rfl)) ?_
             refine pureU 26 41 (bz 37 134217727) rfl rfl (any_of HT_.out (by kernel_rfl)) ?_
             refine pureU 27 42 (bz 37 268435455) rfl rfl (any_of HT_.out (by kernel_rfl)) ?_
             refine pureU 28 43 (bz 37 536870911) rfl rfl (any_of HT_.out (by kernel_rfl)) ?_
             refine pureU 29 44 (bz 37 1073741823) rfl rfl (any_of HT_.out (by kernel_rfl)) ?_
             refine pureA 30 45 (bz 37 2147483647) rfl rfl (any_of HT_.out (by kernel_rfl)) ?_
             refine pureA 31 46 (bz 37 4294967295) rfl rfl (any_of HT_.out (by kernel_rfl)) ?_
             refine pureU 32 47 (bz 37 8589934591) rfl rfl (any_of HT_.out (by kernel_rfl)) ?_
             refine pureU 33 48 (bz 37 17179869183) rfl rfl (any_of HT_.out (by kernel_rfl)) ?_
             refine pureU 34 49 (bz 37 34359738367) rfl rfl (any_of HT_.out (by kernel_rfl)) ?_
             refine pureU 35 50 (bz 37 68719476735) rfl rfl (any_of HT_.out (by kernel_rfl)) ?_
             refine pureA 36 51 (bz 37 137438953471) rfl rfl (any_of HT_.out (by kernel_rfl)) ?_
             refine done_ (done_of HT_.out (by kernel_rfl)) ?_
             try go_wp2
             go_meet
             case rel => exact ⟨_, (true), tE, H', ⟨by have := HK1.out; first | omega | exact Nat.le_refl _⟩, ⟨by refine bU ?_; exact BK113.out⟩, ⟨by repeat (first | (with_reducible first | exact HB.out | apply below_alloc | apply pw_below_drewN | apply below_drew1 | refine below_set ?_ GE113.out) | exact HB.out)⟩⟩
            ·rw [if_neg c16] at H
             have c16b0 : decide (((rd_T45 l0 x10_1).f0) < ((rd_T45 l0 (ji13)).f0)) = false := decide_eq_false c16
             clear c16
             replace H := Option.bind_eq_some_iff.mp H
             obtain ⟨t116, A180, H⟩ := H
             replace H : (if t116 = true then ((spec_GoodName.f k1 ((rd_T45 l0 x10_1).f2)).bind fun t117 => (if t117 = true then ((spec_l1In.f ((rd_T45 l0 x10_1).f4) (-1000000) 1000000).bind fun t118 => (spec_GoodChanges.j1 k1 l0 l0 (l0.length : Int) x10_1 (!t118) ((rd_T45 l0 x10_1).f0) ((rd_T45 l0 x10_1).f1) ((rd_T45 l0 x10_1).f2) ((rd_T45 l0 x10_1).f3) ((rd_T45 l0 x10_1).f4))) else (spec_GoodChanges.j1 k1 l0 l0 (l0.length : Int) x10_1 true ((rd_T45 l0 x10_1).f0) ((rd_T45 l0 x10_1).f1) ((rd_T45 l0 x10_1).f2) ((rd_T45 l0 x10_1).f3) ((rd_T45 l0 x10_1).f4)))) else (spec_GoodChanges.j1 k1 l0 l0 (l0.length : Int) x10_1 true ((rd_T45 l0 x10_1).f0) ((rd_T45 l0 x10_1).f1) ((rd_T45 l0 x10_1).f2) ((rd_T45 l0 x10_1).f3) ((rd_T45 l0 x10_1).f4))) = some r := H
             have A18 := Aside0.mk A180
             clear A180
             by_cases c19 : t116 = true
             ·subst c19
              have H1 : ((spec_GoodName.f k1 ((rd_T45 l0 x10_1).f2)).bind fun t117 => (if t117 = true then ((spec_l1In.f ((rd_T45 l0 x10_1).f4) (-1000000) 1000000).bind fun t118 => (spec_GoodChanges.j1 k1 l0 l0 (l0.length : Int) x10_1 (!t118) ((rd_T45 l0 x10_1).f0) ((rd_T45 l0 x10_1).f1) ((rd_T45 l0 x10_1).f2) ((rd_T45 l0 x10_1).f3) ((rd_T45 l0 x10_1).f4))) else (spec_GoodChanges.j1 k1 l0 l0 (l0.length : Int) x10_1 true ((rd_T45 l0 x10_1).f0) ((rd_T45 l0 x10_1).f1) ((rd_T45 l0 x10_1).f2) ((rd_T45 l0 x10_1).f3) ((rd_T45 l0 x10_1).f4)))) = some r := by rw [if_pos rfl] at H; exact H
              clear H
              have H := H1
              clear H1
              replace H := Option.bind_eq_some_iff.mp H
              obtain ⟨t117, A200, H⟩ := H
              replace H : (if t117 = true then ((spec_l1In.f ((rd_T45 l0 x10_1).f4) (-1000000) 1000000).bind fun t118 => (spec_GoodChanges.j1 k1 l0 l0 (l0.length : Int) x10_1 (!t118) ((rd_T45 l0 x10_1).f0) ((rd_T45 l0 x10_1).f1) ((rd_T45 l0 x10_1).f2) ((rd_T45 l0 x10_1).f3) ((rd_T45 l0 x10_1).f4))) else (spec_GoodChanges.j1 k1 l0 l0 (l0.length : Int) x10_1 true ((rd_T45 l0 x10_1).f0) ((rd_T45 l0 x10_1).f1) ((rd_T45 l0 x10_1).f2) ((rd_T45 l0 x10_1).f3) ((rd_T45 l0 x10_1).f4))) = some r := H
              have A20 := Aside0.mk A200
              clear A200
              by_cases c21 : t117 = true
              ·subst c21
               have H1 : ((spec_l1In.f ((rd_T45 l0 x10_1).f4) (-1000000) 1000000).bind fun t118 => (spec_GoodChanges.j1 k1 l0 l0 (l0.length : Int) x10_1 (!t118) ((rd_T45 l0 x10_1).f0) ((rd_T45 l0 x10_1).f1) ((rd_T45 l0 x10_1).f2) ((rd_T45 l0 x10_1).f3) ((rd_T45 l0 x10_1).f4))) = some r := by rw [if_pos rfl] at H; exact H
               clear H
               have H := H1
               clear H1
               replace H := Option.bind_eq_some_iff.mp H
               obtain ⟨t118, A220, H⟩ := H
               replace H : (spec_GoodChanges.j1 k1 l0 l0 (l0.length : Int) x10_1 (!t118) ((rd_T45 l0 x10_1).f0) ((rd_T45 l0 x10_1).f1) ((rd_T45 l0 x10_1).f2) ((rd_T45 l0 x10_1).f3) ((rd_T45 l0 x10_1).f4)) = some r := H
               have A22 := Aside0.mk A220
               clear A220
               have H' := Aside0.mk H
               clear H
               try go_wp2
               replace BK113 := Aside0.mk (blk_drew BK113.out)
               replace HB := Aside0.mk (below_drew1 HB.out)
               have p115 : 0 ≤ ((ji13) : Int) := of_decide_eq_true hE
               have q115 : (ji13) < (l0.length : Int) := of_decide_eq_true hE
               obtain ⟨ad115, e115, hx115_0, hx115_1, hx115_2, hx115_3, hx115_4⟩ := at_T45 HR0.out (ji13) p115 q115
               have hw115_4 := hx115_4
               have hw115_3 := hx115_3
               have hw115_2 := hx115_2
               have hw115_1 := hx115_1
               have hw115_0 := hx115_0
               obtain rfl : ad112 = ad115 := (by injection e115)
               replace hx115_0 := (HB.out.cell (World.block_lt_of_cell? w _ hx115_0)).trans hx115_0
               replace hx115_1 := (HB.out.cell (World.block_lt_of_cell? w _ hx115_1)).trans hx115_1
               replace hx115_2 := (HB.out.cell (World.block_lt_of_cell? w _ hx115_2)).trans hx115_2
               replace hx115_3 := (HB.out.cell (World.block_lt_of_cell? w _ hx115_3)).trans hx115_3
               replace hx115_4 := (HB.out.cell (World.block_lt_of_cell? w _ hx115_4)).trans hx115_4
               replace p115 := eq_true p115
               replace q115 := eq_true q115
               refine start_ (n := 37) (S := fun w' => w'.cell? ⟨gb113, 0, none⟩ = some (.int .i64 ((rd_T45 l0 x10_1).f0)) ∧ w'.cell? ⟨gb113, 1, none⟩ = some (.int .i64 ((rd_T45 l0 x10_1).f1)) ∧ w'.cell? ⟨gb113, 2, none⟩ = some (.string ((rd_T45 l0 x10_1).f2)) ∧ w'.cell? ⟨gb113, 3, none⟩ = some (.string ((rd_T45 l0 x10_1).f3)) ∧ w'.cell? ⟨gb113, 4, none⟩ = some (.int .i64 ((rd_T45 l0 x10_1).f4)) ∧ w'.cell? (ad112.add (((ji13)).toNat * 5)) = some (.int .i64 ((rd_T45 l0 (ji13)).f0)) ∧ w'.cell? ⟨(ad112.add (((ji13)).toNat * 5)).block, (ad112.add (((ji13)).toNat * 5)).off + 1, none⟩ = some (.int .i64 ((rd_T45 l0 (ji13)).f1)) ∧ w'.cell? ⟨(ad112.add (((ji13)).toNat * 5)).block, (ad112.add (((ji13)).toNat * 5)).off + 2, none⟩ = some (.string ((rd_T45 l0 (ji13)).f2)) ∧ w'.cell? ⟨(ad112.add (((ji13)).toNat * 5)).block, (ad112.add (((ji13)).toNat * 5)).off + 3, none⟩ = some (.string ((rd_T45 l0 (ji13)).f3)) ∧ w'.cell? ⟨(ad112.add (((ji13)).toNat * 5)).block, (ad112.add (((ji13)).toNat * 5)).off + 4, none⟩ = some (.int .i64 ((rd_T45 l0 (ji13)).f4))) (ds := []) #[false, false, false, false, false, false, false, false, false, false, false, false, false, false, false, false, false, false, false, false, false, false, false, false, false, false, false, false, false, false, false, false, false, false, false, false, false] (by kernel_rfl) rfl rfl ⟨cz BK113 0 _, cz BK113 1 _, cz BK113 2 _, cz BK113 3 _, cz BK113 4 _, ((HB.out.cell (World.block_lt_of_cell? w _ hw115_0)).trans hw115_0), ((HB.out.cell (World.block_lt_of_cell? w _ hw115_1)).trans hw115_1), ((HB.out.cell (World.block_lt_of_cell? w _ hw115_2)).trans hw115_2), ((HB.out.cell (World.block_lt_of_cell? w _ hw115_3)).trans hw115_3), ((HB.out.cell (World.block_lt_of_cell? w _ hw115_4)).trans hw115_4)⟩ (fun hHeld => ?_); refine with_tabW spec_GoodChanges.tab6 spec_GoodChanges.bits6 (fun HT_ HW_ => ?_)
               generalize w9.drew = w23 at BK113 HB hx115_0 hx115_1 hx115_2 hx115_3 hx115_4 hHeld ⊢
               refine pureA 0 15 (bz 37 1) rfl rfl (any_of HT_.out (by kernel_rfl)) ?_
               refine takeA 1 16 (bz 37 3) rfl rfl (take_ofW HT_.out HW_.out (by kernel_rfl)) hHeld (by rintro w' ⟨s0, s1, s2, s3, s4, s5, s6, s7, s8, s9⟩; go_simp; with_reducible rfl) ?_
               refine one_ (i := 2) (N := some 17) (bz 37 7) rfl rfl (one_of HT_.out (by kernel_rfl)) (by decide) (fun K hK => ?_)
               refine goes_ Try.func28 (by kernel_rfl) rfl #[.int .i64 ((rd_T45 l0 x10_1).f0), .int .i64 1, .int .i64 2] (by rfl) rfl rfl aE ?_
               with_reducible refine (spec_l1In.calls ((rd_T45 l0 x10_1).f0) 1 2 true _ A10.out).mono ?_
               rintro e w' ⟨rfl, ⟨nd, rfl⟩⟩
               refine ⟨_, rfl, ?_⟩
               refine hK.out _ _ ⟨cz BK113 0 _, cz BK113 1 _, cz BK113 2 _, cz BK113 3 _, cz BK113 4 _, ((HB.out.cell (World.block_lt_of_cell? w _ hw115_0)).trans hw115_0), ((HB.out.cell (World.block_lt_of_cell? w _ hw115_1)).trans hw115_1), ((HB.out.cell (World.block_lt_of_cell? w _ hw115_2)).trans hw115_2), ((HB.out.cell (World.block_lt_of_cell? w _ hw115_3)).trans hw115_3), ((HB.out.cell (World.block_lt_of_cell? w _ hw115_4)).trans hw115_4)⟩ (fun hHeld => ?_)
               clear hK K
               refine norm_ (a' := ?_) ?_ ?_
               rotate_left
               ·show Act.put _ (some 17) _ = _
                simp only [Act.put, List.setIfInBounds_toArray, List.set_cons_zero, List.set_cons_succ, i64_w, i32_w]
                rfl
               refine pureA 3 18 (bz 37 15) rfl rfl (any_of HT_.out (by kernel_rfl)) ?_
               refine pureA 4 19 (bz 37 31) rfl rfl (any_of HT_.out (by kernel_rfl)) ?_
               refine pureA 5 20 (bz 37 63) rfl rfl (any_of HT_.out (by kernel_rfl)) ?_
               refine pureA 6 21 (bz 37 127) rfl rfl (any_of HT_.out (by kernel_rfl)) ?_
               refine pureA 7 22 (bz 37 255) rfl rfl (any_of HT_.out (by kernel_rfl)) ?_
               refine pureA 8 23 (bz 37 511) rfl rfl (any_of HT_.out (by kernel_rfl)) ?_
               refine pureA 9 24 (bz 37 1023) rfl rfl (any_of HT_.out (by kernel_rfl)) ?_
               refine pureA 10 25 (bz 37 2047) rfl rfl (any_of HT_.out (by kernel_rfl)) ?_
               refine pureA 11 26 (bz 37 4095) rfl rfl (any_of HT_.out (by kernel_rfl)) ?_
               refine pureA 12 27 (bz 37 8191) rfl rfl (any_of HT_.out (by kernel_rfl)) ?_
               refine pureA 14 29 (bz 37 24575) rfl rfl (any_of HT_.out (by kernel_rfl)) ?_
               refine takeA 13 28 (bz 37 32767) rfl rfl (take_ofW HT_.out HW_.out (by kernel_rfl)) hHeld (by rintro w' ⟨s0, s1, s2, s3, s4, s5, s6, s7, s8, s9⟩; go_simp; with_reducible rfl) ?_
               refine takeA 15 30 (bz 37 65535) rfl rfl (take_ofW HT_.out HW_.out (by kernel_rfl)) hHeld (by rintro w' ⟨s0, s1, s2, s3, s4, s5, s6, s7, s8, s9⟩; go_simp; with_reducible rfl) ?_
               refine pureA 16 31 (bz 37 131071) rfl rfl (any_of HT_.out (by kernel_rfl)) ?_
               refine pureA 17 32 (bz 37 262143) rfl rfl (any_of HT_.out (by kernel_rfl)) ?_
               refine pureA 18 33 (bz 37 524287) rfl rfl (any_of HT_.out (by kernel_rfl)) ?_
               refine pureA 19 34 (bz 37 1048575) rfl rfl (any_of HT_.out (by kernel_rfl)) ?_
               refine pureA 20 35 (bz 37 2097151) rfl rfl (any_of HT_.out (by kernel_rfl)) ?_
               refine takeA 21 36 (bz 37 4194303) rfl rfl (take_ofW HT_.out HW_.out (by kernel_rfl)) hHeld (by rintro w' ⟨s0, s1, s2, s3, s4, s5, s6, s7, s8, s9⟩; go_simp; with_reducible rfl) ?_
               refine one_ (i := 22) (N := some 37) (bz 37 8388607) rfl rfl (one_of HT_.out (by kernel_rfl)) (by decide) (fun K hK => ?_)
               refine goes_ Try.func28 (by kernel_rfl) rfl #[.int .i64 ((rd_T45 l0 x10_1).f1), .int .i64 1, .int .i64 5] (by rfl) rfl rfl aE ?_
               with_reducible refine (spec_l1In.calls ((rd_T45 l0 x10_1).f1) 1 5 true _ A18.out).mono ?_
               rintro e w' ⟨rfl, ⟨nd, rfl⟩⟩
               refine ⟨_, rfl, ?_⟩
               refine hK.out _ _ ⟨cz BK113 0 _, cz BK113 1 _, cz BK113 2 _, cz BK113 3 _, cz BK113 4 _, ((HB.out.cell (World.block_lt_of_cell? w _ hw115_0)).trans hw115_0), ((HB.out.cell (World.block_lt_of_cell? w _ hw115_1)).trans hw115_1), ((HB.out.cell (World.block_lt_of_cell? w _ hw115_2)).trans hw115_2), ((HB.out.cell (World.block_lt_of_cell? w _ hw115_3)).trans hw115_3), ((HB.out.cell (World.block_lt_of_cell? w _ hw115_4)).trans hw115_4)⟩ (fun hHeld => ?_)
               clear hK K
               refine norm_ (a' := ?_) ?_ ?_
               rotate_left
               ·show Act.put _ (some 37) _ = _
                simp only [Act.put, List.setIfInBounds_toArray, List.set_cons_zero, List.set_cons_succ, i64_w, i32_w]
                rfl
               refine pureA 23 38 (bz 37 16777215) rfl rfl (any_of HT_.out (by kernel_rfl)) ?_
               refine pureA 24 39 (bz 37 33554431) rfl rfl (any_of HT_.out (by kernel_rfl)) ?_
               refine pureA 25 40 (bz 37 67108863) rfl rfl (any_of HT_.out (by kernel_rfl)) ?_
               refine pureA 26 41 (bz 37 134217727) rfl rfl (any_of HT_.out (by kernel_rfl)) ?_
               refine takeA 27 42 (bz 37 268435455) rfl rfl (take_ofW HT_.out HW_.out (by kernel_rfl)) hHeld (by rintro w' ⟨s0, s1, s2, s3, s4, s5, s6, s7, s8, s9⟩; go_simp; with_reducible rfl) ?_
               refine one_ (i := 28) (N := some 43) (bz 37 536870911) rfl rfl (one_of HT_.out (by kernel_rfl)) (by decide) (fun K hK => ?_)
               refine goes_ Try.func45 (by kernel_rfl) rfl #[.string ((rd_T45 l0 x10_1).f2)] (by rfl) rfl rfl aE ?_
               with_reducible refine (spec_GoodName.calls k1 ((rd_T45 l0 x10_1).f2) true _ A20.out).mono ?_
               rintro e w' ⟨rfl, ⟨nd, rfl⟩⟩
               refine ⟨_, rfl, ?_⟩
               refine hK.out _ _ ⟨cz BK113 0 _, cz BK113 1 _, cz BK113 2 _, cz BK113 3 _, cz BK113 4 _, ((HB.out.cell (World.block_lt_of_cell? w _ hw115_0)).trans hw115_0), ((HB.out.cell (World.block_lt_of_cell? w _ hw115_1)).trans hw115_1), ((HB.out.cell (World.block_lt_of_cell? w _ hw115_2)).trans hw115_2), ((HB.out.cell (World.block_lt_of_cell? w _ hw115_3)).trans hw115_3), ((HB.out.cell (World.block_lt_of_cell? w _ hw115_4)).trans hw115_4)⟩ (fun hHeld => ?_)
               clear hK K
               refine norm_ (a' := ?_) ?_ ?_
               rotate_left
               ·show Act.put _ (some 43) _ = _
                simp only [Act.put, List.setIfInBounds_toArray, List.set_cons_zero, List.set_cons_succ, i64_w, i32_w]
                rfl
               refine pureA 29 44 (bz 37 1073741823) rfl rfl (any_of HT_.out (by kernel_rfl)) ?_
               refine pureA 30 45 (bz 37 2147483647) rfl rfl (any_of HT_.out (by kernel_rfl)) ?_
               refine pureA 31 46 (bz 37 4294967295) rfl rfl (any_of HT_.out (by kernel_rfl)) ?_
               refine pureA 32 47 (bz 37 8589934591) rfl rfl (any_of HT_.out (by kernel_rfl)) ?_
               refine takeA 33 48 (bz 37 17179869183) rfl rfl (take_ofW HT_.out HW_.out (by kernel_rfl)) hHeld (by rintro w' ⟨s0, s1, s2, s3, s4, s5, s6, s7, s8, s9⟩; go_simp; with_reducible rfl) ?_
               refine one_ (i := 34) (N := some 49) (bz 37 34359738367) rfl rfl (one_of HT_.out (by kernel_rfl)) (by decide) (fun K hK => ?_)
               refine goes_ Try.func28 (by kernel_rfl) rfl #[.int .i64 ((rd_T45 l0 x10_1).f4), .int .i64 (-1000000), .int .i64 1000000] (by rfl) rfl rfl aE ?_
               with_reducible refine (spec_l1In.calls ((rd_T45 l0 x10_1).f4) (-1000000) 1000000 t118 _ A22.out).mono ?_
               rintro e w' ⟨rfl, ⟨nd, rfl⟩⟩
               refine ⟨_, rfl, ?_⟩
               refine hK.out _ _ ⟨cz BK113 0 _, cz BK113 1 _, cz BK113 2 _, cz BK113 3 _, cz BK113 4 _, ((HB.out.cell (World.block_lt_of_cell? w _ hw115_0)).trans hw115_0), ((HB.out.cell (World.block_lt_of_cell? w _ hw115_1)).trans hw115_1), ((HB.out.cell (World.block_lt_of_cell? w _ hw115_2)).trans hw115_2), ((HB.out.cell (World.block_lt_of_cell? w _ hw115_3)).trans hw115_3), ((HB.out.cell (World.block_lt_of_cell? w _ hw115_4)).trans hw115_4)⟩ (fun hHeld => ?_)
               clear hK K
               refine norm_ (a' := ?_) ?_ ?_
               rotate_left
               ·show Act.put _ (some 49) _ = _
                simp only [Act.put, List.setIfInBounds_toArray, List.set_cons_zero, List.set_cons_succ, i64_w, i32_w]
                rfl
               refine pureA 35 50 (bz 37 68719476735) rfl rfl (any_of HT_.out (by kernel_rfl)) ?_
               refine pureA 36 51 (bz 37 137438953471) rfl rfl (any_of HT_.out (by kernel_rfl)) ?_
               refine done_ (done_of HT_.out (by kernel_rfl)) ?_
               try go_wp2
               go_meet
               case rel => exact ⟨_, (!t118), tE, H', ⟨by have := HK1.out; first | omega | exact Nat.le_refl _⟩, ⟨by refine bU ?_; exact BK113.out⟩, ⟨by repeat (first | (with_reducible first | exact HB.out | apply below_alloc | apply pw_below_drewN | apply below_drew1 | refine below_set ?_ GE113.out) | exact HB.out)⟩⟩
              ·replace c21 := Bool.eq_false_iff.mpr c21
               subst c21
               have H1 : (spec_GoodChanges.j1 k1 l0 l0 (l0.length : Int) x10_1 true ((rd_T45 l0 x10_1).f0) ((rd_T45 l0 x10_1).f1) ((rd_T45 l0 x10_1).f2) ((rd_T45 l0 x10_1).f3) ((rd_T45 l0 x10_1).f4)) = some r := by rw [if_neg (show ¬ (false = true) by decide)] at H; exact H
               clear H
               have H := H1
               clear H1
               have H' := Aside0.mk H
               clear H
               try go_wp2
               replace BK113 := Aside0.mk (blk_drew BK113.out)
               replace HB := Aside0.mk (below_drew1 HB.out)
               have p115 : 0 ≤ ((ji13) : Int) := of_decide_eq_true hE
               have q115 : (ji13) < (l0.length : Int) := of_decide_eq_true hE
               obtain ⟨ad115, e115, hx115_0, hx115_1, hx115_2, hx115_3, hx115_4⟩ := at_T45 HR0.out (ji13) p115 q115
               have hw115_4 := hx115_4
               have hw115_3 := hx115_3
               have hw115_2 := hx115_2
               have hw115_1 := hx115_1
               have hw115_0 := hx115_0
               obtain rfl : ad112 = ad115 := (by injection e115)
               replace hx115_0 := (HB.out.cell (World.block_lt_of_cell? w _ hx115_0)).trans hx115_0
               replace hx115_1 := (HB.out.cell (World.block_lt_of_cell? w _ hx115_1)).trans hx115_1
               replace hx115_2 := (HB.out.cell (World.block_lt_of_cell? w _ hx115_2)).trans hx115_2
               replace hx115_3 := (HB.out.cell (World.block_lt_of_cell? w _ hx115_3)).trans hx115_3
               replace hx115_4 := (HB.out.cell (World.block_lt_of_cell? w _ hx115_4)).trans hx115_4
               replace p115 := eq_true p115
               replace q115 := eq_true q115
               refine start_ (n := 37) (S := fun w' => w'.cell? ⟨gb113, 0, none⟩ = some (.int .i64 ((rd_T45 l0 x10_1).f0)) ∧ w'.cell? ⟨gb113, 1, none⟩ = some (.int .i64 ((rd_T45 l0 x10_1).f1)) ∧ w'.cell? ⟨gb113, 2, none⟩ = some (.string ((rd_T45 l0 x10_1).f2)) ∧ w'.cell? ⟨gb113, 3, none⟩ = some (.string ((rd_T45 l0 x10_1).f3)) ∧ w'.cell? ⟨gb113, 4, none⟩ = some (.int .i64 ((rd_T45 l0 x10_1).f4)) ∧ w'.cell? (ad112.add (((ji13)).toNat * 5)) = some (.int .i64 ((rd_T45 l0 (ji13)).f0)) ∧ w'.cell? ⟨(ad112.add (((ji13)).toNat * 5)).block, (ad112.add (((ji13)).toNat * 5)).off + 1, none⟩ = some (.int .i64 ((rd_T45 l0 (ji13)).f1)) ∧ w'.cell? ⟨(ad112.add (((ji13)).toNat * 5)).block, (ad112.add (((ji13)).toNat * 5)).off + 2, none⟩ = some (.string ((rd_T45 l0 (ji13)).f2)) ∧ w'.cell? ⟨(ad112.add (((ji13)).toNat * 5)).block, (ad112.add (((ji13)).toNat * 5)).off + 3, none⟩ = some (.string ((rd_T45 l0 (ji13)).f3)) ∧ w'.cell? ⟨(ad112.add (((ji13)).toNat * 5)).block, (ad112.add (((ji13)).toNat * 5)).off + 4, none⟩ = some (.int .i64 ((rd_T45 l0 (ji13)).f4))) (ds := []) #[false, false, false, false, false, false, false, false, false, false, false, false, false, false, false, false, false, false, false, false, false, false, false, false, false, false, false, false, false, false, false, false, false, false, false, false, false] (by kernel_rfl) rfl rfl ⟨cz BK113 0 _, cz BK113 1 _, cz BK113 2 _, cz BK113 3 _, cz BK113 4 _, ((HB.out.cell (World.block_lt_of_cell? w _ hw115_0)).trans hw115_0), ((HB.out.cell (World.block_lt_of_cell? w _ hw115_1)).trans hw115_1), ((HB.out.cell (World.block_lt_of_cell? w _ hw115_2)).trans hw115_2), ((HB.out.cell (World.block_lt_of_cell? w _ hw115_3)).trans hw115_3), ((HB.out.cell (World.block_lt_of_cell? w _ hw115_4)).trans hw115_4)⟩ (fun hHeld => ?_); refine with_tabW spec_GoodChanges.tab6 spec_GoodChanges.bits6 (fun HT_ HW_ => ?_)
               generalize w9.drew = w24 at BK113 HB hx115_0 hx115_1 hx115_2 hx115_3 hx115_4 hHeld ⊢
               refine pureA 0 15 (bz 37 1) rfl rfl (any_of HT_.out (by kernel_rfl)) ?_
               refine takeA 1 16 (bz 37 3) rfl rfl (take_ofW HT_.out HW_.out (by kernel_rfl)) hHeld (by rintro w' ⟨s0, s1, s2, s3, s4, s5, s6, s7, s8, s9⟩; go_simp; with_reducible rfl) ?_
               refine one_ (i := 2) (N := some 17) (bz 37 7) rfl rfl (one_of HT_.out (by kernel_rfl)) (by decide) (fun K hK => ?_)
               refine goes_ Try.func28 (by kernel_rfl) rfl #[.int .i64 ((rd_T45 l0 x10_1).f0), .int .i64 1, .int .i64 2] (by rfl) rfl rfl aE ?_
               with_reducible refine (spec_l1In.calls ((rd_T45 l0 x10_1).f0) 1 2 true _ A10.out).mono ?_
               rintro e w' ⟨rfl, ⟨nd, rfl⟩⟩
               refine ⟨_, rfl, ?_⟩
               refine hK.out _ _ ⟨cz BK113 0 _, cz BK113 1 _, cz BK113 2 _, cz BK113 3 _, cz BK113 4 _, ((HB.out.cell (World.block_lt_of_cell? w _ hw115_0)).trans hw115_0), ((HB.out.cell (World.block_lt_of_cell? w _ hw115_1)).trans hw115_1), ((HB.out.cell (World.block_lt_of_cell? w _ hw115_2)).trans hw115_2), ((HB.out.cell (World.block_lt_of_cell? w _ hw115_3)).trans hw115_3), ((HB.out.cell (World.block_lt_of_cell? w _ hw115_4)).trans hw115_4)⟩ (fun hHeld => ?_)
               clear hK K
               refine norm_ (a' := ?_) ?_ ?_
               rotate_left
               ·show Act.put _ (some 17) _ = _
                simp only [Act.put, List.setIfInBounds_toArray, List.set_cons_zero, List.set_cons_succ, i64_w, i32_w]
                rfl
               refine pureA 3 18 (bz 37 15) rfl rfl (any_of HT_.out (by kernel_rfl)) ?_
               refine pureA 4 19 (bz 37 31) rfl rfl (any_of HT_.out (by kernel_rfl)) ?_
               refine pureA 5 20 (bz 37 63) rfl rfl (any_of HT_.out (by kernel_rfl)) ?_
               refine pureA 6 21 (bz 37 127) rfl rfl (any_of HT_.out (by kernel_rfl)) ?_
               refine pureA 7 22 (bz 37 255) rfl rfl (any_of HT_.out (by kernel_rfl)) ?_
               refine pureA 8 23 (bz 37 511) rfl rfl (any_of HT_.out (by kernel_rfl)) ?_
               refine pureA 9 24 (bz 37 1023) rfl rfl (any_of HT_.out (by kernel_rfl)) ?_
               refine pureA 10 25 (bz 37 2047) rfl rfl (any_of HT_.out (by kernel_rfl)) ?_
               refine pureA 11 26 (bz 37 4095) rfl rfl (any_of HT_.out (by kernel_rfl)) ?_
               refine pureA 12 27 (bz 37 8191) rfl rfl (any_of HT_.out (by kernel_rfl)) ?_
               refine pureA 14 29 (bz 37 24575) rfl rfl (any_of HT_.out (by kernel_rfl)) ?_
               refine takeA 13 28 (bz 37 32767) rfl rfl (take_ofW HT_.out HW_.out (by kernel_rfl)) hHeld (by rintro w' ⟨s0, s1, s2, s3, s4, s5, s6, s7, s8, s9⟩; go_simp; with_reducible rfl) ?_
               refine takeA 15 30 (bz 37 65535) rfl rfl (take_ofW HT_.out HW_.out (by kernel_rfl)) hHeld (by rintro w' ⟨s0, s1, s2, s3, s4, s5, s6, s7, s8, s9⟩; go_simp; with_reducible rfl) ?_
               refine pureA 16 31 (bz 37 131071) rfl rfl (any_of HT_.out (by kernel_rfl)) ?_
               refine pureA 17 32 (bz 37 262143) rfl rfl (any_of HT_.out (by kernel_rfl)) ?_
               refine pureA 18 33 (bz 37 524287) rfl rfl (any_of HT_.out (by kernel_rfl)) ?_
               refine pureA 19 34 (bz 37 1048575) rfl rfl (any_of HT_.out (by kernel_rfl)) ?_
               refine pureA 20 35 (bz 37 2097151) rfl rfl (any_of HT_.out (by kernel_rfl)) ?_
               refine takeA 21 36 (bz 37 4194303) rfl rfl (take_ofW HT_.out HW_.out (by kernel_rfl)) hHeld (by rintro w' ⟨s0, s1, s2, s3, s4, s5, s6, s7, s8, s9⟩; go_simp; with_reducible rfl) ?_
               refine one_ (i := 22) (N := some 37) (bz 37 8388607) rfl rfl (one_of HT_.out (by kernel_rfl)) (by decide) (fun K hK => ?_)
               refine goes_ Try.func28 (by kernel_rfl) rfl #[.int .i64 ((rd_T45 l0 x10_1).f1), .int .i64 1, .int .i64 5] (by rfl) rfl rfl aE ?_
               with_reducible refine (spec_l1In.calls ((rd_T45 l0 x10_1).f1) 1 5 true _ A18.out).mono ?_
               rintro e w' ⟨rfl, ⟨nd, rfl⟩⟩
               refine ⟨_, rfl, ?_⟩
               refine hK.out _ _ ⟨cz BK113 0 _, cz BK113 1 _, cz BK113 2 _, cz BK113 3 _, cz BK113 4 _, ((HB.out.cell (World.block_lt_of_cell? w _ hw115_0)).trans hw115_0), ((HB.out.cell (World.block_lt_of_cell? w _ hw115_1)).trans hw115_1), ((HB.out.cell (World.block_lt_of_cell? w _ hw115_2)).trans hw115_2), ((HB.out.cell (World.block_lt_of_cell? w _ hw115_3)).trans hw115_3), ((HB.out.cell (World.block_lt_of_cell? w _ hw115_4)).trans hw115_4)⟩ (fun hHeld => ?_)
               clear hK K
               refine norm_ (a' := ?_) ?_ ?_
               rotate_left
               ·show Act.put _ (some 37) _ = _
                simp only [Act.put, List.setIfInBounds_toArray, List.set_cons_zero, List.set_cons_succ, i64_w, i32_w]
                rfl
               refine pureA 23 38 (bz 37 16777215) rfl rfl (any_of HT_.out (by kernel_rfl)) ?_
               refine pureA 24 39 (bz 37 33554431) rfl rfl (any_of HT_.out (by kernel_rfl)) ?_
               refine pureA 25 40 (bz 37 67108863) rfl rfl (any_of HT_.out (by kernel_rfl)) ?_
               refine pureA 26 41 (bz 37 134217727) rfl rfl (any_of HT_.out (by kernel_rfl)) ?_
               refine takeA 27 42 (bz 37 268435455) rfl rfl (take_ofW HT_.out HW_.out (by kernel_rfl)) hHeld (by rintro w' ⟨s0, s1, s2, s3, s4, s5, s6, s7, s8, s9⟩; go_simp; with_reducible rfl) ?_
               refine one_ (i := 28) (N := some 43) (bz 37 536870911) rfl rfl (one_of HT_.out (by kernel_rfl)) (by decide) (fun K hK => ?_)
               refine goes_ Try.func45 (by kernel_rfl) rfl #[.string ((rd_T45 l0 x10_1).f2)] (by rfl) rfl rfl aE ?_
               with_reducible refine (spec_GoodName.calls k1 ((rd_T45 l0 x10_1).f2) false _ A20.out).mono ?_
               rintro e w' ⟨rfl, ⟨nd, rfl⟩⟩
               refine ⟨_, rfl, ?_⟩
               refine hK.out _ _ ⟨cz BK113 0 _, cz BK113 1 _, cz BK113 2 _, cz BK113 3 _, cz BK113 4 _, ((HB.out.cell (World.block_lt_of_cell? w _ hw115_0)).trans hw115_0), ((HB.out.cell (World.block_lt_of_cell? w _ hw115_1)).trans hw115_1), ((HB.out.cell (World.block_lt_of_cell? w _ hw115_2)).trans hw115_2), ((HB.out.cell (World.block_lt_of_cell? w _ hw115_3)).trans hw115_3), ((HB.out.cell (World.block_lt_of_cell? w _ hw115_4)).trans hw115_4)⟩ (fun hHeld => ?_)
               clear hK K
               refine norm_ (a' := ?_) ?_ ?_
               rotate_left
               ·show Act.put _ (some 43) _ = _
                simp only [Act.put, List.setIfInBounds_toArray, List.set_cons_zero, List.set_cons_succ, i64_w, i32_w]
                rfl
               refine pureA 29 44 (bz 37 1073741823) rfl rfl (any_of HT_.out (by kernel_rfl)) ?_
               refine pureA 30 45 (bz 37 2147483647) rfl rfl (any_of HT_.out (by kernel_rfl)) ?_
               refine pureA 31 46 (bz 37 4294967295) rfl rfl (any_of HT_.out (by kernel_rfl)) ?_
               refine pureU 32 47 (bz 37 8589934591) rfl rfl (any_of HT_.out (by kernel_rfl)) ?_
               refine pureU 33 48 (bz 37 17179869183) rfl rfl (any_of HT_.out (by kernel_rfl)) ?_
               refine pureU 34 49 (bz 37 34359738367) rfl rfl (any_of HT_.out (by kernel_rfl)) ?_
               refine pureU 35 50 (bz 37 68719476735) rfl rfl (any_of HT_.out (by kernel_rfl)) ?_
               refine pureA 36 51 (bz 37 137438953471) rfl rfl (any_of HT_.out (by kernel_rfl)) ?_
               refine done_ (done_of HT_.out (by kernel_rfl)) ?_
               try go_wp2
               go_meet
               case rel => exact ⟨_, (true), tE, H', ⟨by have := HK1.out; first | omega | exact Nat.le_refl _⟩, ⟨by refine bU ?_; exact BK113.out⟩, ⟨by repeat (first | (with_reducible first | exact HB.out | apply below_alloc | apply pw_below_drewN | apply below_drew1 | refine below_set ?_ GE113.out) | exact HB.out)⟩⟩
             ·replace c19 := Bool.eq_false_iff.mpr c19
              subst c19
              have H1 : (spec_GoodChanges.j1 k1 l0 l0 (l0.length : Int) x10_1 true ((rd_T45 l0 x10_1).f0) ((rd_T45 l0 x10_1).f1) ((rd_T45 l0 x10_1).f2) ((rd_T45 l0 x10_1).f3) ((rd_T45 l0 x10_1).f4)) = some r := by rw [if_neg (show ¬ (false = true) by decide)] at H; exact H
              clear H
              have H := H1
              clear H1
              have H' := Aside0.mk H
              clear H
              try go_wp2
              replace BK113 := Aside0.mk (blk_drew BK113.out)
              replace HB := Aside0.mk (below_drew1 HB.out)
              have p115 : 0 ≤ ((ji13) : Int) := of_decide_eq_true hE
              have q115 : (ji13) < (l0.length : Int) := of_decide_eq_true hE
              obtain ⟨ad115, e115, hx115_0, hx115_1, hx115_2, hx115_3, hx115_4⟩ := at_T45 HR0.out (ji13) p115 q115
              have hw115_4 := hx115_4
              have hw115_3 := hx115_3
              have hw115_2 := hx115_2
              have hw115_1 := hx115_1
              have hw115_0 := hx115_0
              obtain rfl : ad112 = ad115 := (by injection e115)
              replace hx115_0 := (HB.out.cell (World.block_lt_of_cell? w _ hx115_0)).trans hx115_0
              replace hx115_1 := (HB.out.cell (World.block_lt_of_cell? w _ hx115_1)).trans hx115_1
              replace hx115_2 := (HB.out.cell (World.block_lt_of_cell? w _ hx115_2)).trans hx115_2
              replace hx115_3 := (HB.out.cell (World.block_lt_of_cell? w _ hx115_3)).trans hx115_3
              replace hx115_4 := (HB.out.cell (World.block_lt_of_cell? w _ hx115_4)).trans hx115_4
              replace p115 := eq_true p115
              replace q115 := eq_true q115
              refine start_ (n := 37) (S := fun w' => w'.cell? ⟨gb113, 0, none⟩ = some (.int .i64 ((rd_T45 l0 x10_1).f0)) ∧ w'.cell? ⟨gb113, 1, none⟩ = some (.int .i64 ((rd_T45 l0 x10_1).f1)) ∧ w'.cell? ⟨gb113, 2, none⟩ = some (.string ((rd_T45 l0 x10_1).f2)) ∧ w'.cell? ⟨gb113, 3, none⟩ = some (.string ((rd_T45 l0 x10_1).f3)) ∧ w'.cell? ⟨gb113, 4, none⟩ = some (.int .i64 ((rd_T45 l0 x10_1).f4)) ∧ w'.cell? (ad112.add (((ji13)).toNat * 5)) = some (.int .i64 ((rd_T45 l0 (ji13)).f0)) ∧ w'.cell? ⟨(ad112.add (((ji13)).toNat * 5)).block, (ad112.add (((ji13)).toNat * 5)).off + 1, none⟩ = some (.int .i64 ((rd_T45 l0 (ji13)).f1)) ∧ w'.cell? ⟨(ad112.add (((ji13)).toNat * 5)).block, (ad112.add (((ji13)).toNat * 5)).off + 2, none⟩ = some (.string ((rd_T45 l0 (ji13)).f2)) ∧ w'.cell? ⟨(ad112.add (((ji13)).toNat * 5)).block, (ad112.add (((ji13)).toNat * 5)).off + 3, none⟩ = some (.string ((rd_T45 l0 (ji13)).f3)) ∧ w'.cell? ⟨(ad112.add (((ji13)).toNat * 5)).block, (ad112.add (((ji13)).toNat * 5)).off + 4, none⟩ = some (.int .i64 ((rd_T45 l0 (ji13)).f4))) (ds := []) #[false, false, false, false, false, false, false, false, false, false, false, false, false, false, false, false, false, false, false, false, false, false, false, false, false, false, false, false, false, false, false, false, false, false, false, false, false] (by kernel_rfl) rfl rfl ⟨cz BK113 0 _, cz BK113 1 _, cz BK113 2 _, cz BK113 3 _, cz BK113 4 _, ((HB.out.cell (World.block_lt_of_cell? w _ hw115_0)).trans hw115_0), ((HB.out.cell (World.block_lt_of_cell? w _ hw115_1)).trans hw115_1), ((HB.out.cell (World.block_lt_of_cell? w _ hw115_2)).trans hw115_2), ((HB.out.cell (World.block_lt_of_cell? w _ hw115_3)).trans hw115_3), ((HB.out.cell (World.block_lt_of_cell? w _ hw115_4)).trans hw115_4)⟩ (fun hHeld => ?_); refine with_tabW spec_GoodChanges.tab6 spec_GoodChanges.bits6 (fun HT_ HW_ => ?_)
              generalize w9.drew = w25 at BK113 HB hx115_0 hx115_1 hx115_2 hx115_3 hx115_4 hHeld ⊢
              refine pureA 0 15 (bz 37 1) rfl rfl (any_of HT_.out (by kernel_rfl)) ?_
              refine takeA 1 16 (bz 37 3) rfl rfl (take_ofW HT_.out HW_.out (by kernel_rfl)) hHeld (by rintro w' ⟨s0, s1, s2, s3, s4, s5, s6, s7, s8, s9⟩; go_simp; with_reducible rfl) ?_
              refine one_ (i := 2) (N := some 17) (bz 37 7) rfl rfl (one_of HT_.out (by kernel_rfl)) (by decide) (fun K hK => ?_)
              refine goes_ Try.func28 (by kernel_rfl) rfl #[.int .i64 ((rd_T45 l0 x10_1).f0), .int .i64 1, .int .i64 2] (by rfl) rfl rfl aE ?_
              with_reducible refine (spec_l1In.calls ((rd_T45 l0 x10_1).f0) 1 2 true _ A10.out).mono ?_
              rintro e w' ⟨rfl, ⟨nd, rfl⟩⟩
              refine ⟨_, rfl, ?_⟩
              refine hK.out _ _ ⟨cz BK113 0 _, cz BK113 1 _, cz BK113 2 _, cz BK113 3 _, cz BK113 4 _, ((HB.out.cell (World.block_lt_of_cell? w _ hw115_0)).trans hw115_0), ((HB.out.cell (World.block_lt_of_cell? w _ hw115_1)).trans hw115_1), ((HB.out.cell (World.block_lt_of_cell? w _ hw115_2)).trans hw115_2), ((HB.out.cell (World.block_lt_of_cell? w _ hw115_3)).trans hw115_3), ((HB.out.cell (World.block_lt_of_cell? w _ hw115_4)).trans hw115_4)⟩ (fun hHeld => ?_)
              clear hK K
              refine norm_ (a' := ?_) ?_ ?_
              rotate_left
              ·show Act.put _ (some 17) _ = _
               simp only [Act.put, List.setIfInBounds_toArray, List.set_cons_zero, List.set_cons_succ, i64_w, i32_w]
               rfl
              refine pureA 3 18 (bz 37 15) rfl rfl (any_of HT_.out (by kernel_rfl)) ?_
              refine pureA 4 19 (bz 37 31) rfl rfl (any_of HT_.out (by kernel_rfl)) ?_
              refine pureA 5 20 (bz 37 63) rfl rfl (any_of HT_.out (by kernel_rfl)) ?_
              refine pureA 6 21 (bz 37 127) rfl rfl (any_of HT_.out (by kernel_rfl)) ?_
              refine pureA 7 22 (bz 37 255) rfl rfl (any_of HT_.out (by kernel_rfl)) ?_
              refine pureA 8 23 (bz 37 511) rfl rfl (any_of HT_.out (by kernel_rfl)) ?_
              refine pureA 9 24 (bz 37 1023) rfl rfl (any_of HT_.out (by kernel_rfl)) ?_
              refine pureA 10 25 (bz 37 2047) rfl rfl (any_of HT_.out (by kernel_rfl)) ?_
              refine pureA 11 26 (bz 37 4095) rfl rfl (any_of HT_.out (by kernel_rfl)) ?_
              refine pureA 12 27 (bz 37 8191) rfl rfl (any_of HT_.out (by kernel_rfl)) ?_
              refine pureA 14 29 (bz 37 24575) rfl rfl (any_of HT_.out (by kernel_rfl)) ?_
              refine takeA 13 28 (bz 37 32767) rfl rfl (take_ofW HT_.out HW_.out (by kernel_rfl)) hHeld (by rintro w' ⟨s0, s1, s2, s3, s4, s5, s6, s7, s8, s9⟩; go_simp; with_reducible rfl) ?_
              refine takeA 15 30 (bz 37 65535) rfl rfl (take_ofW HT_.out HW_.out (by kernel_rfl)) hHeld (by rintro w' ⟨s0, s1, s2, s3, s4, s5, s6, s7, s8, s9⟩; go_simp; with_reducible rfl) ?_
              refine pureA 16 31 (bz 37 131071) rfl rfl (any_of HT_.out (by kernel_rfl)) ?_
              refine pureA 17 32 (bz 37 262143) rfl rfl (any_of HT_.out (by kernel_rfl)) ?_
              refine pureA 18 33 (bz 37 524287) rfl rfl (any_of HT_.out (by kernel_rfl)) ?_
              refine pureA 19 34 (bz 37 1048575) rfl rfl (any_of HT_.out (by kernel_rfl)) ?_
              refine pureA 20 35 (bz 37 2097151) rfl rfl (any_of HT_.out (by kernel_rfl)) ?_
              refine takeA 21 36 (bz 37 4194303) rfl rfl (take_ofW HT_.out HW_.out (by kernel_rfl)) hHeld (by rintro w' ⟨s0, s1, s2, s3, s4, s5, s6, s7, s8, s9⟩; go_simp; with_reducible rfl) ?_
              refine one_ (i := 22) (N := some 37) (bz 37 8388607) rfl rfl (one_of HT_.out (by kernel_rfl)) (by decide) (fun K hK => ?_)
              refine goes_ Try.func28 (by kernel_rfl) rfl #[.int .i64 ((rd_T45 l0 x10_1).f1), .int .i64 1, .int .i64 5] (by rfl) rfl rfl aE ?_
              with_reducible refine (spec_l1In.calls ((rd_T45 l0 x10_1).f1) 1 5 false _ A18.out).mono ?_
              rintro e w' ⟨rfl, ⟨nd, rfl⟩⟩
              refine ⟨_, rfl, ?_⟩
              refine hK.out _ _ ⟨cz BK113 0 _, cz BK113 1 _, cz BK113 2 _, cz BK113 3 _, cz BK113 4 _, ((HB.out.cell (World.block_lt_of_cell? w _ hw115_0)).trans hw115_0), ((HB.out.cell (World.block_lt_of_cell? w _ hw115_1)).trans hw115_1), ((HB.out.cell (World.block_lt_of_cell? w _ hw115_2)).trans hw115_2), ((HB.out.cell (World.block_lt_of_cell? w _ hw115_3)).trans hw115_3), ((HB.out.cell (World.block_lt_of_cell? w _ hw115_4)).trans hw115_4)⟩ (fun hHeld => ?_)
              clear hK K
              refine norm_ (a' := ?_) ?_ ?_
              rotate_left
              ·show Act.put _ (some 37) _ = _
               simp only [Act.put, List.setIfInBounds_toArray, List.set_cons_zero, List.set_cons_succ, i64_w, i32_w]
               rfl
              refine pureA 23 38 (bz 37 16777215) rfl rfl (any_of HT_.out (by kernel_rfl)) ?_
              refine pureA 24 39 (bz 37 33554431) rfl rfl (any_of HT_.out (by kernel_rfl)) ?_
              refine pureA 25 40 (bz 37 67108863) rfl rfl (any_of HT_.out (by kernel_rfl)) ?_
              refine pureU 26 41 (bz 37 134217727) rfl rfl (any_of HT_.out (by kernel_rfl)) ?_
              refine pureU 27 42 (bz 37 268435455) rfl rfl (any_of HT_.out (by kernel_rfl)) ?_
              refine pureU 28 43 (bz 37 536870911) rfl rfl (any_of HT_.out (by kernel_rfl)) ?_
              refine pureU 29 44 (bz 37 1073741823) rfl rfl (any_of HT_.out (by kernel_rfl)) ?_
              refine pureA 30 45 (bz 37 2147483647) rfl rfl (any_of HT_.out (by kernel_rfl)) ?_
              refine pureA 31 46 (bz 37 4294967295) rfl rfl (any_of HT_.out (by kernel_rfl)) ?_
              refine pureU 32 47 (bz 37 8589934591) rfl rfl (any_of HT_.out (by kernel_rfl)) ?_
              refine pureU 33 48 (bz 37 17179869183) rfl rfl (any_of HT_.out (by kernel_rfl)) ?_
              refine pureU 34 49 (bz 37 34359738367) rfl rfl (any_of HT_.out (by kernel_rfl)) ?_
              refine pureU 35 50 (bz 37 68719476735) rfl rfl (any_of HT_.out (by kernel_rfl)) ?_
              refine pureA 36 51 (bz 37 137438953471) rfl rfl (any_of HT_.out (by kernel_rfl)) ?_
              refine done_ (done_of HT_.out (by kernel_rfl)) ?_
              try go_wp2
              go_meet
              case rel => exact ⟨_, (true), tE, H', ⟨by have := HK1.out; first | omega | exact Nat.le_refl _⟩, ⟨by refine bU ?_; exact BK113.out⟩, ⟨by repeat (first | (with_reducible first | exact HB.out | apply below_alloc | apply pw_below_drewN | apply below_drew1 | refine below_set ?_ GE113.out) | exact HB.out)⟩⟩
           ·rw [if_neg c15] at H
            exact absurd H (by simp)
          ·rw [if_neg c14] at H
           exact absurd H (by simp)
         ·rw [if_neg c12] at H
          have c12b0 : decide (0 < x10_1) = false := decide_eq_false c12
          clear c12
          (first | rw [c12b0] | (simp only [i64_w, i32_w]; rw [c12b0]) | (rw [c12b2]; simp only [Bool.not_false, Bool.not_true]) | skip)
          replace H := Option.bind_eq_some_iff.mp H
          obtain ⟨t119, A260, H⟩ := H
          replace H : (if t119 = true then ((spec_GoodName.f k1 ((rd_T45 l0 x10_1).f2)).bind fun t120 => (if t120 = true then ((spec_l1In.f ((rd_T45 l0 x10_1).f4) (-1000000) 1000000).bind fun t121 => (spec_GoodChanges.j1 k1 l0 l0 (l0.length : Int) x10_1 (!t121) ((rd_T45 l0 x10_1).f0) ((rd_T45 l0 x10_1).f1) ((rd_T45 l0 x10_1).f2) ((rd_T45 l0 x10_1).f3) ((rd_T45 l0 x10_1).f4))) else (spec_GoodChanges.j1 k1 l0 l0 (l0.length : Int) x10_1 true ((rd_T45 l0 x10_1).f0) ((rd_T45 l0 x10_1).f1) ((rd_T45 l0 x10_1).f2) ((rd_T45 l0 x10_1).f3) ((rd_T45 l0 x10_1).f4)))) else (spec_GoodChanges.j1 k1 l0 l0 (l0.length : Int) x10_1 true ((rd_T45 l0 x10_1).f0) ((rd_T45 l0 x10_1).f1) ((rd_T45 l0 x10_1).f2) ((rd_T45 l0 x10_1).f3) ((rd_T45 l0 x10_1).f4))) = some r := H
          have A26 := Aside0.mk A260
          clear A260
          by_cases c27 : t119 = true
          ·subst c27
           have H1 : ((spec_GoodName.f k1 ((rd_T45 l0 x10_1).f2)).bind fun t120 => (if t120 = true then ((spec_l1In.f ((rd_T45 l0 x10_1).f4) (-1000000) 1000000).bind fun t121 => (spec_GoodChanges.j1 k1 l0 l0 (l0.length : Int) x10_1 (!t121) ((rd_T45 l0 x10_1).f0) ((rd_T45 l0 x10_1).f1) ((rd_T45 l0 x10_1).f2) ((rd_T45 l0 x10_1).f3) ((rd_T45 l0 x10_1).f4))) else (spec_GoodChanges.j1 k1 l0 l0 (l0.length : Int) x10_1 true ((rd_T45 l0 x10_1).f0) ((rd_T45 l0 x10_1).f1) ((rd_T45 l0 x10_1).f2) ((rd_T45 l0 x10_1).f3) ((rd_T45 l0 x10_1).f4)))) = some r := by rw [if_pos rfl] at H; exact H
           clear H
           have H := H1
           clear H1
           replace H := Option.bind_eq_some_iff.mp H
           obtain ⟨t120, A280, H⟩ := H
           replace H : (if t120 = true then ((spec_l1In.f ((rd_T45 l0 x10_1).f4) (-1000000) 1000000).bind fun t121 => (spec_GoodChanges.j1 k1 l0 l0 (l0.length : Int) x10_1 (!t121) ((rd_T45 l0 x10_1).f0) ((rd_T45 l0 x10_1).f1) ((rd_T45 l0 x10_1).f2) ((rd_T45 l0 x10_1).f3) ((rd_T45 l0 x10_1).f4))) else (spec_GoodChanges.j1 k1 l0 l0 (l0.length : Int) x10_1 true ((rd_T45 l0 x10_1).f0) ((rd_T45 l0 x10_1).f1) ((rd_T45 l0 x10_1).f2) ((rd_T45 l0 x10_1).f3) ((rd_T45 l0 x10_1).f4))) = some r := H
           have A28 := Aside0.mk A280
           clear A280
           by_cases c29 : t120 = true
           ·subst c29
            have H1 : ((spec_l1In.f ((rd_T45 l0 x10_1).f4) (-1000000) 1000000).bind fun t121 => (spec_GoodChanges.j1 k1 l0 l0 (l0.length : Int) x10_1 (!t121) ((rd_T45 l0 x10_1).f0) ((rd_T45 l0 x10_1).f1) ((rd_T45 l0 x10_1).f2) ((rd_T45 l0 x10_1).f3) ((rd_T45 l0 x10_1).f4))) = some r := by rw [if_pos rfl] at H; exact H
            clear H
            have H := H1
            clear H1
            replace H := Option.bind_eq_some_iff.mp H
            obtain ⟨t121, A300, H⟩ := H
            replace H : (spec_GoodChanges.j1 k1 l0 l0 (l0.length : Int) x10_1 (!t121) ((rd_T45 l0 x10_1).f0) ((rd_T45 l0 x10_1).f1) ((rd_T45 l0 x10_1).f2) ((rd_T45 l0 x10_1).f3) ((rd_T45 l0 x10_1).f4)) = some r := H
            have A30 := Aside0.mk A300
            clear A300
            have H' := Aside0.mk H
            clear H
            try go_wp2
            replace BK113 := Aside0.mk (blk_drew BK113.out)
            replace HB := Aside0.mk (below_drew1 HB.out)
            refine start_ (n := 37) (S := fun w' => w'.cell? ⟨gb113, 0, none⟩ = some (.int .i64 ((rd_T45 l0 x10_1).f0)) ∧ w'.cell? ⟨gb113, 1, none⟩ = some (.int .i64 ((rd_T45 l0 x10_1).f1)) ∧ w'.cell? ⟨gb113, 2, none⟩ = some (.string ((rd_T45 l0 x10_1).f2)) ∧ w'.cell? ⟨gb113, 3, none⟩ = some (.string ((rd_T45 l0 x10_1).f3)) ∧ w'.cell? ⟨gb113, 4, none⟩ = some (.int .i64 ((rd_T45 l0 x10_1).f4))) (ds := []) #[false, false, false, false, false, false, false, false, false, false, false, false, false, false, false, false, false, false, false, false, false, false, false, false, false, false, false, false, false, false, false, false, false, false, false, false, false] (by kernel_rfl) rfl rfl ⟨cz BK113 0 _, cz BK113 1 _, cz BK113 2 _, cz BK113 3 _, cz BK113 4 _⟩ (fun hHeld => ?_); refine with_tabW spec_GoodChanges.tab6 spec_GoodChanges.bits6 (fun HT_ HW_ => ?_)
            generalize w9.drew = w31 at BK113 HB hHeld ⊢
            refine pureA 0 15 (bz 37 1) rfl rfl (any_of HT_.out (by kernel_rfl)) ?_
            refine takeA 1 16 (bz 37 3) rfl rfl (take_ofW HT_.out HW_.out (by kernel_rfl)) hHeld (by rintro w' ⟨s0, s1, s2, s3, s4⟩; go_simp; with_reducible rfl) ?_
            refine one_ (i := 2) (N := some 17) (bz 37 7) rfl rfl (one_of HT_.out (by kernel_rfl)) (by decide) (fun K hK => ?_)
            refine goes_ Try.func28 (by kernel_rfl) rfl #[.int .i64 ((rd_T45 l0 x10_1).f0), .int .i64 1, .int .i64 2] (by rfl) rfl rfl aE ?_
            with_reducible refine (spec_l1In.calls ((rd_T45 l0 x10_1).f0) 1 2 true _ A10.out).mono ?_
            rintro e w' ⟨rfl, ⟨nd, rfl⟩⟩
            refine ⟨_, rfl, ?_⟩
            refine hK.out _ _ ⟨cz BK113 0 _, cz BK113 1 _, cz BK113 2 _, cz BK113 3 _, cz BK113 4 _⟩ (fun hHeld => ?_)
            clear hK K
            refine norm_ (a' := ?_) ?_ ?_
            rotate_left
            ·show Act.put _ (some 17) _ = _
             simp only [Act.put, List.setIfInBounds_toArray, List.set_cons_zero, List.set_cons_succ, i64_w, i32_w]
             rfl
            refine pureA 3 18 (bz 37 15) rfl rfl (any_of HT_.out (by kernel_rfl)) ?_
            refine pureA 4 19 (bz 37 31) rfl rfl (any_of HT_.out (by kernel_rfl)) ?_
            refine pureA 5 20 (bz 37 63) rfl rfl (any_of HT_.out (by kernel_rfl)) ?_
            refine pureA 6 21 (bz 37 127) rfl rfl (any_of HT_.out (by kernel_rfl)) ?_
            refine pureA 7 22 (bz 37 255) rfl rfl (any_of HT_.out (by kernel_rfl)) ?_
            refine pureU 8 23 (bz 37 511) rfl rfl (any_of HT_.out (by kernel_rfl)) ?_
            refine pureU 9 24 (bz 37 1023) rfl rfl (any_of HT_.out (by kernel_rfl)) ?_
            refine pureU 10 25 (bz 37 2047) rfl rfl (any_of HT_.out (by kernel_rfl)) ?_
            refine pureU 11 26 (bz 37 4095) rfl rfl (any_of HT_.out (by kernel_rfl)) ?_
            refine pureU 12 27 (bz 37 8191) rfl rfl (any_of HT_.out (by kernel_rfl)) ?_
            refine pureU 13 28 (bz 37 16383) rfl rfl (any_of HT_.out (by kernel_rfl)) ?_
            refine pureU 14 29 (bz 37 32767) rfl rfl (any_of HT_.out (by kernel_rfl)) ?_
            refine pureU 15 30 (bz 37 65535) rfl rfl (any_of HT_.out (by kernel_rfl)) ?_
            refine pureU 16 31 (bz 37 131071) rfl rfl (any_of HT_.out (by kernel_rfl)) ?_
            refine pureA 17 32 (bz 37 262143) rfl rfl (any_of HT_.out (by kernel_rfl)) ?_
            refine pureA 18 33 (bz 37 524287) rfl rfl (any_of HT_.out (by kernel_rfl)) ?_
            refine pureA 19 34 (bz 37 1048575) rfl rfl (any_of HT_.out (by kernel_rfl)) ?_
            refine pureA 20 35 (bz 37 2097151) rfl rfl (any_of HT_.out (by kernel_rfl)) ?_
            refine takeA 21 36 (bz 37 4194303) rfl rfl (take_ofW HT_.out HW_.out (by kernel_rfl)) hHeld (by rintro w' ⟨s0, s1, s2, s3, s4⟩; go_simp; with_reducible rfl) ?_
            refine one_ (i := 22) (N := some 37) (bz 37 8388607) rfl rfl (one_of HT_.out (by kernel_rfl)) (by decide) (fun K hK => ?_)
            refine goes_ Try.func28 (by kernel_rfl) rfl #[.int .i64 ((rd_T45 l0 x10_1).f1), .int .i64 1, .int .i64 5] (by rfl) rfl rfl aE ?_
            with_reducible refine (spec_l1In.calls ((rd_T45 l0 x10_1).f1) 1 5 true _ A26.out).mono ?_
            rintro e w' ⟨rfl, ⟨nd, rfl⟩⟩
            refine ⟨_, rfl, ?_⟩
            refine hK.out _ _ ⟨cz BK113 0 _, cz BK113 1 _, cz BK113 2 _, cz BK113 3 _, cz BK113 4 _⟩ (fun hHeld => ?_)
            clear hK K
            refine norm_ (a' := ?_) ?_ ?_
            rotate_left
            ·show Act.put _ (some 37) _ = _
             simp only [Act.put, List.setIfInBounds_toArray, List.set_cons_zero, List.set_cons_succ, i64_w, i32_w]
             rfl
            refine pureA 23 38 (bz 37 16777215) rfl rfl (any_of HT_.out (by kernel_rfl)) ?_
            refine pureA 24 39 (bz 37 33554431) rfl rfl (any_of HT_.out (by kernel_rfl)) ?_
            refine pureA 25 40 (bz 37 67108863) rfl rfl (any_of HT_.out (by kernel_rfl)) ?_
            refine pureA 26 41 (bz 37 134217727) rfl rfl (any_of HT_.out (by kernel_rfl)) ?_
            refine takeA 27 42 (bz 37 268435455) rfl rfl (take_ofW HT_.out HW_.out (by kernel_rfl)) hHeld (by rintro w' ⟨s0, s1, s2, s3, s4⟩; go_simp; with_reducible rfl) ?_
            refine one_ (i := 28) (N := some 43) (bz 37 536870911) rfl rfl (one_of HT_.out (by kernel_rfl)) (by decide) (fun K hK => ?_)
            refine goes_ Try.func45 (by kernel_rfl) rfl #[.string ((rd_T45 l0 x10_1).f2)] (by rfl) rfl rfl aE ?_
            with_reducible refine (spec_GoodName.calls k1 ((rd_T45 l0 x10_1).f2) true _ A28.out).mono ?_
            rintro e w' ⟨rfl, ⟨nd, rfl⟩⟩
            refine ⟨_, rfl, ?_⟩
            refine hK.out _ _ ⟨cz BK113 0 _, cz BK113 1 _, cz BK113 2 _, cz BK113 3 _, cz BK113 4 _⟩ (fun hHeld => ?_)
            clear hK K
            refine norm_ (a' := ?_) ?_ ?_
            rotate_left
            ·show Act.put _ (some 43) _ = _
             simp only [Act.put, List.setIfInBounds_toArray, List.set_cons_zero, List.set_cons_succ, i64_w, i32_w]
             rfl
            refine pureA 29 44 (bz 37 1073741823) rfl rfl (any_of HT_.out (by kernel_rfl)) ?_
            refine pureA 30 45 (bz 37 2147483647) rfl rfl (any_of HT_.out (by kernel_rfl)) ?_
            refine pureA 31 46 (bz 37 4294967295) rfl rfl (any_of HT_.out (by kernel_rfl)) ?_
            refine pureA 32 47 (bz 37 8589934591) rfl rfl (any_of HT_.out (by kernel_rfl)) ?_
            refine takeA 33 48 (bz 37 17179869183) rfl rfl (take_ofW HT_.out HW_.out (by kernel_rfl)) hHeld (by rintro w' ⟨s0, s1, s2, s3, s4⟩; go_simp; with_reducible rfl) ?_
            refine one_ (i := 34) (N := some 49) (bz 37 34359738367) rfl rfl (one_of HT_.out (by kernel_rfl)) (by decide) (fun K hK => ?_)
            refine goes_ Try.func28 (by kernel_rfl) rfl #[.int .i64 ((rd_T45 l0 x10_1).f4), .int .i64 (-1000000), .int .i64 1000000] (by rfl) rfl rfl aE ?_
            with_reducible refine (spec_l1In.calls ((rd_T45 l0 x10_1).f4) (-1000000) 1000000 t121 _ A30.out).mono ?_
            rintro e w' ⟨rfl, ⟨nd, rfl⟩⟩
            refine ⟨_, rfl, ?_⟩
            refine hK.out _ _ ⟨cz BK113 0 _, cz BK113 1 _, cz BK113 2 _, cz BK113 3 _, cz BK113 4 _⟩ (fun hHeld => ?_)
            clear hK K
            refine norm_ (a' := ?_) ?_ ?_
            rotate_left
            ·show Act.put _ (some 49) _ = _
             simp only [Act.put, List.setIfInBounds_toArray, List.set_cons_zero, List.set_cons_succ, i64_w, i32_w]
             rfl
            refine pureA 35 50 (bz 37 68719476735) rfl rfl (any_of HT_.out (by kernel_rfl)) ?_
            refine pureA 36 51 (bz 37 137438953471) rfl rfl (any_of HT_.out (by kernel_rfl)) ?_
            refine done_ (done_of HT_.out (by kernel_rfl)) ?_
            try go_wp2
            go_meet
            case rel => exact ⟨_, (!t121), tE, H', ⟨by have := HK1.out; first | omega | exact Nat.le_refl _⟩, ⟨by refine bU ?_; exact BK113.out⟩, ⟨by repeat (first | (with_reducible first | exact HB.out | apply below_alloc | apply pw_below_drewN | apply below_drew1 | refine below_set ?_ GE113.out) | exact HB.out)⟩⟩
           ·replace c29 := Bool.eq_false_iff.mpr c29
            subst c29
            have H1 : (spec_GoodChanges.j1 k1 l0 l0 (l0.length : Int) x10_1 true ((rd_T45 l0 x10_1).f0) ((rd_T45 l0 x10_1).f1) ((rd_T45 l0 x10_1).f2) ((rd_T45 l0 x10_1).f3) ((rd_T45 l0 x10_1).f4)) = some r := by rw [if_neg (show ¬ (false = true) by decide)] at H; exact H
            clear H
            have H := H1
            clear H1
            have H' := Aside0.mk H
            clear H
            try go_wp2
            replace BK113 := Aside0.mk (blk_drew BK113.out)
            replace HB := Aside0.mk (below_drew1 HB.out)
            refine start_ (n := 37) (S := fun w' => w'.cell? ⟨gb113, 0, none⟩ = some (.int .i64 ((rd_T45 l0 x10_1).f0)) ∧ w'.cell? ⟨gb113, 1, none⟩ = some (.int .i64 ((rd_T45 l0 x10_1).f1)) ∧ w'.cell? ⟨gb113, 2, none⟩ = some (.string ((rd_T45 l0 x10_1).f2)) ∧ w'.cell? ⟨gb113, 3, none⟩ = some (.string ((rd_T45 l0 x10_1).f3)) ∧ w'.cell? ⟨gb113, 4, none⟩ = some (.int .i64 ((rd_T45 l0 x10_1).f4))) (ds := []) #[false, false, false, false, false, false, false, false, false, false, false, false, false, false, false, false, false, false, false, false, false, false, false, false, false, false, false, false, false, false, false, false, false, false, false, false, false] (by kernel_rfl) rfl rfl ⟨cz BK113 0 _, cz BK113 1 _, cz BK113 2 _, cz BK113 3 _, cz BK113 4 _⟩ (fun hHeld => ?_); refine with_tabW spec_GoodChanges.tab6 spec_GoodChanges.bits6 (fun HT_ HW_ => ?_)
            generalize w9.drew = w32 at BK113 HB hHeld ⊢
            refine pureA 0 15 (bz 37 1) rfl rfl (any_of HT_.out (by kernel_rfl)) ?_
            refine takeA 1 16 (bz 37 3) rfl rfl (take_ofW HT_.out HW_.out (by kernel_rfl)) hHeld (by rintro w' ⟨s0, s1, s2, s3, s4⟩; go_simp; with_reducible rfl) ?_
            refine one_ (i := 2) (N := some 17) (bz 37 7) rfl rfl (one_of HT_.out (by kernel_rfl)) (by decide) (fun K hK => ?_)
            refine goes_ Try.func28 (by kernel_rfl) rfl #[.int .i64 ((rd_T45 l0 x10_1).f0), .int .i64 1, .int .i64 2] (by rfl) rfl rfl aE ?_
            with_reducible refine (spec_l1In.calls ((rd_T45 l0 x10_1).f0) 1 2 true _ A10.out).mono ?_
            rintro e w' ⟨rfl, ⟨nd, rfl⟩⟩
            refine ⟨_, rfl, ?_⟩
            refine hK.out _ _ ⟨cz BK113 0 _, cz BK113 1 _, cz BK113 2 _, cz BK113 3 _, cz BK113 4 _⟩ (fun hHeld => ?_)
            clear hK K
            refine norm_ (a' := ?_) ?_ ?_
            rotate_left
            ·show Act.put _ (some 17) _ = _
             simp only [Act.put, List.setIfInBounds_toArray, List.set_cons_zero, List.set_cons_succ, i64_w, i32_w]
             rfl
            refine pureA 3 18 (bz 37 15) rfl rfl (any_of HT_.out (by kernel_rfl)) ?_
            refine pureA 4 19 (bz 37 31) rfl rfl (any_of HT_.out (by kernel_rfl)) ?_
            refine pureA 5 20 (bz 37 63) rfl rfl (any_of HT_.out (by kernel_rfl)) ?_
            refine pureA 6 21 (bz 37 127) rfl rfl (any_of HT_.out (by kernel_rfl)) ?_
            refine pureA 7 22 (bz 37 255) rfl rfl (any_of HT_.out (by kernel_rfl)) ?_
            refine pureU 8 23 (bz 37 511) rfl rfl (any_of HT_.out (by kernel_rfl)) ?_
            refine pureU 9 24 (bz 37 1023) rfl rfl (any_of HT_.out (by kernel_rfl)) ?_
            refine pureU 10 25 (bz 37 2047) rfl rfl (any_of HT_.out (by kernel_rfl)) ?_
            refine pureU 11 26 (bz 37 4095) rfl rfl (any_of HT_.out (by kernel_rfl)) ?_
            refine pureU 12 27 (bz 37 8191) rfl rfl (any_of HT_.out (by kernel_rfl)) ?_
            refine pureU 13 28 (bz 37 16383) rfl rfl (any_of HT_.out (by kernel_rfl)) ?_
            refine pureU 14 29 (bz 37 32767) rfl rfl (any_of HT_.out (by kernel_rfl)) ?_
            refine pureU 15 30 (bz 37 65535) rfl rfl (any_of HT_.out (by kernel_rfl)) ?_
            refine pureU 16 31 (bz 37 131071) rfl rfl (any_of HT_.out (by kernel_rfl)) ?_
            refine pureA 17 32 (bz 37 262143) rfl rfl (any_of HT_.out (by kernel_rfl)) ?_
            refine pureA 18 33 (bz 37 524287) rfl rfl (any_of HT_.out (by kernel_rfl)) ?_
            refine pureA 19 34 (bz 37 1048575) rfl rfl (any_of HT_.out (by kernel_rfl)) ?_
            refine pureA 20 35 (bz 37 2097151) rfl rfl (any_of HT_.out (by kernel_rfl)) ?_
            refine takeA 21 36 (bz 37 4194303) rfl rfl (take_ofW HT_.out HW_.out (by kernel_rfl)) hHeld (by rintro w' ⟨s0, s1, s2, s3, s4⟩; go_simp; with_reducible rfl) ?_
            refine one_ (i := 22) (N := some 37) (bz 37 8388607) rfl rfl (one_of HT_.out (by kernel_rfl)) (by decide) (fun K hK => ?_)
            refine goes_ Try.func28 (by kernel_rfl) rfl #[.int .i64 ((rd_T45 l0 x10_1).f1), .int .i64 1, .int .i64 5] (by rfl) rfl rfl aE ?_
            with_reducible refine (spec_l1In.calls ((rd_T45 l0 x10_1).f1) 1 5 true _ A26.out).mono ?_
            rintro e w' ⟨rfl, ⟨nd, rfl⟩⟩
            refine ⟨_, rfl, ?_⟩
            refine hK.out _ _ ⟨cz BK113 0 _, cz BK113 1 _, cz BK113 2 _, cz BK113 3 _, cz BK113 4 _⟩ (fun hHeld => ?_)
            clear hK K
            refine norm_ (a' := ?_) ?_ ?_
            rotate_left
            ·show Act.put _ (some 37) _ = _
             simp only [Act.put, List.setIfInBounds_toArray, List.set_cons_zero, List.set_cons_succ, i64_w, i32_w]
             rfl
            refine pureA 23 38 (bz 37 16777215) rfl rfl (any_of HT_.out (by kernel_rfl)) ?_
            refine pureA 24 39 (bz 37 33554431) rfl rfl (any_of HT_.out (by kernel_rfl)) ?_
            refine pureA 25 40 (bz 37 67108863) rfl rfl (any_of HT_.out (by kernel_rfl)) ?_
            refine pureA 26 41 (bz 37 134217727) rfl rfl (any_of HT_.out (by kernel_rfl)) ?_
            refine takeA 27 42 (bz 37 268435455) rfl rfl (take_ofW HT_.out HW_.out (by kernel_rfl)) hHeld (by rintro w' ⟨s0, s1, s2, s3, s4⟩; go_simp; with_reducible rfl) ?_
            refine one_ (i := 28) (N := some 43) (bz 37 536870911) rfl rfl (one_of HT_.out (by kernel_rfl)) (by decide) (fun K hK => ?_)
            refine goes_ Try.func45 (by kernel_rfl) rfl #[.string ((rd_T45 l0 x10_1).f2)] (by rfl) rfl rfl aE ?_
            with_reducible refine (spec_GoodName.calls k1 ((rd_T45 l0 x10_1).f2) false _ A28.out).mono ?_
            rintro e w' ⟨rfl, ⟨nd, rfl⟩⟩
            refine ⟨_, rfl, ?_⟩
            refine hK.out _ _ ⟨cz BK113 0 _, cz BK113 1 _, cz BK113 2 _, cz BK113 3 _, cz BK113 4 _⟩ (fun hHeld => ?_)
            clear hK K
            refine norm_ (a' := ?_) ?_ ?_
            rotate_left
            ·show Act.put _ (some 43) _ = _
             simp only [Act.put, List.setIfInBounds_toArray, List.set_cons_zero, List.set_cons_succ, i64_w, i32_w]
             rfl
            refine pureA 29 44 (bz 37 1073741823) rfl rfl (any_of HT_.out (by kernel_rfl)) ?_
            refine pureA 30 45 (bz 37 2147483647) rfl rfl (any_of HT_.out (by kernel_rfl)) ?_
            refine pureA 31 46 (bz 37 4294967295) rfl rfl (any_of HT_.out (by kernel_rfl)) ?_
            refine pureU 32 47 (bz 37 8589934591) rfl rfl (any_of HT_.out (by kernel_rfl)) ?_
            refine pureU 33 48 (bz 37 17179869183) rfl rfl (any_of HT_.out (by kernel_rfl)) ?_
            refine pureU 34 49 (bz 37 34359738367) rfl rfl (any_of HT_.out (by kernel_rfl)) ?_
            refine pureU 35 50 (bz 37 68719476735) rfl rfl (any_of HT_.out (by kernel_rfl)) ?_
            refine pureA 36 51 (bz 37 137438953471) rfl rfl (any_of HT_.out (by kernel_rfl)) ?_
            refine done_ (done_of HT_.out (by kernel_rfl)) ?_
            try go_wp2
            go_meet
            case rel => exact ⟨_, (true), tE, H', ⟨by have := HK1.out; first | omega | exact Nat.le_refl _⟩, ⟨by refine bU ?_; exact BK113.out⟩, ⟨by repeat (first | (with_reducible first | exact HB.out | apply below_alloc | apply pw_below_drewN | apply below_drew1 | refine below_set ?_ GE113.out) | exact HB.out)⟩⟩
          ·replace c27 := Bool.eq_false_iff.mpr c27
           subst c27
           have H1 : (spec_GoodChanges.j1 k1 l0 l0 (l0.length : Int) x10_1 true ((rd_T45 l0 x10_1).f0) ((rd_T45 l0 x10_1).f1) ((rd_T45 l0 x10_1).f2) ((rd_T45 l0 x10_1).f3) ((rd_T45 l0 x10_1).f4)) = some r := by rw [if_neg (show ¬ (false = true) by decide)] at H; exact H
           clear H
           have H := H1
           clear H1
           have H' := Aside0.mk H
           clear H
           try go_wp2
           replace BK113 := Aside0.mk (blk_drew BK113.out)
           replace HB := Aside0.mk (below_drew1 HB.out)
           refine start_ (n := 37) (S := fun w' => w'.cell? ⟨gb113, 0, none⟩ = some (.int .i64 ((rd_T45 l0 x10_1).f0)) ∧ w'.cell? ⟨gb113, 1, none⟩ = some (.int .i64 ((rd_T45 l0 x10_1).f1)) ∧ w'.cell? ⟨gb113, 2, none⟩ = some (.string ((rd_T45 l0 x10_1).f2)) ∧ w'.cell? ⟨gb113, 3, none⟩ = some (.string ((rd_T45 l0 x10_1).f3)) ∧ w'.cell? ⟨gb113, 4, none⟩ = some (.int .i64 ((rd_T45 l0 x10_1).f4))) (ds := []) #[false, false, false, false, false, false, false, false, false, false, false, false, false, false, false, false, false, false, false, false, false, false, false, false, false, false, false, false, false, false, false, false, false, false, false, false, false] (by kernel_rfl) rfl rfl ⟨cz BK113 0 _, cz BK113 1 _, cz BK113 2 _, cz BK113 3 _, cz BK113 4 _⟩ (fun hHeld => ?_); refine with_tabW spec_GoodChanges.tab6 spec_GoodChanges.bits6 (fun HT_ HW_ => ?_)
           generalize w9.drew = w33 at BK113 HB hHeld ⊢
           refine pureA 0 15 (bz 37 1) rfl rfl (any_of HT_.out (by kernel_rfl)) ?_
           refine takeA 1 16 (bz 37 3) rfl rfl (take_ofW HT_.out HW_.out (by kernel_rfl)) hHeld (by rintro w' ⟨s0, s1, s2, s3, s4⟩; go_simp; with_reducible rfl) ?_
           refine one_ (i := 2) (N := some 17) (bz 37 7) rfl rfl (one_of HT_.out (by kernel_rfl)) (by decide) (fun K hK => ?_)
           refine goes_ Try.func28 (by kernel_rfl) rfl #[.int .i64 ((rd_T45 l0 x10_1).f0), .int .i64 1, .int .i64 2] (by rfl) rfl rfl aE ?_
           with_reducible refine (spec_l1In.calls ((rd_T45 l0 x10_1).f0) 1 2 true _ A10.out).mono ?_
           rintro e w' ⟨rfl, ⟨nd, rfl⟩⟩
           refine ⟨_, rfl, ?_⟩
           refine hK.out _ _ ⟨cz BK113 0 _, cz BK113 1 _, cz BK113 2 _, cz BK113 3 _, cz BK113 4 _⟩ (fun hHeld => ?_)
           clear hK K
           refine norm_ (a' := ?_) ?_ ?_
           rotate_left
           ·show Act.put _ (some 17) _ = _
            simp only [Act.put, List.setIfInBounds_toArray, List.set_cons_zero, List.set_cons_succ, i64_w, i32_w]
            rfl
           refine pureA 3 18 (bz 37 15) rfl rfl (any_of HT_.out (by kernel_rfl)) ?_
           refine pureA 4 19 (bz 37 31) rfl rfl (any_of HT_.out (by kernel_rfl)) ?_
           refine pureA 5 20 (bz 37 63) rfl rfl (any_of HT_.out (by kernel_rfl)) ?_
           refine pureA 6 21 (bz 37 127) rfl rfl (any_of HT_.out (by kernel_rfl)) ?_
           refine pureA 7 22 (bz 37 255) rfl rfl (any_of HT_.out (by kernel_rfl)) ?_
           refine pureU 8 23 (bz 37 511) rfl rfl (any_of HT_.out (by kernel_rfl)) ?_
           refine pureU 9 24 (bz 37 1023) rfl rfl (any_of HT_.out (by kernel_rfl)) ?_
           refine pureU 10 25 (bz 37 2047) rfl rfl (any_of HT_.out (by kernel_rfl)) ?_
           refine pureU 11 26 (bz 37 4095) rfl rfl (any_of HT_.out (by kernel_rfl)) ?_
           refine pureU 12 27 (bz 37 8191) rfl rfl (any_of HT_.out (by kernel_rfl)) ?_
           refine pureU 13 28 (bz 37 16383) rfl rfl (any_of HT_.out (by kernel_rfl)) ?_
           refine pureU 14 29 (bz 37 32767) rfl rfl (any_of HT_.out (by kernel_rfl)) ?_
           refine pureU 15 30 (bz 37 65535) rfl rfl (any_of HT_.out (by kernel_rfl)) ?_
           refine pureU 16 31 (bz 37 131071) rfl rfl (any_of HT_.out (by kernel_rfl)) ?_
           refine pureA 17 32 (bz 37 262143) rfl rfl (any_of HT_.out (by kernel_rfl)) ?_
           refine pureA 18 33 (bz 37 524287) rfl rfl (any_of HT_.out (by kernel_rfl)) ?_
           refine pureA 19 34 (bz 37 1048575) rfl rfl (any_of HT_.out (by kernel_rfl)) ?_
           refine pureA 20 35 (bz 37 2097151) rfl rfl (any_of HT_.out (by kernel_rfl)) ?_
           refine takeA 21 36 (bz 37 4194303) rfl rfl (take_ofW HT_.out HW_.out (by kernel_rfl)) hHeld (by rintro w' ⟨s0, s1, s2, s3, s4⟩; go_simp; with_reducible rfl) ?_
           refine one_ (i := 22) (N := some 37) (bz 37 8388607) rfl rfl (one_of HT_.out (by kernel_rfl)) (by decide) (fun K hK => ?_)
           refine goes_ Try.func28 (by kernel_rfl) rfl #[.int .i64 ((rd_T45 l0 x10_1).f1), .int .i64 1, .int .i64 5] (by rfl) rfl rfl aE ?_
           with_reducible refine (spec_l1In.calls ((rd_T45 l0 x10_1).f1) 1 5 false _ A26.out).mono ?_
           rintro e w' ⟨rfl, ⟨nd, rfl⟩⟩
           refine ⟨_, rfl, ?_⟩
           refine hK.out _ _ ⟨cz BK113 0 _, cz BK113 1 _, cz BK113 2 _, cz BK113 3 _, cz BK113 4 _⟩ (fun hHeld => ?_)
           clear hK K
           refine norm_ (a' := ?_) ?_ ?_
           rotate_left
           ·show Act.put _ (some 37) _ = _
            simp only [Act.put, List.setIfInBounds_toArray, List.set_cons_zero, List.set_cons_succ, i64_w, i32_w]
            rfl
           refine pureA 23 38 (bz 37 16777215) rfl rfl (any_of HT_.out (by kernel_rfl)) ?_
           refine pureA 24 39 (bz 37 33554431) rfl rfl (any_of HT_.out (by kernel_rfl)) ?_
           refine pureA 25 40 (bz 37 67108863) rfl rfl (any_of HT_.out (by kernel_rfl)) ?_
           refine pureU 26 41 (bz 37 134217727) rfl rfl (any_of HT_.out (by kernel_rfl)) ?_
           refine pureU 27 42 (bz 37 268435455) rfl rfl (any_of HT_.out (by kernel_rfl)) ?_
           refine pureU 28 43 (bz 37 536870911) rfl rfl (any_of HT_.out (by kernel_rfl)) ?_
           refine pureU 29 44 (bz 37 1073741823) rfl rfl (any_of HT_.out (by kernel_rfl)) ?_
           refine pureA 30 45 (bz 37 2147483647) rfl rfl (any_of HT_.out (by kernel_rfl)) ?_
           refine pureA 31 46 (bz 37 4294967295) rfl rfl (any_of HT_.out (by kernel_rfl)) ?_
           refine pureU 32 47 (bz 37 8589934591) rfl rfl (any_of HT_.out (by kernel_rfl)) ?_
           refine pureU 33 48 (bz 37 17179869183) rfl rfl (any_of HT_.out (by kernel_rfl)) ?_
           refine pureU 34 49 (bz 37 34359738367) rfl rfl (any_of HT_.out (by kernel_rfl)) ?_
           refine pureU 35 50 (bz 37 68719476735) rfl rfl (any_of HT_.out (by kernel_rfl)) ?_
           refine pureA 36 51 (bz 37 137438953471) rfl rfl (any_of HT_.out (by kernel_rfl)) ?_
           refine done_ (done_of HT_.out (by kernel_rfl)) ?_
           try go_wp2
           go_meet
           case rel => exact ⟨_, (true), tE, H', ⟨by have := HK1.out; first | omega | exact Nat.le_refl _⟩, ⟨by refine bU ?_; exact BK113.out⟩, ⟨by repeat (first | (with_reducible first | exact HB.out | apply below_alloc | apply pw_below_drewN | apply below_drew1 | refine below_set ?_ GE113.out) | exact HB.out)⟩⟩
        ·replace c11 := Bool.eq_false_iff.mpr c11
         subst c11
         have H1 : (spec_GoodChanges.j1 k1 l0 l0 (l0.length : Int) x10_1 true ((rd_T45 l0 x10_1).f0) ((rd_T45 l0 x10_1).f1) ((rd_T45 l0 x10_1).f2) ((rd_T45 l0 x10_1).f3) ((rd_T45 l0 x10_1).f4)) = some r := by rw [if_neg (show ¬ (false = true) by decide)] at H; exact H
         clear H
         have H := H1
         clear H1
         have H' := Aside0.mk H
         clear H
         try go_wp2
         replace BK113 := Aside0.mk (blk_drew BK113.out)
         replace HB := Aside0.mk (below_drew1 HB.out)
         refine start_ (n := 37) (S := fun w' => w'.cell? ⟨gb113, 0, none⟩ = some (.int .i64 ((rd_T45 l0 x10_1).f0)) ∧ w'.cell? ⟨gb113, 1, none⟩ = some (.int .i64 ((rd_T45 l0 x10_1).f1)) ∧ w'.cell? ⟨gb113, 2, none⟩ = some (.string ((rd_T45 l0 x10_1).f2)) ∧ w'.cell? ⟨gb113, 3, none⟩ = some (.string ((rd_T45 l0 x10_1).f3)) ∧ w'.cell? ⟨gb113, 4, none⟩ = some (.int .i64 ((rd_T45 l0 x10_1).f4))) (ds := []) #[false, false, false, false, false, false, false, false, false, false, false, false, false, false, false, false, false, false, false, false, false, false, false, false, false, false, false, false, false, false, false, false, false, false, false, false, false] (by kernel_rfl) rfl rfl ⟨cz BK113 0 _, cz BK113 1 _, cz BK113 2 _, cz BK113 3 _, cz BK113 4 _⟩ (fun hHeld => ?_); refine with_tabW spec_GoodChanges.tab6 spec_GoodChanges.bits6 (fun HT_ HW_ => ?_)
         generalize w9.drew = w34 at BK113 HB hHeld ⊢
         refine pureA 0 15 (bz 37 1) rfl rfl (any_of HT_.out (by kernel_rfl)) ?_
         refine takeA 1 16 (bz 37 3) rfl rfl (take_ofW HT_.out HW_.out (by kernel_rfl)) hHeld (by rintro w' ⟨s0, s1, s2, s3, s4⟩; go_simp; with_reducible rfl) ?_
         refine one_ (i := 2) (N := some 17) (bz 37 7) rfl rfl (one_of HT_.out (by kernel_rfl)) (by decide) (fun K hK => ?_)
         refine goes_ Try.func28 (by kernel_rfl) rfl #[.int .i64 ((rd_T45 l0 x10_1).f0), .int .i64 1, .int .i64 2] (by rfl) rfl rfl aE ?_
         with_reducible refine (spec_l1In.calls ((rd_T45 l0 x10_1).f0) 1 2 false _ A10.out).mono ?_
         rintro e w' ⟨rfl, ⟨nd, rfl⟩⟩
         refine ⟨_, rfl, ?_⟩
         refine hK.out _ _ ⟨cz BK113 0 _, cz BK113 1 _, cz BK113 2 _, cz BK113 3 _, cz BK113 4 _⟩ (fun hHeld => ?_)
         clear hK K
         refine norm_ (a' := ?_) ?_ ?_
         rotate_left
         ·show Act.put _ (some 17) _ = _
          simp only [Act.put, List.setIfInBounds_toArray, List.set_cons_zero, List.set_cons_succ, i64_w, i32_w]
          rfl
         refine pureA 3 18 (bz 37 15) rfl rfl (any_of HT_.out (by kernel_rfl)) ?_
         refine pureA 4 19 (bz 37 31) rfl rfl (any_of HT_.out (by kernel_rfl)) ?_
         refine pureU 5 20 (bz 37 63) rfl rfl (any_of HT_.out (by kernel_rfl)) ?_
         refine pureU 6 21 (bz 37 127) rfl rfl (any_of HT_.out (by kernel_rfl)) ?_
         refine pureU 7 22 (bz 37 255) rfl rfl (any_of HT_.out (by kernel_rfl)) ?_
         refine pureU 8 23 (bz 37 511) rfl rfl (any_of HT_.out (by kernel_rfl)) ?_
         refine pureU 9 24 (bz 37 1023) rfl rfl (any_of HT_.out (by kernel_rfl)) ?_
         refine pureU 10 25 (bz 37 2047) rfl rfl (any_of HT_.out (by kernel_rfl)) ?_
         refine pureU 11 26 (bz 37 4095) rfl rfl (any_of HT_.out (by kernel_rfl)) ?_
         refine pureU 12 27 (bz 37 8191) rfl rfl (any_of HT_.out (by kernel_rfl)) ?_
         refine pureU 13 28 (bz 37 16383) rfl rfl (any_of HT_.out (by kernel_rfl)) ?_
         refine pureU 14 29 (bz 37 32767) rfl rfl (any_of HT_.out (by kernel_rfl)) ?_
         refine pureU 15 30 (bz 37 65535) rfl rfl (any_of HT_.out (by kernel_rfl)) ?_
         refine pureU 16 31 (bz 37 131071) rfl rfl (any_of HT_.out (by kernel_rfl)) ?_
         refine pureU 17 32 (bz 37 262143) rfl rfl (any_of HT_.out (by kernel_rfl)) ?_
         refine pureA 18 33 (bz 37 524287) rfl rfl (any_of HT_.out (by kernel_rfl)) ?_
         refine pureA 19 34 (bz 37 1048575) rfl rfl (any_of HT_.out (by kernel_rfl)) ?_
         refine pureU 20 35 (bz 37 2097151) rfl rfl (any_of HT_.out (by kernel_rfl)) ?_
         refine pureU 21 36 (bz 37 4194303) rfl rfl (any_of HT_.out (by kernel_rfl)) ?_
         refine pureU 22 37 (bz 37 8388607) rfl rfl (any_of HT_.out (by kernel_rfl)) ?_
         refine pureU 23 38 (bz 37 16777215) rfl rfl (any_of HT_.out (by kernel_rfl)) ?_
         refine pureA 24 39 (bz 37 33554431) rfl rfl (any_of HT_.out (by kernel_rfl)) ?_
         refine pureA 25 40 (bz 37 67108863) rfl rfl (any_of HT_.out (by kernel_rfl)) ?_
         refine pureU 26 41 (bz 37 134217727) rfl rfl (any_of HT_.out (by kernel_rfl)) ?_
         refine pureU 27 42 (bz 37 268435455) rfl rfl (any_of HT_.out (by kernel_rfl)) ?_
         refine pureU 28 43 (bz 37 536870911) rfl rfl (any_of HT_.out (by kernel_rfl)) ?_
         refine pureU 29 44 (bz 37 1073741823) rfl rfl (any_of HT_.out (by kernel_rfl)) ?_
         refine pureA 30 45 (bz 37 2147483647) rfl rfl (any_of HT_.out (by kernel_rfl)) ?_
         refine pureA 31 46 (bz 37 4294967295) rfl rfl (any_of HT_.out (by kernel_rfl)) ?_
         refine pureU 32 47 (bz 37 8589934591) rfl rfl (any_of HT_.out (by kernel_rfl)) ?_
         refine pureU 33 48 (bz 37 17179869183) rfl rfl (any_of HT_.out (by kernel_rfl)) ?_
         refine pureU 34 49 (bz 37 34359738367) rfl rfl (any_of HT_.out (by kernel_rfl)) ?_
         refine pureU 35 50 (bz 37 68719476735) rfl rfl (any_of HT_.out (by kernel_rfl)) ?_
         refine pureA 36 51 (bz 37 137438953471) rfl rfl (any_of HT_.out (by kernel_rfl)) ?_
         refine done_ (done_of HT_.out (by kernel_rfl)) ?_
         try go_wp2
         go_meet
         case rel => exact ⟨_, (true), tE, H', ⟨by have := HK1.out; first | omega | exact Nat.le_refl _⟩, ⟨by refine bU ?_; exact BK113.out⟩, ⟨by repeat (first | (with_reducible first | exact HB.out | apply below_alloc | apply pw_below_drewN | apply below_drew1 | refine below_set ?_ GE113.out) | exact HB.out)⟩⟩
       case rest =>
        clear HC6
        try clear c2; try clear c4
        obtain ⟨kq, x51_5, rfl, HA, HJ5, BK113, HB⟩ := hcut
        cases kq with
        | zero => exact absurd HA.out (by simp [spec_GoodChanges.j1])
        | succ kj5 =>
         have H := HA.out
         clear HA
         simp only [spec_GoodChanges.j1] at H
         by_cases c35 : x51_5 = true
         ·subst c35
          have H1 : (some false) = some r := by rw [if_pos rfl] at H; exact H
          clear H
          have H := H1
          clear H1
          obtain rfl := Option.some.inj H
          go_wp2
          go_ret
          exact ⟨eE, lV1 GE113⟩
         ·replace c35 := Bool.eq_false_iff.mpr c35
          subst c35
          have H1 : (if ((rd_T45 l0 x10_1).f1) = 1 then ((spec_GoodName.f kj5 ((rd_T45 l0 x10_1).f3)).bind fun t122 => (if t122 = true then (spec_GoodChanges.j2 kj5 l0 l0 (l0.length : Int) x10_1 false ((rd_T45 l0 x10_1).f0) ((rd_T45 l0 x10_1).f1) ((rd_T45 l0 x10_1).f2) ((rd_T45 l0 x10_1).f3) ((rd_T45 l0 x10_1).f4)) else (spec_GoodChanges.j2 kj5 l0 l0 (l0.length : Int) x10_1 true ((rd_T45 l0 x10_1).f0) ((rd_T45 l0 x10_1).f1) ((rd_T45 l0 x10_1).f2) ((rd_T45 l0 x10_1).f3) ((rd_T45 l0 x10_1).f4)))) else (spec_GoodChanges.j2 kj5 l0 l0 (l0.length : Int) x10_1 (((rd_T45 l0 x10_1).f3).toList != ([] : List UInt8)) ((rd_T45 l0 x10_1).f0) ((rd_T45 l0 x10_1).f1) ((rd_T45 l0 x10_1).f2) ((rd_T45 l0 x10_1).f3) ((rd_T45 l0 x10_1).f4))) = some r := by rw [if_neg (show ¬ (false = true) by decide)] at H; exact H
          clear H
          have H := H1
          clear H1
          have HC36 := Aside0.mk H
          clear H
          go_upto_region 8 with (fail)
          go_cut [70] (fun v70 wc => ∃ (kq : Nat) (x70_35 : Bool), v70 = .bool x70_35 ∧ Aside0 (spec_GoodChanges.j2 kq l0 l0 (l0.length : Int) x10_1 x70_35 ((rd_T45 l0 x10_1).f0) ((rd_T45 l0 x10_1).f1) ((rd_T45 l0 x10_1).f2) ((rd_T45 l0 x10_1).f3) ((rd_T45 l0 x10_1).f4) = some r) ∧ Aside0 (kq ≤ kj5) ∧ Aside0 (wc.heap[gb113]? = some (.cells #[.int .i64 ((rd_T45 l0 x10_1).f0), .int .i64 ((rd_T45 l0 x10_1).f1), .string ((rd_T45 l0 x10_1).f2), .string ((rd_T45 l0 x10_1).f3), .int .i64 ((rd_T45 l0 x10_1).f4)] 45 (0, 0))) ∧ Aside0 (Below w.heap.size w wc))
          case first =>
           have H := HC36.out
           clear HC36
           by_cases c37 : ((rd_T45 l0 x10_1).f1) = 1
           ·rw [if_pos c37] at H
            have c37b0 : (((rd_T45 l0 x10_1).f1) == 1) = true := beq_iff_eq.mpr c37
            have c37b1 : (((rd_T45 l0 x10_1).f1) != 1) = false := bne_eq_false_iff_eq.mpr c37
            clear c37
            (first | rw [c37b0] | (simp only [i64_w, i32_w]; rw [c37b0]) | (rw [c37b2]; simp only [Bool.not_false, Bool.not_true]) | skip)
            replace H := Option.bind_eq_some_iff.mp H
            obtain ⟨t122, A380, H⟩ := H
            replace H : (if t122 = true then (spec_GoodChanges.j2 kj5 l0 l0 (l0.length : Int) x10_1 false ((rd_T45 l0 x10_1).f0) ((rd_T45 l0 x10_1).f1) ((rd_T45 l0 x10_1).f2) ((rd_T45 l0 x10_1).f3) ((rd_T45 l0 x10_1).f4)) else (spec_GoodChanges.j2 kj5 l0 l0 (l0.length : Int) x10_1 true ((rd_T45 l0 x10_1).f0) ((rd_T45 l0 x10_1).f1) ((rd_T45 l0 x10_1).f2) ((rd_T45 l0 x10_1).f3) ((rd_T45 l0 x10_1).f4))) = some r := H
            have A38 := Aside0.mk A380
            clear A380
            by_cases c39 : t122 = true
            ·subst c39
             have H1 : (spec_GoodChanges.j2 kj5 l0 l0 (l0.length : Int) x10_1 false ((rd_T45 l0 x10_1).f0) ((rd_T45 l0 x10_1).f1) ((rd_T45 l0 x10_1).f2) ((rd_T45 l0 x10_1).f3) ((rd_T45 l0 x10_1).f4)) = some r := by rw [if_pos rfl] at H; exact H
             clear H
             have H := H1
             clear H1
             have H' := Aside0.mk H
             clear H
             have hcz40_0 := cz BK113 0 (.int .i64 ((rd_T45 l0 x10_1).f0))
             have hcz40_1 := cz BK113 1 (.int .i64 ((rd_T45 l0 x10_1).f1))
             have hcz40_2 := cz BK113 2 (.string ((rd_T45 l0 x10_1).f2))
             have hcz40_3 := cz BK113 3 (.string ((rd_T45 l0 x10_1).f3))
             have hcz40_4 := cz BK113 4 (.int .i64 ((rd_T45 l0 x10_1).f4))
             have hfz40_0 := fz BK113 0
             have hfz40_1 := fz BK113 1
             have hfz40_2 := fz BK113 2
             have hfz40_3 := fz BK113 3
             have hfz40_4 := fz BK113 4
             go_wp2_with (first | (go_at_call 45; (with_reducible refine (spec_GoodName.calls kj5 ((rd_T45 l0 x10_1).f3) true _ A38.out).mono ?_); rintro e w' ⟨rfl, ⟨nd, rfl⟩⟩))
             go_meet
             case rel => exact ⟨_, (false), tE, H', ⟨by have := HK1.out; have := HJ5.out; first | omega | exact Nat.le_refl _⟩, ⟨by refine bU ?_; exact BK113.out⟩, ⟨by repeat (first | (with_reducible first | exact HB.out | apply below_alloc | apply pw_below_drewN | apply below_drew1 | refine below_set ?_ GE113.out) | exact HB.out)⟩⟩
            ·replace c39 := Bool.eq_false_iff.mpr c39
             subst c39
             have H1 : (spec_GoodChanges.j2 kj5 l0 l0 (l0.length : Int) x10_1 true ((rd_T45 l0 x10_1).f0) ((rd_T45 l0 x10_1).f1) ((rd_T45 l0 x10_1).f2) ((rd_T45 l0 x10_1).f3) ((rd_T45 l0 x10_1).f4)) = some r := by rw [if_neg (show ¬ (false = true) by decide)] at H; exact H
             clear H
             have H := H1
             clear H1
             have H' := Aside0.mk H
             clear H
             have hcz41_0 := cz BK113 0 (.int .i64 ((rd_T45 l0 x10_1).f0))
             have hcz41_1 := cz BK113 1 (.int .i64 ((rd_T45 l0 x10_1).f1))
             have hcz41_2 := cz BK113 2 (.string ((rd_T45 l0 x10_1).f2))
             have hcz41_3 := cz BK113 3 (.string ((rd_T45 l0 x10_1).f3))
             have hcz41_4 := cz BK113 4 (.int .i64 ((rd_T45 l0 x10_1).f4))
             have hfz41_0 := fz BK113 0
             have hfz41_1 := fz BK113 1
             have hfz41_2 := fz BK113 2
             have hfz41_3 := fz BK113 3
             have hfz41_4 := fz BK113 4
             go_wp2_with (first | (go_at_call 45; (with_reducible refine (spec_GoodName.calls kj5 ((rd_T45 l0 x10_1).f3) false _ A38.out).mono ?_); rintro e w' ⟨rfl, ⟨nd, rfl⟩⟩))
             go_meet
             case rel => exact ⟨_, (true), tE, H', ⟨by have := HK1.out; have := HJ5.out; first | omega | exact Nat.le_refl _⟩, ⟨by refine bU ?_; exact BK113.out⟩, ⟨by repeat (first | (with_reducible first | exact HB.out | apply below_alloc | apply pw_below_drewN | apply below_drew1 | refine below_set ?_ GE113.out) | exact HB.out)⟩⟩
           ·rw [if_neg c37] at H
            have c37b0 : (((rd_T45 l0 x10_1).f1) == 1) = false := beq_eq_false_iff_ne.mpr c37
            have c37b1 : (((rd_T45 l0 x10_1).f1) != 1) = true := bne_iff_ne.mpr c37
            (first | rw [c37b0] | (simp only [i64_w, i32_w]; rw [c37b0]) | (rw [c37b2]; simp only [Bool.not_false, Bool.not_true]) | skip)
            have H' := Aside0.mk H
            clear H
            have hcz42_0 := cz BK113 0 (.int .i64 ((rd_T45 l0 x10_1).f0))
            have hcz42_1 := cz BK113 1 (.int .i64 ((rd_T45 l0 x10_1).f1))
            have hcz42_2 := cz BK113 2 (.string ((rd_T45 l0 x10_1).f2))
            have hcz42_3 := cz BK113 3 (.string ((rd_T45 l0 x10_1).f3))
            have hcz42_4 := cz BK113 4 (.int .i64 ((rd_T45 l0 x10_1).f4))
            have hfz42_0 := fz BK113 0
            have hfz42_1 := fz BK113 1
            have hfz42_2 := fz BK113 2
            have hfz42_3 := fz BK113 3
            have hfz42_4 := fz BK113 4
            go_wp2
            go_meet
            case rel => exact ⟨_, ((((rd_T45 l0 x10_1).f3).toList != ([] : List UInt8))), tE, H', ⟨by have := HK1.out; have := HJ5.out; first | omega | exact Nat.le_refl _⟩, ⟨by refine bU ?_; exact BK113.out⟩, ⟨by repeat (first | (with_reducible first | exact HB.out | apply below_alloc | apply pw_below_drewN | apply below_drew1 | refine below_set ?_ GE113.out) | exact HB.out)⟩⟩
          case rest =>
           clear HC36
           try clear c2; try clear c3; try clear c4; try clear c35
           obtain ⟨kq, x70_35, rfl, HA, HJ35, BK113, HB⟩ := hcut
           cases kq with
           | zero => exact absurd HA.out (by simp [spec_GoodChanges.j2])
           | succ kj35 =>
            have H := HA.out
            clear HA
            simp only [spec_GoodChanges.j2] at H
            by_cases c43 : x70_35 = true
            ·subst c43
             have H1 : (some false) = some r := by rw [if_pos rfl] at H; exact H
             clear H
             have H := H1
             clear H1
             obtain rfl := Option.some.inj H
             go_wp2
             go_ret
             exact ⟨eE, lV1 GE113⟩
            ·replace c43 := Bool.eq_false_iff.mpr c43
             subst c43
             have H1 : (if ((rd_T45 l0 x10_1).f1) = 1 then (if ((rd_T45 l0 x10_1).f4) = 0 then (spec_GoodChanges.l0 kj35 l0 l0 (l0.length : Int) (wrap64 (x10_1 + 1))) else (some false)) else (if ((rd_T45 l0 x10_1).f1) = 4 then (if ((rd_T45 l0 x10_1).f4) = 0 then (spec_GoodChanges.l0 kj35 l0 l0 (l0.length : Int) (wrap64 (x10_1 + 1))) else (some false)) else (spec_GoodChanges.l0 kj35 l0 l0 (l0.length : Int) (wrap64 (x10_1 + 1))))) = some r := by rw [if_neg (show ¬ (false = true) by decide)] at H; exact H
             clear H
             have H := H1
             clear H1
             by_cases c44 : ((rd_T45 l0 x10_1).f1) = 1
             ·rw [if_pos c44] at H
              have c44b0 : (((rd_T45 l0 x10_1).f1) == 1) = true := beq_iff_eq.mpr c44
              have c44b1 : (((rd_T45 l0 x10_1).f1) != 1) = false := bne_eq_false_iff_eq.mpr c44
              clear c44
              by_cases c45 : ((rd_T45 l0 x10_1).f4) = 0
              ·rw [if_pos c45] at H
               have c45b0 : (((rd_T45 l0 x10_1).f4) == 0) = true := beq_iff_eq.mpr c45
               have c45b1 : (((rd_T45 l0 x10_1).f4) != 0) = false := bne_eq_false_iff_eq.mpr c45
               clear c45
               have H' := Aside0.mk H
               clear H
               have hcz46_0 := cz BK113 0 (.int .i64 ((rd_T45 l0 x10_1).f0))
               have hcz46_1 := cz BK113 1 (.int .i64 ((rd_T45 l0 x10_1).f1))
               have hcz46_2 := cz BK113 2 (.string ((rd_T45 l0 x10_1).f2))
               have hcz46_3 := cz BK113 3 (.string ((rd_T45 l0 x10_1).f3))
               have hcz46_4 := cz BK113 4 (.int .i64 ((rd_T45 l0 x10_1).f4))
               have hfz46_0 := fz BK113 0
               have hfz46_1 := fz BK113 1
               have hfz46_2 := fz BK113 2
               have hfz46_3 := fz BK113 3
               have hfz46_4 := fz BK113 4
               go_wp2
               go_roundg kj35
               case measure => have := HK1.out; have := HJ5.out; have := HJ35.out; omega
               case rel => exact ⟨(wrap64 (x10_1 + 1)), tE, H', ⟨by have := HK1.out; have := HJ5.out; have := HJ35.out; omega⟩, ⟨by repeat (first | (with_reducible first | exact HB.out | apply below_alloc | apply pw_below_drewN | apply below_drew1 | refine below_set ?_ GE113.out) | exact HB.out)⟩⟩
              ·rw [if_neg c45] at H
               have c45b0 : (((rd_T45 l0 x10_1).f4) == 0) = false := beq_eq_false_iff_ne.mpr c45
               have c45b1 : (((rd_T45 l0 x10_1).f4) != 0) = true := bne_iff_ne.mpr c45
               obtain rfl := Option.some.inj H
               have hcz47_0 := cz BK113 0 (.int .i64 ((rd_T45 l0 x10_1).f0))
               have hcz47_1 := cz BK113 1 (.int .i64 ((rd_T45 l0 x10_1).f1))
               have hcz47_2 := cz BK113 2 (.string ((rd_T45 l0 x10_1).f2))
               have hcz47_3 := cz BK113 3 (.string ((rd_T45 l0 x10_1).f3))
               have hcz47_4 := cz BK113 4 (.int .i64 ((rd_T45 l0 x10_1).f4))
               have hfz47_0 := fz BK113 0
               have hfz47_1 := fz BK113 1
               have hfz47_2 := fz BK113 2
               have hfz47_3 := fz BK113 3
               have hfz47_4 := fz BK113 4
               go_wp2
               go_ret
               exact ⟨eE, lV1 GE113⟩
             ·rw [if_neg c44] at H
              have c44b0 : (((rd_T45 l0 x10_1).f1) == 1) = false := beq_eq_false_iff_ne.mpr c44
              have c44b1 : (((rd_T45 l0 x10_1).f1) != 1) = true := bne_iff_ne.mpr c44
              by_cases c48 : ((rd_T45 l0 x10_1).f1) = 4
              ·rw [if_pos c48] at H
               have c48b0 : (((rd_T45 l0 x10_1).f1) == 4) = true := beq_iff_eq.mpr c48
               have c48b1 : (((rd_T45 l0 x10_1).f1) != 4) = false := bne_eq_false_iff_eq.mpr c48
               clear c48
               by_cases c49 : ((rd_T45 l0 x10_1).f4) = 0
               ·rw [if_pos c49] at H
                have c49b0 : (((rd_T45 l0 x10_1).f4) == 0) = true := beq_iff_eq.mpr c49
                have c49b1 : (((rd_T45 l0 x10_1).f4) != 0) = false := bne_eq_false_iff_eq.mpr c49
                clear c49
                have H' := Aside0.mk H
                clear H
                have hcz50_0 := cz BK113 0 (.int .i64 ((rd_T45 l0 x10_1).f0))
                have hcz50_1 := cz BK113 1 (.int .i64 ((rd_T45 l0 x10_1).f1))
                have hcz50_2 := cz BK113 2 (.string ((rd_T45 l0 x10_1).f2))
                have hcz50_3 := cz BK113 3 (.string ((rd_T45 l0 x10_1).f3))
                have hcz50_4 := cz BK113 4 (.int .i64 ((rd_T45 l0 x10_1).f4))
                have hfz50_0 := fz BK113 0
                have hfz50_1 := fz BK113 1
                have hfz50_2 := fz BK113 2
                have hfz50_3 := fz BK113 3
                have hfz50_4 := fz BK113 4
                go_wp2
                go_roundg kj35
                case measure => have := HK1.out; have := HJ5.out; have := HJ35.out; omega
                case rel => exact ⟨(wrap64 (x10_1 + 1)), tE, H', ⟨by have := HK1.out; have := HJ5.out; have := HJ35.out; omega⟩, ⟨by repeat (first | (with_reducible first | exact HB.out | apply below_alloc | apply pw_below_drewN | apply below_drew1 | refine below_set ?_ GE113.out) | exact HB.out)⟩⟩
               ·rw [if_neg c49] at H
                have c49b0 : (((rd_T45 l0 x10_1).f4) == 0) = false := beq_eq_false_iff_ne.mpr c49
                have c49b1 : (((rd_T45 l0 x10_1).f4) != 0) = true := bne_iff_ne.mpr c49
                obtain rfl := Option.some.inj H
                have hcz51_0 := cz BK113 0 (.int .i64 ((rd_T45 l0 x10_1).f0))
                have hcz51_1 := cz BK113 1 (.int .i64 ((rd_T45 l0 x10_1).f1))
                have hcz51_2 := cz BK113 2 (.string ((rd_T45 l0 x10_1).f2))
                have hcz51_3 := cz BK113 3 (.string ((rd_T45 l0 x10_1).f3))
                have hcz51_4 := cz BK113 4 (.int .i64 ((rd_T45 l0 x10_1).f4))
                have hfz51_0 := fz BK113 0
                have hfz51_1 := fz BK113 1
                have hfz51_2 := fz BK113 2
                have hfz51_3 := fz BK113 3
                have hfz51_4 := fz BK113 4
                go_wp2
                go_ret
                exact ⟨eE, lV1 GE113⟩
              ·rw [if_neg c48] at H
               have c48b0 : (((rd_T45 l0 x10_1).f1) == 4) = false := beq_eq_false_iff_ne.mpr c48
               have c48b1 : (((rd_T45 l0 x10_1).f1) != 4) = true := bne_iff_ne.mpr c48
               have H' := Aside0.mk H
               clear H
               have hcz52_0 := cz BK113 0 (.int .i64 ((rd_T45 l0 x10_1).f0))
               have hcz52_1 := cz BK113 1 (.int .i64 ((rd_T45 l0 x10_1).f1))
               have hcz52_2 := cz BK113 2 (.string ((rd_T45 l0 x10_1).f2))
               have hcz52_3 := cz BK113 3 (.string ((rd_T45 l0 x10_1).f3))
               have hcz52_4 := cz BK113 4 (.int .i64 ((rd_T45 l0 x10_1).f4))
               have hfz52_0 := fz BK113 0
               have hfz52_1 := fz BK113 1
               have hfz52_2 := fz BK113 2
               have hfz52_3 := fz BK113 3
               have hfz52_4 := fz BK113 4
               go_wp2
               go_roundg kj35
               case measure => have := HK1.out; have := HJ5.out; have := HJ35.out; omega
               case rel => exact ⟨(wrap64 (x10_1 + 1)), tE, H', ⟨by have := HK1.out; have := HJ5.out; have := HJ35.out; omega⟩, ⟨by repeat (first | (with_reducible first | exact HB.out | apply below_alloc | apply pw_below_drewN | apply below_drew1 | refine below_set ?_ GE113.out) | exact HB.out)⟩⟩
      ·rw [if_neg c5] at H
       exact absurd H (by simp)
     ·rw [if_neg c4] at H
      exact absurd H (by simp)
    ·rw [if_neg c3] at H
     have c3b0 : decide (x10_1 < (l0.length : Int)) = false := decide_eq_false c3
     clear c3
     obtain rfl := Option.some.inj H
     go_wp2
     go_ret
     exact ⟨eE, lU⟩
end Go.Proofs.Ytjjbkebodkjnkaa.PFnExactLoadSave
