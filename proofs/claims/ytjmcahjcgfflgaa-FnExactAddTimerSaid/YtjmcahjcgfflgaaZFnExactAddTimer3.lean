/- Texts of the row of the law FnExactAddTimer, laid together. -/
import Derived.Test.YtjmcahjcgfflgaaZFnExactAddTimer0
import Derived.Deep.RegionLaw
import Derived.Lib.SliceRun
import Derived.Laws.Externs
import Derived.Lib.Bytealg
import Derived.Laws.CopyOwn
import Derived.Lib.Overlaps
import Derived.Lib.AppendZerosOnto
import Derived.Laws.AppendOwn
import Derived.Test.YtjmcahjcgfflgaaZFnExactAddTimer1
import Derived.Test.YtjmcahjcgfflgaaProg
import Derived.Below
import Derived.Deep.Draws
import Derived.Deep.AppendLies
import Derived.Maps.AppendAt
import Derived.OwnWalk
import Derived.Laws.BytesArg
import Derived.Laws.MakeOwn
import Derived.Laws.OwnMore
import Derived.Deep.OwnRows
import Derived.Tactics
import Derived.Lib.ConvBytes
import Derived.Laws.Slices
import Derived.WalkKit
import Derived.KernelRfl
import Derived.RowKit3
import Derived.Deep.LoopGhost
import Derived.Deep.QuietTactic
import Derived.BigQuiet
import Derived.WideLaws
import Derived.Deep.DeepCutAuto
import Derived.Deep.CutBlock
import Derived.Deep.RegionHeld3
import Derived.Laws.Rows
import Derived.Lib.AppendStr
import Derived.ArgAppend
import Derived.Laws.IdiomCopy
import Derived.OrdersHeld
import Derived.Laws.BitsLemmas
import Derived.RowKit
import Derived.Laws.Cover1
import Derived.Test.YtjmcahjcgfflgaaZFnExactAddTimer2
namespace Go.Proofs.YtjmcahjcgfflgaaW.PrintWords
open Go.RowKit
namespace Kd
section
variable {P : Program} {α : Type}
end
end Kd
end Go.Proofs.YtjmcahjcgfflgaaW.PrintWords
namespace Go.Proofs.YtjmcahjcgfflgaaW.PrintLast
open Go.RowKit Go.Proofs.YtjmcahjcgfflgaaW.PrintWords
def bz (n m : Nat) : Array Bool := ((List.range n).map fun i => m.testBit i).toArray
section
variable {P : Program} {ops : Array Oper} {Q : Exit → Act → World → Prop} {md : Region.Mode} {S : World → Prop} {ds : List Nat}
theorem pureA (i : Nat) (N : Tmp) {oi : Oper} {v : Value} {fuel : Nat} {l : Array Bool} {a : Act} {w : World} (l' : Array Bool) {a' : Act} (hi : ops[i]? = some oi) (hN : oi.dst = some N) (hc : anyB md ops l l' i = true) (h : wpAnyLast P md ops Q S ds fuel l' a' w)
    (hQ : ∀ c a w, Q (.panic c) (a.put oi.dst v) w → Q (.panic c) a w := by exact fun _ _ _ h => h) (hw : Region.wanted oi (yielded ops a.tmps) = true := by rfl)
    (hy : ∀ w, (execOp a.eval oi).run P w = .ok (.value v) w := by intro w'; go_simp; with_reducible rfl) (ha : a.put (some N) v = a' := by simp only [Act.put, List.setIfInBounds_toArray, List.set_cons_zero, List.set_cons_succ, i64_w, i32_w]; rfl) : wpAnyLast P md ops Q S ds (fuel + 1) l a w :=
  pure_ l' hi hN hc hQ (Or.inl ⟨hw, hy⟩) ha h
theorem pureU (i : Nat) (N : Tmp) {oi : Oper} {fuel : Nat} {l : Array Bool} {a : Act} {w : World} (l' : Array Bool) {a' : Act} (hi : ops[i]? = some oi) (hN : oi.dst = some N) (hc : anyB md ops l l' i = true) (h : wpAnyLast P md ops Q S ds fuel l' a' w)
    (hQ : ∀ c a w, Q (.panic c) (a.put oi.dst undef) w → Q (.panic c) a w := by exact fun _ _ _ h => h) (hw : Region.wanted oi (yielded ops a.tmps) = false := by rfl)
    (ha : a.put (some N) undef = a' := by simp only [Act.put, List.setIfInBounds_toArray, List.set_cons_zero, List.set_cons_succ, i64_w, i32_w]; rfl) : wpAnyLast P md ops Q S ds (fuel + 1) l a w :=
  pure_ l' hi hN hc hQ (Or.inr ⟨hw, rfl⟩) ha h
theorem takeA (i : Nat) (N : Tmp) {oi : Oper} {v : Value} {fuel : Nat} {l : Array Bool} {a : Act} {w : World} (l' : Array Bool) {a' : Act} (hi : ops[i]? = some oi) (hN : oi.dst = some N) (hc : takeB md ops ds l l' i = true) (hS : S w) (hy : ∀ w, S w → (execOp a.eval oi).run P w = .ok (.value v) w) (h : wpAnyLast P md ops Q S ds fuel l' a' w)
    (hQ : ∀ c a w, Q (.panic c) (a.put oi.dst v) w → Q (.panic c) a w := by exact fun _ _ _ h => h) (hw : Region.wanted oi (yielded ops a.tmps) = true := by rfl)
    (ha : a.put (some N) v = a' := by simp only [Act.put, List.setIfInBounds_toArray, List.set_cons_zero, List.set_cons_succ, i64_w, i32_w]; rfl) : wpAnyLast P md ops Q S ds (fuel + 1) l a w :=
  take_ l' hi hN hc hQ (Or.inl ⟨hw, hy⟩) hS ha h
end
end Go.Proofs.YtjmcahjcgfflgaaW.PrintLast
namespace Go.Proofs.YtjmcahjcgfflgaaW.PrintWords
open Go.RowKit
end Go.Proofs.YtjmcahjcgfflgaaW.PrintWords
namespace Go.Proofs.YtjmcahjcgfflgaaW.PrintWords
open Go.RowKit
section
variable {P : Program} {ops : Array Oper} {o : Oper} {a : Act} {Q : Exit → Act → World → Prop} {Kc : Act → World → Prop}
end
end Go.Proofs.YtjmcahjcgfflgaaW.PrintWords
namespace Go.Proofs.YtjmcahjcgfflgaaW.PrintWords
open Go.RowKit
namespace Kd
section
variable {α : Type} {d : Kd α} {e base : Nat} {ok : Nat → Prop} {W : World} {u : Value} {xs : List α} {PS : Nat → Prop} {L : List Nat}
end
end Kd
end Go.Proofs.YtjmcahjcgfflgaaW.PrintWords
namespace Go.Proofs.YtjmcahjcgfflgaaW.PrintWords
open Go.RowKit
end Go.Proofs.YtjmcahjcgfflgaaW.PrintWords
set_option linter.unusedSimpArgs false
set_option linter.unusedVariables false
namespace Go
theorem run_copy_rowz {P : Program} (w : World) (dT sT ty elem : TypeId) (sz : Nat) (g o dLen dCap : Nat) (a : Addr) (sLen sCap : Nat) (cur : Array Value) (t : TypeId) (cs : List Value)
    (hu : P.underlying dT = some (.slice elem)) (hs : (P.info? elem).map (·.size) = some sz)
    (hg : w.heap[g]? = some (.cells cur t (0, 0))) (hn : cs.length = Nat.min sLen dLen * sz)
    (hsrc : ∀ j v, cs[j]? = some v → w.cell? (a.add j) = some v) (hfit : o + cs.length ≤ cur.size) (h1 : ∀ v ∈ cs, v.oneCell' = true) :
    (Builtin.copy_ #[dT, sT] ty #[.slice (some ⟨g, o, none⟩) dLen dCap, .slice (some a) sLen sCap]).run P w =
      .ok (goInt (Nat.min sLen dLen)) (w.setRow g (cur.toList.take o ++ cs ++ cur.toList.drop (o + cs.length)).toArray) := by
  have hl := run_loadCells_list (P := P) w a cs hsrc
  have hst := run_storeCells_at P g o t cs 0 cur w hg (by simpa using hfit) h1
  cases hq : P.info? elem with
  | none => simp [hq] at hs
  | some i =>
    have hi : i.size = sz := by simpa [hq] using hs
    simp [Builtin.copy_, run_underlying hu, Builtin.lenOf, Builtin.firstCells, sizeOf, typeInfo, hq, hi, ← hn, hl, hst]
theorem step_copyI {P : Program} {ops : Array Oper} {o : Oper} {a : Act} {w : World} {K : Act → World → Prop} {Q : Exit → Act → World → Prop} {E : Prop}
    (hg : o.guard = none) (d x : Operand) (dT sT : TypeId) (hop : o.op = Op.call { callee := Callee.builtin Builtin.copy, args := #[d, x], argTypes := #[dT, sT] })
    (v u : Value) (hd : a.eval d = v) (hx : a.eval x = u) {v' : Value} {w' : World} (hr : (Builtin.copy_ #[dT, sT] o.type #[v, u]).run P w = .ok v' w') (hK : K (a.put o.dst v') w') :
    if Region.wanted o (yielded ops a.tmps) = true then Oper.wp P o a w K Q else E := by
  have hw : Region.wanted o (yielded ops a.tmps) = true := by simp [Region.wanted, hg]
  rw [if_pos hw]
  unfold Oper.wp
  simp [execOp, hop, resolve, invoke, builtin, hd, hx, hr, Result.andThen]
  exact hK
theorem wpList_copyI {P : Program} (w : World) {ops : Array Oper} {rest : List Oper} {o : Oper} {a : Act} {Q : Exit → Act → World → Prop} (hgd : o.guard = none) (d s : Operand) (t t' : TypeId)
    (ho : o.op = .call { callee := .builtin .copy, args := #[d, s], argTypes := #[t, t'] }) (v u : Value) (hd : a.eval d = v) (hs : a.eval s = u) {v' : Value} {w' : World}
    (hr : (Builtin.copy_ #[t, t'] o.type #[v, u]).run P w = .ok v' w') (h : wpList P ops Q rest (a.put o.dst v') w') : wpList P ops Q (o :: rest) a w :=
  wpList_plain hgd fun K hK => by
    unfold Oper.wp execOp
    simp only [ho, resolve, invoke, builtin, Sem.run_bind, Sem.run_pure, Result.andThen_ok, List.map_toArray, List.map_cons, List.map_nil, hd, hs, hr]
    exact hK _ _ h
theorem run_overlaps_own {P : Program} (w : World) (tS tR e : TypeId) (ht : P.underlying tS = some (.slice e)) (size : Nat) (hz : ∀ w, (Go.sizeOf e).run P w = .ok size w)
    (a b : Addr) (la ca lb cb : Nat) (hne : a.block ≠ b.block) (ra rb : Array Value) (ta tb : TypeId) (fa : Nat × Nat) (ha : w.heap[a.block]? = some (.cells ra ta fa)) (hra : ra.size ≠ 0) (hb : w.heap[b.block]? = some (.cells rb tb (0, 0))) :
    (Extern.SlicesOverlaps.overlaps #[tS, tS] #[tR] #[.slice (some a) la ca, .slice (some b) lb cb]).run P w = .ok (.bool false) w := by
  have hnb : (a.block != b.block) = true := by simpa using hne
  have hnb' : (a.block == b.block) = false := by simpa using hne
  change Sem.run P (α := Value) (do
    let some t := (#[tS, tS] : Array TypeId)[0]? | stuck "slices.overlaps: no parameter types"
    let .slice elem ← underlying t | stuck "slices.overlaps: slice type expected"
    let size ← sizeOf elem
    match (some a : Option Addr), (some b : Option Addr) with
    | some a, some b =>
      if la = 0 ∨ lb = 0 ∨ size = 0 then pure (Value.bool false)
      else if a.block != b.block && (← frozen a) && (← frozen b) then unsupported .addressObserved
      else do
        if a.block != b.block then do
          noView a; noView b
          if ← mayBeOne a b then return Value.bool ((← choose (.extern "sameAddr.stringBytes" 2)) == 1)
        pure (Value.bool (a.block == b.block && a.off < b.off + lb * size && b.off < a.off + la * size))
    | _, _ => pure (Value.bool false)) w = _
  by_cases h0 : la = 0 ∨ lb = 0 ∨ size = 0
  · simp [run_underlying ht, hz, h0]
  · have hsa : w.shape? a.block = some (ta, ra.size) := by simp [World.shape?, ha]
    have hsb : w.shape? b.block = some (tb, rb.size) := by simp [World.shape?, hb]
    have hfb : w.frozen? b = false := by simp [World.frozen?, hb]
    have hfe : w.frozen? { block := b.block, off := rb.size } = false := by simp [World.frozen?, hb]
    cases hk : ra.size with
    | zero => exact absurd hk hra
    | succ q =>
      rw [hk] at hsa
      cases hfa : w.frozen? a <;> cases hfq : w.frozen? { block := a.block, off := q + 1 } <;>
        simp [run_underlying ht, hz, h0, hnb, hnb', frozen, noView, viewAt, mayBeOne, stringish, shape, Sem.run, hsa, hsb, hfa, hfb, hfe, hfq]
end Go
namespace Go.Proofs.YtjmcahjcgfflgaaW.PrintWords
open Go.RowKit
namespace Kd
section
variable {P : Program} {α : Type}
theorem reps_oneI (d : Kd α) {w : World} {base : Nat} {ok : Nat → Prop} {xs : List α} {inner : List Value} (hr : Reps (d.M w base ok) d.sz xs inner) : ∀ u ∈ inner, u.oneCell' = true := by
  intro u hu
  obtain ⟨q, hq, rfl⟩ := List.mem_iff_getElem.1 hu
  have hs0 : 0 < d.sz := by
    rcases Nat.eq_zero_or_pos d.sz with h | h
    · rw [hr.1, h, Nat.mul_zero] at hq; omega
    · exact h
  have hql : q / d.sz < xs.length := by
    rw [Nat.div_lt_iff_lt_mul hs0, ← hr.1]
    exact hq
  refine d.K_one (d.K_of_M (hr.2 (q / d.sz) _ (List.getElem?_eq_getElem hql))) _ ?_
  rw [List.mem_iff_getElem?]
  refine ⟨q % d.sz, ?_⟩
  rw [List.getElem?_take, if_pos (Nat.mod_lt _ hs0), List.getElem?_drop, Nat.mul_comm, Nat.div_add_mod, List.getElem?_eq_getElem hq]
theorem grown_setRow (w : World) (g : Nat) (cs : Array Value) : w.grownBy (w.setRow g cs) (some g) :=
  ⟨rfl, rfl, rfl, by simp [World.setRow], fun k _ hk => setRow_other w g k cs (fun he => hk (by rw [he]))⟩
theorem addr_add_block (a : Addr) (n : Nat) : (a.add n).block = a.block := by unfold Addr.add; split <;> rfl
theorem C_apart (d : Kd α) (hs : 0 < d.sz) {w : World} {P0 : Nat → Prop} {A : Option Addr} {n : Nat} {xs : List α} (hn : 0 < n) (hr : ∀ W, Kept w W P0 → d.C W A n xs) {g : Nat} (hg : P0 g) :
    ∃ ad, A = some ad ∧ ad.block ≠ g ∧ ∃ c t f, w.heap[ad.block]? = some (.cells c t f) ∧ c.size ≠ 0 := by
  have h1 := hr w (Kept.refl w _)
  obtain ⟨ad, hA, hc⟩ := h1.2.2 hn
  have hl : 0 < xs.length := by rw [h1.1]; exact hn
  have hp := List.getElem?_eq_getElem hl
  refine ⟨ad, hA, ?_, ?_⟩
  · intro hb
    have h2 := hr (w.setRow g #[]) ⟨by simp [World.setRow], fun i _ hi => setRow_other w g i _ (fun he => hi (he ▸ hg))⟩
    obtain ⟨ad2, hA2, hc2⟩ := h2.2.2 hn
    have : ad2 = ad := by rw [hA] at hA2; injection hA2 with h; exact h.symm
    subst this
    obtain ⟨cs, hcl, _, hcell⟩ := hc2 0 _ hp
    have := hcell 0 _ (List.getElem?_eq_getElem (by omega))
    subst hb
    have he : (w.setRow ad2.block #[]).heap[ad2.block]? = (w.heap[ad2.block]?).map fun | .cells c e f => .cells #[] e f | o => o := by simp [World.setRow, Array.getElem?_modify]; rfl
    unfold World.cell? at this
    split at this
    · rename_i c q1 q2 hq
      have hq : (w.setRow ad2.block #[]).heap[ad2.block]? = some (.cells c q1 q2) := by rw [addr_add_block] at hq; exact hq
      rw [he] at hq
      cases hw : w.heap[ad2.block]? with
      | none => rw [hw] at hq; cases hq
      | some b =>
        rw [hw] at hq
        cases b with
        | cells c0 t0 f0 =>
          simp only [Option.map_some, Option.some.injEq, Obj.cells.injEq] at hq
          rw [← hq.1] at this
          split at this <;> simp at this
        | _ => simp at hq
    · cases this
  · obtain ⟨cs, hcl, _, hcell⟩ := hc 0 _ hp
    have := hcell 0 _ (List.getElem?_eq_getElem (by omega))
    unfold World.cell? at this
    split at this
    · rename_i c q1 q2 hq
      refine ⟨c, q1, q2, by rw [addr_add_block] at hq; exact hq, ?_⟩
      intro h0
      split at this
      · cases this
      · have := (Array.getElem?_eq_some_iff.1 this).1
        omega
    · cases this
def U (d : Kd α) (e : Nat) (W : World) (base : Nat) (ok : Nat → Prop) (g n c k : Nat) (xs : List α) : Prop :=
  ok g ∧ ∃ inner cur, base ≤ g ∧ W.heap[g]? = some (.cells cur e (0, 0)) ∧ xs.length = n ∧ cur.size = c * d.sz ∧ n + 1 ≤ c ∧ c ≤ maxLen ∧
    cur.toList.take (k * d.sz) = inner.take (k * d.sz) ∧ (cur.toList.drop ((k + 1) * d.sz)).take ((n - k) * d.sz) = inner.drop (k * d.sz) ∧
    Reps (d.M W base (fun k' => ok k' ∧ some k' ≠ some g)) d.sz xs inner
theorem R_shift_run (d : Kd α) {W : World} (base : Nat) (dT sT ty e : TypeId) (ht : P.underlying dT = some (.slice e)) (hi : (P.info? e).map (·.size) = some d.sz)
    {g n c k cc1 cc2 : Nat} {xs : List α} {ok : Nat → Prop} (HO : d.R e W base ok (.slice (some ⟨g, 0, none⟩) n c) xs) (hk : k < n) (hc : n + 1 ≤ c) :
    ∃ w1, (Builtin.copy_ #[dT, sT] ty #[.slice (some ⟨g, (k + 1) * d.sz, none⟩) (n - k) cc1, .slice (some ⟨g, k * d.sz, none⟩) (n + 1 - k) cc2]).run P W = .ok (goInt ((n - k : Nat) : Int)) w1 ∧ U d e w1 base ok g n c k xs ∧ W.grownBy w1 (some g) := by
  obtain ⟨hn, hnc, _⟩ := R_reads' HO
  obtain ⟨hok, inner, hown, hr⟩ := HO
  have hin : inner.length = n * d.sz := by rw [hr.1, hn]
  rcases hown.2 with ⟨hv, _⟩ | ⟨g', cap', cur, hv, hb, hh, _, hcm, hcs, htake⟩
  · cases hv
  injection hv with ha _ hc'
  injection ha with ha
  injection ha with hg
  subst hg; subst hc'
  rw [← hn] at htake
  have hgo : ∀ m, some g = (Value.slice (some ⟨g, 0, none⟩) m c).ownBlock := fun m => by simp [Value.ownBlock]
  have hks : (k + 1) * d.sz = k * d.sz + d.sz := Nat.succ_mul _ _
  have hns : (n + 1) * d.sz = n * d.sz + d.sz := Nat.succ_mul _ _
  have hsub : (n - k) * d.sz = n * d.sz - k * d.sz := Nat.sub_mul _ _ _
  have hle : k * d.sz ≤ n * d.sz := Nat.mul_le_mul_right _ (by omega)
  have hcz : (n + 1) * d.sz ≤ c * d.sz := Nat.mul_le_mul_right _ hc
  have hcl : (inner.drop (k * d.sz)).length = (n - k) * d.sz := by rw [List.length_drop, hin]; omega
  have hmin : Nat.min (n + 1 - k) (n - k) = n - k := Nat.min_eq_right (by omega)
  have hrun := run_copy_rowz (P := P) W dT sT ty e d.sz g ((k + 1) * d.sz) (n - k) cc1 ⟨g, k * d.sz, none⟩ (n + 1 - k) cc2 cur e (inner.drop (k * d.sz)) ht hi hh (by rw [hcl, hmin]) (fun j v hj => by
      have hjl : j < (inner.drop (k * d.sz)).length := (List.getElem?_eq_some_iff.1 hj).1
      rw [show (⟨g, k * d.sz, none⟩ : Addr).add j = ⟨g, k * d.sz + j, none⟩ by simp [Addr.add], cell_of_row W g _ cur e (0, 0) hh, ← Array.getElem?_toList]
      rw [List.getElem?_drop, ← htake, List.getElem?_take, if_pos (by omega)] at hj
      exact hj) (by rw [hcl]; omega) (fun v hv => reps_oneI d hr v (List.mem_of_mem_drop hv))
  rw [hmin] at hrun
  have hlt : g < W.heap.size := (Array.getElem?_eq_some_iff.1 hh).1
  refine ⟨_, hrun, ⟨hok g (hgo n).symm, inner, _, hb, setRow_heap W g cur _ e (0, 0) hh, hn.symm, ?_, hc, hcm, ?_, ?_, ?_⟩, grown_setRow W g _⟩
  · rw [List.size_toArray]
    simp only [List.length_append, List.length_take, List.length_drop, Array.length_toList, hcl, hcs]
    omega
  · show List.take _ (List.toArray _).toList = _
    rw [List.append_assoc, List.take_append_of_le_length (by rw [List.length_take, Array.length_toList, hcs]; omega), List.take_take, Nat.min_eq_left (by omega), ← htake, List.take_take, Nat.min_eq_left hle]
  · show List.take _ (List.drop _ (List.toArray _).toList) = _
    rw [List.append_assoc, List.drop_append_of_le_length (by rw [List.length_take, Array.length_toList, hcs]; omega), List.drop_eq_nil_of_le (by rw [List.length_take]; omega), List.nil_append]
    exact List.take_left' hcl
  · exact hr.imp_ fun p q hp => d.M_mono (fun k' hk' => ⟨hk'.1, by rw [hgo n]; exact hk'.2⟩) (d.M_move (fun k' hk' => setRow_other W g k' _ (fun he => hk'.2 (by rw [he]; exact hgo _))) hp)
def T (d : Kd α) (e : Nat) (W : World) (base : Nat) (ok : Nat → Prop) (g c : Nat) (pre : List α) : Prop :=
  ok g ∧ ∃ inner cur, base ≤ g ∧ W.heap[g]? = some (.cells cur e (0, 0)) ∧ cur.size = c * d.sz ∧ pre.length ≤ c ∧ c ≤ maxLen ∧ cur.toList.take (pre.length * d.sz) = inner ∧ Reps (d.M W base (fun k' => ok k' ∧ some k' ≠ some g)) d.sz pre inner
theorem T_done (d : Kd α) {e : Nat} {W : World} {base g c : Nat} {ok : Nat → Prop} {pre : List α} (h : T d e W base ok g c pre) : d.R e W base ok (.slice (some ⟨g, 0, none⟩) pre.length c) pre := by
  obtain ⟨hok, inner, cur, hb, hh, hcs, hl, hcm, ht, hr⟩ := h
  have hgo : some g = (Value.slice (some ⟨g, 0, none⟩) pre.length c).ownBlock := by simp [Value.ownBlock]
  exact ⟨fun k' hk' => by rw [← hgo] at hk'; injection hk' with hk'; exact hk' ▸ hok, inner, ⟨hr.1, .inr ⟨g, c, cur, rfl, hb, hh, hl, hcm, hcs, ht⟩⟩, hr.imp_ fun p q hp => d.M_mono (fun k' hk' => ⟨hk'.1, by rw [← hgo]; exact hk'.2⟩) hp⟩
theorem T_drew {d : Kd α} {e : Nat} {W : World} {base g c : Nat} {ok : Nat → Prop} {pre : List α} (h : T d e W base ok g c pre) : T d e W.drew base ok g c pre := by
  obtain ⟨hok, inner, cur, hb, hh, hcs, hl, hcm, ht, hr⟩ := h
  exact ⟨hok, inner, cur, hb, hh, hcs, hl, hcm, ht, hr.imp_ fun p q hp => M_below hp (below_drew (Below.refl _ _))⟩
theorem T_extend_run (d : Kd α) {W : World} (base : Nat) (dT sT ty e : TypeId) (ht : P.underlying dT = some (.slice e)) (hi : (P.info? e).map (·.size) = some d.sz)
    {g c gs ns cs j m dLen cc1 cc2 base' : Nat} {pre ys : List α} {ok oks : Nat → Prop} (HT : T d e W base ok g c pre)
    (HS : d.R e W base' oks (.slice (some ⟨gs, 0, none⟩) ns cs) ys) (hj : j + m = ns) (hd : m ≤ dLen) (hfit : pre.length + m ≤ c)
    (hM : ∀ p q, d.M W base' (fun k' => oks k' ∧ some k' ≠ some gs) p q → d.M W base (fun k' => ok k' ∧ some k' ≠ some g) p q) :
    ∃ w1, (Builtin.copy_ #[dT, sT] ty #[.slice (some ⟨g, pre.length * d.sz, none⟩) dLen cc1, .slice (some ⟨gs, j * d.sz, none⟩) m cc2]).run P W = .ok (goInt ((m : Nat) : Int)) w1 ∧ T d e w1 base ok g c (pre ++ ys.drop j) ∧ W.grownBy w1 (some g) := by
  obtain ⟨hok, inner, cur, hb, hh, hcs, hl, hcm, htk, hr⟩ := HT
  obtain ⟨hns, _, _⟩ := R_reads' HS
  obtain ⟨hoks, inners, howns, hrs⟩ := HS
  have hsin : inners.length = ns * d.sz := by rw [hrs.1, hns]
  rcases howns.2 with ⟨hv, _⟩ | ⟨g', cap', curs, hv, hbs, hhs, _, _, _, hts⟩
  · cases hv
  injection hv with ha _ hc'
  injection ha with ha
  injection ha with hg
  subst hg; subst hc'
  rw [← hns] at hts
  have hin : inner.length = pre.length * d.sz := hr.1
  have hsum : j * d.sz + m * d.sz = ns * d.sz := by rw [← Nat.add_mul, hj]
  have hfz : pre.length * d.sz + m * d.sz ≤ c * d.sz := by rw [← Nat.add_mul]; exact Nat.mul_le_mul_right _ hfit
  have hcl : (inners.drop (j * d.sz)).length = m * d.sz := by rw [List.length_drop, hsin]; omega
  have hmin : Nat.min m dLen = m := Nat.min_eq_left hd
  have hrsM : Reps (d.M W base' (fun k' => oks k' ∧ some k' ≠ some gs)) d.sz ys inners := hrs.imp_ fun p q hp => d.M_mono (fun k' hk' => ⟨hk'.1, by simpa [Value.ownBlock] using hk'.2⟩) hp
  have hrun := run_copy_rowz (P := P) W dT sT ty e d.sz g (pre.length * d.sz) dLen cc1 ⟨gs, j * d.sz, none⟩ m cc2 cur e (inners.drop (j * d.sz)) ht hi hh (by rw [hcl, hmin]) (fun q v hq => by
      have hql : q < (inners.drop (j * d.sz)).length := (List.getElem?_eq_some_iff.1 hq).1
      rw [show (⟨gs, j * d.sz, none⟩ : Addr).add q = ⟨gs, j * d.sz + q, none⟩ by simp [Addr.add], cell_of_row W gs _ curs e (0, 0) hhs, ← Array.getElem?_toList]
      rw [List.getElem?_drop, ← hts, List.getElem?_take, if_pos (by omega)] at hq
      exact hq) (by rw [hcl]; omega) (fun v hv => reps_oneI d hrsM v (List.mem_of_mem_drop hv))
  rw [hmin] at hrun
  have hmv : ∀ p q, d.M W base (fun k' => ok k' ∧ some k' ≠ some g) p q → d.M (W.setRow g (cur.toList.take (pre.length * d.sz) ++ inners.drop (j * d.sz) ++ cur.toList.drop (pre.length * d.sz + (inners.drop (j * d.sz)).length)).toArray) base (fun k' => ok k' ∧ some k' ≠ some g) p q := fun p q hp =>
    d.M_move (fun k' hk' => setRow_other W g k' _ (fun he => hk'.2 (by rw [he]))) hp
  have hdl : (ys.drop j).length = m := by rw [List.length_drop]; omega
  refine ⟨_, hrun, ⟨hok, inner ++ inners.drop (j * d.sz), _, hb, setRow_heap W g cur _ e (0, 0) hh, ?_, by rw [List.length_append, hdl]; exact hfit, hcm, ?_, ?_⟩, grown_setRow W g _⟩
  · rw [List.size_toArray]
    simp only [List.length_append, List.length_take, Array.length_toList, hcl, hcs, List.length_drop, hsin]
    omega
  · show List.take _ (List.toArray _).toList = _
    rw [List.length_append, hdl, Nat.add_mul, htk]
    exact List.take_left' (by rw [List.length_append, hin, hcl])
  · exact reps_append (hr.imp_ hmv) ((reps_drop (hrsM.imp_ hM)).imp_ hmv)
theorem T_grow_run (d : Kd α) {W : World} (base : Nat) (t tn ty e : TypeId) (i : TypeInfo) (z : Value) (kq kn : IntKind) (ht : P.underlying t = some (.slice e)) (htn : P.underlying tn = some (.int kn)) (hi : P.info? e = some i) (hz : i.zero = some z)
    (hisz : i.size = d.sz) (hzc : z.cells.size = d.sz) (hs0 : 0 < d.sz) (hb0 : 0 < i.bytes)
    {g n c k : Nat} {xs : List α} {ok : Nat → Prop} (HO : d.R e W base ok (.slice (some ⟨g, 0, none⟩) n c) xs) (hk : k ≤ n) (hc : c < n + 1) (hbytes : (n + 1) * i.bytes ≤ 140737488355328) (hbase : base ≤ W.heap.size) :
    ∃ w1 G, (Builtin.append_ #[t, tn] ty #[.slice (some ⟨g, 0, none⟩) k c, .int kq ((n + 1 - k : Nat) : Int)]).run P W = .ok (.slice (some ⟨W.heap.size, 0, none⟩) (n + 1) G) w1 ∧ n + 1 ≤ G ∧
      T d e w1 base (fun k' => ok k' ∨ W.heap.size ≤ k') W.heap.size G (xs.take k) ∧ Below W.heap.size W w1 := by
  obtain ⟨hn, hnc, _⟩ := R_reads' HO
  have hglt : g < W.heap.size := own_lt HO.2.choose_spec.1 g (by simp [Value.ownBlock])
  obtain ⟨hok, inner, hown, hr⟩ := HO
  have hin : inner.length = n * d.sz := by rw [hr.1, hn]
  rcases hown.2 with ⟨hv, _⟩ | ⟨g', cap', cur, hv, hb, hh, _, hcm, hcs, htake⟩
  · cases hv
  injection hv with ha _ hc'
  injection ha with ha
  injection ha with hg
  subst hg; subst hc'
  rw [← hn] at htake
  have hle : k * d.sz ≤ n * d.sz := Nat.mul_le_mul_right _ hk
  have hlen : n + 1 ≤ 140737488355328 := Nat.le_trans (Nat.le_mul_of_pos_right _ hb0) hbytes
  have htl : (inner.take (k * d.sz)).length = k * d.sz := by rw [List.length_take, hin, Nat.min_eq_left hle]
  have hold : (Builtin.firstCells i.size k (.slice (some ⟨g, 0, none⟩) k c)).run P W.drew = .ok (inner.take (k * d.sz)).toArray W.drew := by
    rw [hisz]
    refine run_firstCells_some W.drew d.sz k ⟨g, 0, none⟩ k c (inner.take (k * d.sz)) htl (fun j v hj => ?_)
    have hjl : j < (inner.take (k * d.sz)).length := (List.getElem?_eq_some_iff.1 hj).1
    rw [show (⟨g, 0, none⟩ : Addr).add j = ⟨g, j, none⟩ by simp [Addr.add]; omega, cell_of_row W.drew g _ cur e (0, 0) hh, ← Array.getElem?_toList]
    rw [List.getElem?_take, if_pos (by omega), ← htake, List.getElem?_take, if_pos (by omega)] at hj
    exact hj
  have hks : k + (n + 1 - k) = n + 1 := by omega
  have hkb : (n + 1 - k) * i.bytes ≤ (n + 1) * i.bytes := Nat.mul_le_mul_right _ (by omega)
  have hrun := Lib.run_append_grow_zeros W t tn ty e i z kq kn ht htn hi hz (some ⟨g, 0, none⟩) k c (inner.take (k * d.sz)) hold (n + 1 - k) (by omega) (by omega) (by omega) (by omega) (by omega) (by rw [hks]; exact growslice_fits hc hbytes)
  rw [hks] at hrun
  have hge := grownCap_ge W (n + 1) c e
  have hgm : grownCap W (n + 1) c e ≤ maxLen := grownCap_le_maxLen W (n + 1) c e (by simp only [maxLen]; omega)
  refine ⟨_, _, hrun, hge, ⟨.inr (Nat.le_refl _), inner.take (k * d.sz), _, hbase, heap_alloc_new W.drew _, ?_, by rw [List.length_take]; omega, hgm, ?_, ?_⟩, below_alloc (below_drew1 (Below.refl _ _)) _⟩
  · simp only [Array.size_append, List.size_toArray, size_zeroCells, hzc, htl, ← Nat.add_mul]
    congr 1
    omega
  · rw [List.length_take, ← hn, Nat.min_eq_left hk]
    simp only [Array.toList_append, List.append_assoc]
    exact List.take_left' htl
  · exact (reps_take hr (by omega)).imp_ fun p q hp => d.M_mono (fun k' hk' => ⟨.inl hk'.1.1, by
      intro he
      injection he with he
      have := hk'.2
      omega⟩) (d.M_move (w := W) (w1 := W.drew.alloc _) (ok := fun k' => (ok k' ∧ some k' ≠ (Value.slice (some ⟨g, 0, none⟩) n c).ownBlock) ∧ k' < W.heap.size) (fun k' hk' => heap_alloc_old W.drew _ hk'.2) (d.M_mono (fun k' hk' => ⟨hk'.1, hk'.2.2.1⟩) (d.M_bound hp)))
theorem U_fill_cells (d : Kd α) {W : World} (base : Nat) (dT sT ty e : TypeId) (ht : P.underlying dT = some (.slice e)) (hi : (P.info? e).map (·.size) = some d.sz)
    {g n c k cc1 cv : Nat} {ad : Addr} {xs : List α} {x : α} {ok : Nat → Prop} {cs : List Value} (HU : U d e W base ok g n c k xs) (hk : k < n)
    (hcs' : cs.length = d.sz) (hcell : ∀ j u, cs[j]? = some u → W.cell? (ad.add j) = some u) (hMx : d.M W base (fun k' => ok k' ∧ some k' ≠ some g) x cs) :
    ∃ w1, (Builtin.copy_ #[dT, sT] ty #[.slice (some ⟨g, k * d.sz, none⟩) (n + 1 - k) cc1, .slice (some ad) 1 cv]).run P W = .ok (goInt ((1 : Nat) : Int)) w1 ∧
      d.R e w1 base ok (.slice (some ⟨g, 0, none⟩) (n + 1) c) (xs.take k ++ [x] ++ xs.drop k) ∧ W.grownBy w1 (some g) := by
  obtain ⟨hok, inner, cur, hb, hh, hn, hcs, hc, hcm, h1, h2, hr⟩ := HU
  have hin : inner.length = n * d.sz := by rw [hr.1, hn]
  have hks : (k + 1) * d.sz = k * d.sz + d.sz := Nat.succ_mul _ _
  have hns : (n + 1) * d.sz = n * d.sz + d.sz := Nat.succ_mul _ _
  have hsub : (n - k) * d.sz = n * d.sz - k * d.sz := Nat.sub_mul _ _ _
  have hle : k * d.sz ≤ n * d.sz := Nat.mul_le_mul_right _ (by omega)
  have hcz : (n + 1) * d.sz ≤ c * d.sz := Nat.mul_le_mul_right _ hc
  have hmin : Nat.min 1 (n + 1 - k) = 1 := Nat.min_eq_left (by omega)
  have hrx : Reps (d.M W base (fun k' => ok k' ∧ some k' ≠ some g)) d.sz [x] cs := by
    have h := Reps.snoc (Reps.none (d.M W base (fun k' => ok k' ∧ some k' ≠ some g)) d.sz) hMx hcs'
    simpa using h
  have hrun := run_copy_rowz (P := P) W dT sT ty e d.sz g (k * d.sz) (n + 1 - k) cc1 ad 1 cv cur e cs ht hi hh (by rw [hcs', hmin, Nat.one_mul]) hcell (by rw [hcs']; omega) (reps_oneI d hrx)
  rw [hmin] at hrun
  have hgo : ∀ m, some g = (Value.slice (some ⟨g, 0, none⟩) m c).ownBlock := fun m => by simp [Value.ownBlock]
  have hmv : ∀ p q, d.M W base (fun k' => ok k' ∧ some k' ≠ some g) p q → d.M (W.setRow g (cur.toList.take (k * d.sz) ++ cs ++ cur.toList.drop (k * d.sz + cs.length)).toArray) base (fun k' => ok k' ∧ some k' ≠ (Value.slice (some ⟨g, 0, none⟩) (n + 1) c).ownBlock) p q := fun p q hp =>
    d.M_mono (fun k' hk' => ⟨hk'.1, by rw [← hgo]; exact hk'.2⟩) (d.M_move (fun k' hk' => setRow_other W g k' _ (fun he => hk'.2 (by rw [he]))) hp)
  have hel : (xs.take k ++ [x] ++ xs.drop k).length = n + 1 := by simp only [List.length_append, List.length_take, List.length_drop, List.length_singleton]; omega
  refine ⟨_, hrun, ⟨fun k' hk' => by rw [← hgo] at hk'; injection hk' with hk'; exact hk' ▸ hok, inner.take (k * d.sz) ++ cs ++ inner.drop (k * d.sz), ⟨?_, .inr ⟨g, c, _, by rw [hel], hb, setRow_heap W g cur _ e (0, 0) hh, by rw [hel]; exact hc, hcm, ?_, ?_⟩⟩, ?_⟩, grown_setRow W g _⟩
  · rw [hel]
    simp only [List.length_append, List.length_take, List.length_drop, hin, hcs']
    omega
  · rw [List.size_toArray]
    simp only [List.length_append, List.length_take, List.length_drop, Array.length_toList, hcs', hcs]
    omega
  · rw [hel]
    show List.take _ (List.toArray _).toList = _
    have hlen : (cur.toList.take (k * d.sz) ++ cs).length = (k + 1) * d.sz := by rw [List.length_append, List.length_take, Array.length_toList, hcs', hcs]; omega
    rw [show (n + 1) * d.sz = (cur.toList.take (k * d.sz) ++ cs).length + (n - k) * d.sz by rw [hlen]; omega, List.take_length_add_append, hcs', ← hks, h2, h1]
  · exact reps_append (reps_append ((reps_take hr (by omega)).imp_ hmv) (hrx.imp_ hmv)) ((reps_drop hr).imp_ hmv)
theorem T_extend_cells (d : Kd α) {W : World} (base : Nat) (dT sT ty e : TypeId) (ht : P.underlying dT = some (.slice e)) (hi : (P.info? e).map (·.size) = some d.sz)
    {g c dLen cc1 cv : Nat} {ad : Addr} {pre : List α} {x : α} {ok : Nat → Prop} {cs : List Value} (HT : T d e W base ok g c pre) (hd : 1 ≤ dLen) (hfit : pre.length + 1 ≤ c)
    (hcs' : cs.length = d.sz) (hcell : ∀ j u, cs[j]? = some u → W.cell? (ad.add j) = some u) (hMx : d.M W base (fun k' => ok k' ∧ some k' ≠ some g) x cs) :
    ∃ w1, (Builtin.copy_ #[dT, sT] ty #[.slice (some ⟨g, pre.length * d.sz, none⟩) dLen cc1, .slice (some ad) 1 cv]).run P W = .ok (goInt ((1 : Nat) : Int)) w1 ∧ T d e w1 base ok g c (pre ++ [x]) ∧ W.grownBy w1 (some g) := by
  obtain ⟨hok, inner, cur, hb, hh, hcs, hl, hcm, htk, hr⟩ := HT
  have hin : inner.length = pre.length * d.sz := hr.1
  have hfz : pre.length * d.sz + 1 * d.sz ≤ c * d.sz := by rw [← Nat.add_mul]; exact Nat.mul_le_mul_right _ hfit
  rw [Nat.one_mul] at hfz
  have hmin : Nat.min 1 dLen = 1 := Nat.min_eq_left hd
  have hrx : Reps (d.M W base (fun k' => ok k' ∧ some k' ≠ some g)) d.sz [x] cs := by
    have h := Reps.snoc (Reps.none (d.M W base (fun k' => ok k' ∧ some k' ≠ some g)) d.sz) hMx hcs'
    simpa using h
  have hrun := run_copy_rowz (P := P) W dT sT ty e d.sz g (pre.length * d.sz) dLen cc1 ad 1 cv cur e cs ht hi hh (by rw [hcs', hmin, Nat.one_mul]) hcell (by rw [hcs']; omega) (reps_oneI d hrx)
  rw [hmin] at hrun
  have hmv : ∀ p q, d.M W base (fun k' => ok k' ∧ some k' ≠ some g) p q → d.M (W.setRow g (cur.toList.take (pre.length * d.sz) ++ cs ++ cur.toList.drop (pre.length * d.sz + cs.length)).toArray) base (fun k' => ok k' ∧ some k' ≠ some g) p q := fun p q hp =>
    d.M_move (fun k' hk' => setRow_other W g k' _ (fun he => hk'.2 (by rw [he]))) hp
  refine ⟨_, hrun, ⟨hok, inner ++ cs, _, hb, setRow_heap W g cur _ e (0, 0) hh, ?_, by rw [List.length_append, List.length_singleton]; exact hfit, hcm, ?_, ?_⟩, grown_setRow W g _⟩
  · rw [List.size_toArray]
    simp only [List.length_append, List.length_take, Array.length_toList, hcs', hcs, List.length_drop]
    omega
  · show List.take _ (List.toArray _).toList = _
    rw [List.length_append, List.length_singleton, Nat.add_mul, Nat.one_mul, htk]
    exact List.take_left' (by rw [List.length_append, hin, hcs'])
  · exact reps_append (hr.imp_ hmv) (hrx.imp_ hmv)
end
end Kd
end Go.Proofs.YtjmcahjcgfflgaaW.PrintWords
namespace Go.Proofs.YtjmcahjcgfflgaaW.PrintLast
section
variable {P : Program} {ops : Array Oper} {Q : Exit → Act → World → Prop} {md : Region.Mode} {S T : World → Prop} {ds : List Nat}
end
end Go.Proofs.YtjmcahjcgfflgaaW.PrintLast
namespace Go.Proofs.Ytjmcahjcgfflgaa.PFnExactAddTimer
open Go.RowKit Go.Proofs.YtjmcahjcgfflgaaW.PrintWords Go.Proofs.YtjmcahjcgfflgaaW.PrintLast Go.Proofs.YtjmcahjcgfflgaaW.PrintMore
attribute [local go_sem] max2_int min2_int max_two min_two max_three min_three max_four min_four   -- for this text's walks alone
set_option linter.unusedVariables false
set_option linter.unusedSimpArgs false
def errW : Option Int → Value
 | none => .nilIface
 | some c => .iface 0 (.int .i64 c)
theorem errW_none : errW none = .nilIface := rfl
theorem errW_some (c : Int) : errW (some c) = .iface 0 (.int .i64 c) := rfl
theorem info34 : (Try.prog.info? 34).map (fun i => (i.zero, i.size, i.bytes)) = some (some (.agg #[(.int .i64 0), (.int .i64 0), (.int .i64 0), (.int .i64 0)]), 4, 32) := by kernel_rfl
structure S26 where
 f0 : Int
 f1 : Int
 f2 : Int
 f3 : Int
def z26 : S26 := ⟨(0 : Int), (0 : Int), (0 : Int), (0 : Int)⟩
def k26 : Kd S26 := Kd.iso (Kd.pair (Kd.int .i64) (Kd.pair (Kd.int .i64) (Kd.pair (Kd.int .i64) (Kd.int .i64)))) (fun x : S26 => (x.f0, x.f1, x.f2, x.f3))
theorem k26_open {w : World} {x : S26} {cs : List Value} (h : k26.K w x cs) : cs = [.int .i64 x.f0, .int .i64 x.f1, .int .i64 x.f2, .int .i64 x.f3] := by
 obtain ⟨_, _, rfl, rfl, ⟨_, _, rfl, rfl, ⟨_, _, rfl, rfl, rfl⟩⟩⟩ := h
 exact rfl
def rd_T26 (xs : List S26) (i : Int) : S26 := xs.getD i.toNat z26
theorem at_T26 {w : World} {A : Option Addr} {n : Nat} {xs : List S26} (h : Kd.C k26 w A n xs) (i : Int) (h0 : 0 ≤ i) (h1 : i < n) : ∃ ad , A = some ad ∧ w.cell? (ad.add (i.toNat * 4)) = some (.int .i64 (rd_T26 xs i).f0) ∧ w.cell? ⟨(ad.add (i.toNat * 4)).block, (ad.add (i.toNat * 4)).off + 1, none⟩ = some (.int .i64 (rd_T26 xs i).f1) ∧ w.cell? ⟨(ad.add (i.toNat * 4)).block, (ad.add (i.toNat * 4)).off + 2, none⟩ = some (.int .i64 (rd_T26 xs i).f2) ∧ w.cell? ⟨(ad.add (i.toNat * 4)).block, (ad.add (i.toNat * 4)).off + 3, none⟩ = some (.int .i64 (rd_T26 xs i).f3) := by
 obtain ⟨ad, c, e, _, hK, hc0⟩ := Kd.C_get h z26 i h0 h1
 have hc : ∀ j u, c[j]? = some u → w.cell? (ad.add (i.toNat * 4 + j)) = some u := hc0
 obtain rfl := k26_open hK
 exact ⟨ad, e, hc 0 _ rfl, by rw [← add_field _ _ 1 (by omega)]; exact hc 1 _ rfl, by rw [← add_field _ _ 2 (by omega)]; exact hc 2 _ rfl, by rw [← add_field _ _ 3 (by omega)]; exact hc 3 _ rfl⟩
structure S34 where
 f0 : Int
 f1 : Int
 f2 : Int
 f3 : Int
def z34 : S34 := ⟨(0 : Int), (0 : Int), (0 : Int), (0 : Int)⟩
def k34 : Kd S34 := Kd.iso (Kd.pair (Kd.int .i64) (Kd.pair (Kd.int .i64) (Kd.pair (Kd.int .i64) (Kd.int .i64)))) (fun x : S34 => (x.f0, x.f1, x.f2, x.f3))
theorem k34_open {w : World} {x : S34} {cs : List Value} (h : k34.K w x cs) : cs = [.int .i64 x.f0, .int .i64 x.f1, .int .i64 x.f2, .int .i64 x.f3] := by
 obtain ⟨_, _, rfl, rfl, ⟨_, _, rfl, rfl, ⟨_, _, rfl, rfl, rfl⟩⟩⟩ := h
 exact rfl
theorem k34_openM {w : World} {base : Nat} {ok : Nat → Prop} {x : S34} {cs : List Value} (h : k34.M w base ok x cs) : cs = [.int .i64 x.f0, .int .i64 x.f1, .int .i64 x.f2, .int .i64 x.f3] := by
 obtain ⟨_, _, rfl, rfl, ⟨_, _, rfl, rfl, ⟨_, _, rfl, rfl, rfl⟩⟩⟩ := h
 exact rfl
theorem k34_mkM (w : World) (base : Nat) (ok : Nat → Prop) (x : S34)  : k34.M w base ok x [.int .i64 x.f0, .int .i64 x.f1, .int .i64 x.f2, .int .i64 x.f3] := ⟨[.int .i64 x.f0], [.int .i64 x.f1, .int .i64 x.f2, .int .i64 x.f3], rfl, rfl, ⟨[.int .i64 x.f1], [.int .i64 x.f2, .int .i64 x.f3], rfl, rfl, ⟨[.int .i64 x.f2], [.int .i64 x.f3], rfl, rfl, rfl⟩⟩⟩
def rd_T34 (xs : List S34) (i : Int) : S34 := xs.getD i.toNat z34
theorem at_T34 {w : World} {A : Option Addr} {n : Nat} {xs : List S34} (h : Kd.C k34 w A n xs) (i : Int) (h0 : 0 ≤ i) (h1 : i < n) : ∃ ad , A = some ad ∧ w.cell? (ad.add (i.toNat * 4)) = some (.int .i64 (rd_T34 xs i).f0) ∧ w.cell? ⟨(ad.add (i.toNat * 4)).block, (ad.add (i.toNat * 4)).off + 1, none⟩ = some (.int .i64 (rd_T34 xs i).f1) ∧ w.cell? ⟨(ad.add (i.toNat * 4)).block, (ad.add (i.toNat * 4)).off + 2, none⟩ = some (.int .i64 (rd_T34 xs i).f2) ∧ w.cell? ⟨(ad.add (i.toNat * 4)).block, (ad.add (i.toNat * 4)).off + 3, none⟩ = some (.int .i64 (rd_T34 xs i).f3) := by
 obtain ⟨ad, c, e, _, hK, hc0⟩ := Kd.C_get h z34 i h0 h1
 have hc : ∀ j u, c[j]? = some u → w.cell? (ad.add (i.toNat * 4 + j)) = some u := hc0
 obtain rfl := k34_open hK
 exact ⟨ad, e, hc 0 _ rfl, by rw [← add_field _ _ 1 (by omega)]; exact hc 1 _ rfl, by rw [← add_field _ _ 2 (by omega)]; exact hc 2 _ rfl, by rw [← add_field _ _ 3 (by omega)]; exact hc 3 _ rfl⟩
end Go.Proofs.Ytjmcahjcgfflgaa.PFnExactAddTimer
namespace Go.Proofs.Ytjmcahjcgfflgaa.PFnExactAddTimer
open Go.RowKit Go.Proofs.YtjmcahjcgfflgaaW.PrintWords Go.Proofs.YtjmcahjcgfflgaaW.PrintLast Go.Proofs.YtjmcahjcgfflgaaW.PrintMore
attribute [local go_sem] max2_int min2_int max_two min_two max_three min_three max_four min_four   -- for this text's walks alone
set_option linter.unusedVariables false
set_option linter.unusedSimpArgs false
def laws_szTimerS.f (l0 : List (S26)) (a1 : Int) : Option (Int) := if (wrap64 (a1 - (l0.length : Int))) < 0 then (some (-1)) else (some (wrap64 (a1 - (l0.length : Int))))
set_option maxHeartbeats 8000000 in
set_option maxRecDepth 100000 in
theorem laws_szTimerS.calls (A0 : Option Addr) (c0 : Nat) (l0 : List (S26)) (a1 : Int) (r : Int) (w : World) (hr0 : Kd.C k26 w A0 l0.length l0) (hc0 : l0.length ≤ c0) (h : laws_szTimerS.f l0 a1 = some r) :
  Calls Try.prog 22 #[.slice A0 l0.length c0, .int .i64 a1] w fun e w' => e = .returned (.int .i64 r) ∧ Drawn0 w w' := by
 have HR0 := Aside0.mk hr0
 have HC0 := Aside0.mk hc0
 clear hr0 hc0
 have H : (if (wrap64 (a1 - (l0.length : Int))) < 0 then (some (-1)) else (some (wrap64 (a1 - (l0.length : Int))))) = some r := h
 clear h
 by_cases c3 : (wrap64 (a1 - (l0.length : Int))) < 0
 ·rw [if_pos c3] at H
  have c3b0 : decide ((wrap64 (a1 - (l0.length : Int))) < 0) = true := decide_eq_true c3
  clear c3
  obtain rfl := Option.some.inj H
  go_enter Try.func22, Try.ntmps22
  go_wp2
  go_ret
  exact ⟨by first | rfl | (simp; done) | (simp [*]; done) | exact not_isEmpty _ | exact (not_isEmpty _).symm | exact is_empty _ | exact (is_empty _).symm, by repeat (first | exact Drawn0.refl _ | apply Drawn0.step)⟩
 ·rw [if_neg c3] at H
  have c3b0 : decide ((wrap64 (a1 - (l0.length : Int))) < 0) = false := decide_eq_false c3
  clear c3
  obtain rfl := Option.some.inj H
  go_enter Try.func22, Try.ntmps22
  go_wp2
  go_ret
  exact ⟨by first | rfl | (simp; done) | (simp [*]; done) | exact not_isEmpty _ | exact (not_isEmpty _).symm | exact is_empty _ | exact (is_empty _).symm, by repeat (first | exact Drawn0.refl _ | apply Drawn0.step)⟩
def laws_szClock.f (a0_0 : Int) (l0_1 : List (S26)) (a1 : Int) : Option (Int) := (laws_szTimerS.f l0_1 a1).bind fun t102 => (if t102 < 0 then (some (-1)) else (some t102))
set_option maxHeartbeats 8000000 in
set_option maxRecDepth 100000 in
theorem laws_szClock.calls (a0_0 : Int) (A0_1 : Option Addr) (c0_1 : Nat) (l0_1 : List (S26)) (a1 : Int) (r : Int) (w : World) (hr0_1 : Kd.C k26 w A0_1 l0_1.length l0_1) (hc0_1 : l0_1.length ≤ c0_1) (h : laws_szClock.f a0_0 l0_1 a1 = some r) :
  Calls Try.prog 6 #[.agg #[.int .i64 a0_0, .slice A0_1 l0_1.length c0_1], .int .i64 a1] w fun e w' => e = .returned (.int .i64 r) ∧ Below w.heap.size w w' := by
 have hu24 := Try.underlying24
 have HR0_1 := Aside0.mk hr0_1
 have HC0_1 := Aside0.mk hc0_1
 clear hr0_1 hc0_1
 have HB := Aside0.mk (Below.refl w.heap.size w)
 have H : ((laws_szTimerS.f l0_1 a1).bind fun t102 => (if t102 < 0 then (some (-1)) else (some t102))) = some r := h
 clear h
 replace H := Option.bind_eq_some_iff.mp H
 obtain ⟨t102, A30, H⟩ := H
 replace H : (if t102 < 0 then (some (-1)) else (some t102)) = some r := H
 have A3 := Aside0.mk A30
 clear A30
 by_cases c4 : t102 < 0
 ·rw [if_pos c4] at H
  have c4b0 : decide (t102 < 0) = true := decide_eq_true c4
  clear c4
  obtain rfl := Option.some.inj H
  go_enter Try.func6, Try.ntmps6
  go_wp2_with (first | ((with_reducible refine gate_dst (N := 2) rfl ?_); refine box_event rfl (N := 2) rfl (cs := #[.int .i64 a0_0, .slice A0_1 l0_1.length c0_1]) (t := 24) sE ?_; intro gb101 hg w5 hbox hb; have BK101 := Aside0.mk hbox; have GW101 := gS w hg (lU); have GE101 := gS w hg (lU); replace HB := bH (lU) hb; clear hb hbox hg; have hcz6_0 := cz BK101 0 (.int .i64 a0_0); have hcz6_1 := cz BK101 1 (.slice A0_1 l0_1.length c0_1); have hfz6_0 := fz BK101 0; have hfz6_1 := fz BK101 1) | ((with_reducible refine gate_callee (f := 22) rfl ?_); refine goesL_ (some 8) rfl rfl Try.func22 (by kernel_rfl) rfl #[.slice A0_1 l0_1.length c0_1, .int .i64 a1] rfl aE ?_; (with_reducible refine (laws_szTimerS.calls _ _ l0_1 a1 t102 _ ?side1 ?side2 A3.out).mono ?_); (case side1 => exact cU (Kd.C_below HR0_1.out HB.out)); (case side2 => exact HC0_1.out); rintro e w' ⟨rfl, ⟨nd, rfl⟩⟩; refine ⟨_, rfl, ?_⟩))
  go_ret
  exact ⟨eE, lV1 GE101⟩
 ·rw [if_neg c4] at H
  have c4b0 : decide (t102 < 0) = false := decide_eq_false c4
  clear c4
  obtain rfl := Option.some.inj H
  go_enter Try.func6, Try.ntmps6
  go_wp2_with (first | ((with_reducible refine gate_dst (N := 2) rfl ?_); refine box_event rfl (N := 2) rfl (cs := #[.int .i64 a0_0, .slice A0_1 l0_1.length c0_1]) (t := 24) sE ?_; intro gb101 hg w7 hbox hb; have BK101 := Aside0.mk hbox; have GW101 := gS w hg (lU); have GE101 := gS w hg (lU); replace HB := bH (lU) hb; clear hb hbox hg; have hcz8_0 := cz BK101 0 (.int .i64 a0_0); have hcz8_1 := cz BK101 1 (.slice A0_1 l0_1.length c0_1); have hfz8_0 := fz BK101 0; have hfz8_1 := fz BK101 1) | ((with_reducible refine gate_callee (f := 22) rfl ?_); refine goesL_ (some 8) rfl rfl Try.func22 (by kernel_rfl) rfl #[.slice A0_1 l0_1.length c0_1, .int .i64 a1] rfl aE ?_; (with_reducible refine (laws_szTimerS.calls _ _ l0_1 a1 t102 _ ?side1 ?side2 A3.out).mono ?_); (case side1 => exact cU (Kd.C_below HR0_1.out HB.out)); (case side2 => exact HC0_1.out); rintro e w' ⟨rfl, ⟨nd, rfl⟩⟩; refine ⟨_, rfl, ?_⟩))
  go_ret
  exact ⟨eE, lV1 GE101⟩
def spec_l1In.f (a0 : Int) (a1 : Int) (a2 : Int) : Option (Bool) := if a0 ≥ a1 then (some (decide (a0 ≤ a2))) else (some false)
set_option maxHeartbeats 8000000 in
set_option maxRecDepth 100000 in
theorem spec_l1In.calls (a0 : Int) (a1 : Int) (a2 : Int) (r : Bool) (w : World) (h : spec_l1In.f a0 a1 a2 = some r) :
  Calls Try.prog 51 #[.int .i64 a0, .int .i64 a1, .int .i64 a2] w fun e w' => e = .returned (.bool r) ∧ Drawn0 w w' := by
 have H : (if a0 ≥ a1 then (some (decide (a0 ≤ a2))) else (some false)) = some r := h
 clear h
 by_cases c4 : a0 ≥ a1
 ·rw [if_pos c4] at H
  have c4b0 : decide (a1 ≤ a0) = true := decide_eq_true c4
  clear c4
  obtain rfl := Option.some.inj H
  go_enter Try.func51, Try.ntmps51
  go_wp2
  go_ret
  exact ⟨by first | rfl | (simp; done) | (simp [*]; done) | exact not_isEmpty _ | exact (not_isEmpty _).symm | exact is_empty _ | exact (is_empty _).symm, by repeat (first | exact Drawn0.refl _ | apply Drawn0.step)⟩
 ·rw [if_neg c4] at H
  have c4b0 : decide (a1 ≤ a0) = false := decide_eq_false c4
  clear c4
  obtain rfl := Option.some.inj H
  go_enter Try.func51, Try.ntmps51
  go_wp2
  go_ret
  exact ⟨by first | rfl | (simp; done) | (simp [*]; done) | exact not_isEmpty _ | exact (not_isEmpty _).symm | exact is_empty _ | exact (is_empty _).symm, by repeat (first | exact Drawn0.refl _ | apply Drawn0.step)⟩
end Go.Proofs.Ytjmcahjcgfflgaa.PFnExactAddTimer
namespace Go.Proofs.Ytjmcahjcgfflgaa.PFnExactAddTimer
open Go.RowKit Go.Proofs.YtjmcahjcgfflgaaW.PrintWords Go.Proofs.YtjmcahjcgfflgaaW.PrintLast Go.Proofs.YtjmcahjcgfflgaaW.PrintMore
attribute [local go_sem] max2_int min2_int max_two min_two max_three min_three max_four min_four   -- for this text's walks alone
set_option linter.unusedVariables false
set_option linter.unusedSimpArgs false
mutual
def spec_GoodClock.j0 : Nat → Bool → Int → List (S34) → Option (Bool)
 | 0, _, _, _ => none
 | k + 1, x14, x104000, x104001 => if x14 = true then (some false) else (spec_GoodClock.l0 k x104001 (x104001.length : Int) 0 x104000 x104001)
def spec_GoodClock.l0 : Nat → List (S34) → Int → Int → Int → List (S34) → Option (Bool)
 | 0, _, _, _, _, _ => none
 | k + 1, x16, x17, x18, x104000, x104001 => if x18 < x17 then (if 0 ≤ x18 then (if x18 < (x16.length : Int) then ((spec_l1In.f ((rd_T34 x16 x18).f0) 0 999).bind fun t107 => (if t107 = true then (if x18 > 0 then (if 0 ≤ (wrap64 (x18 - 1)) then (if (wrap64 (x18 - 1)) < (x104001.length : Int) then (if ((rd_T34 x104001 (wrap64 (x18 - 1))).f0) ≥ ((rd_T34 x16 x18).f0) then (some false) else ((spec_l1In.f ((rd_T34 x16 x18).f1) (wrap64 (x104000 + 1)) 200000).bind fun t109 => (if t109 = true then ((spec_l1In.f ((rd_T34 x16 x18).f2) 0 100000).bind fun t110 => (if t110 = true then ((spec_l1In.f ((rd_T34 x16 x18).f3) 1 1000).bind fun t111 => (if t111 = true then (if ((rd_T34 x16 x18).f2) = 0 then (if ((rd_T34 x16 x18).f3) = 1 then (spec_GoodClock.l0 k x16 x17 (wrap64 (x18 + 1)) x104000 x104001) else (some false)) else (spec_GoodClock.l0 k x16 x17 (wrap64 (x18 + 1)) x104000 x104001)) else (some false))) else (some false))) else (some false)))) else (none)) else (none)) else ((spec_l1In.f ((rd_T34 x16 x18).f1) (wrap64 (x104000 + 1)) 200000).bind fun t112 => (if t112 = true then ((spec_l1In.f ((rd_T34 x16 x18).f2) 0 100000).bind fun t113 => (if t113 = true then ((spec_l1In.f ((rd_T34 x16 x18).f3) 1 1000).bind fun t114 => (if t114 = true then (if ((rd_T34 x16 x18).f2) = 0 then (if ((rd_T34 x16 x18).f3) = 1 then (spec_GoodClock.l0 k x16 x17 (wrap64 (x18 + 1)) x104000 x104001) else (some false)) else (spec_GoodClock.l0 k x16 x17 (wrap64 (x18 + 1)) x104000 x104001)) else (some false))) else (some false))) else (some false)))) else (some false))) else (none)) else (none)) else (some true)
end
def spec_GoodClock.f (k : Nat) (a0_0 : Int) (l0_1 : List (S34)) : Option (Bool) := (spec_l1In.f a0_0 0 100000).bind fun t104 => (if t104 = true then (spec_GoodClock.j0 k (decide ((l0_1.length : Int) > 20)) a0_0 l0_1) else (spec_GoodClock.j0 k true a0_0 l0_1))
theorem spec_GoodClock.mono_l : ∀ k, (∀ y0 y1 y2, LeO (spec_GoodClock.j0 k y0 y1 y2) (spec_GoodClock.j0 (k + 1) y0 y1 y2)) ∧ (∀ y0 y1 y2 y3 y4, LeO (spec_GoodClock.l0 k y0 y1 y2 y3 y4) (spec_GoodClock.l0 (k + 1) y0 y1 y2 y3 y4))
 | 0 => ⟨fun _ _ _ r h => by simp [spec_GoodClock.j0] at h, fun _ _ _ _ _ r h => by simp [spec_GoodClock.l0] at h⟩
 | k + 1 => by
  obtain ⟨ih0, ih1⟩ := spec_GoodClock.mono_l k
  refine ⟨?_, ?_⟩
  ·intro y0 y1 y2
   unfold spec_GoodClock.j0
   repeat' first
   | (with_reducible exact ih0 _ _ _)
   | (with_reducible exact ih1 _ _ _ _ _)
   | (with_reducible exact LeO.refl _)
   | (with_reducible exact LeO.none _)
   | (with_reducible refine LeO.ite ?_ ?_)
   | (with_reducible refine LeO.bind ?_ (fun _ => ?_))
   | exact ih0 _ _ _
   | exact ih1 _ _ _ _ _
   | exact LeO.none _
   | refine LeO.ite ?_ ?_
   | refine LeO.bind ?_ (fun _ => ?_)
  ·intro y0 y1 y2 y3 y4
   unfold spec_GoodClock.l0
   repeat' first
   | (with_reducible exact ih0 _ _ _)
   | (with_reducible exact ih1 _ _ _ _ _)
   | (with_reducible exact LeO.refl _)
   | (with_reducible exact LeO.none _)
   | (with_reducible refine LeO.ite ?_ ?_)
   | (with_reducible refine LeO.bind ?_ (fun _ => ?_))
   | exact ih0 _ _ _
   | exact ih1 _ _ _ _ _
   | exact LeO.none _
   | refine LeO.ite ?_ ?_
   | refine LeO.bind ?_ (fun _ => ?_)
theorem spec_GoodClock.mono : ∀ a0 a1 k, LeO (spec_GoodClock.f k a0 a1) (spec_GoodClock.f (k + 1) a0 a1) := by
 intro a0 a1 k
 obtain ⟨ih0, ih1⟩ := spec_GoodClock.mono_l k
 unfold spec_GoodClock.f
 repeat' first
   | (with_reducible exact ih0 _ _ _)
   | (with_reducible exact ih1 _ _ _ _ _)
   | (with_reducible exact LeO.refl _)
   | (with_reducible exact LeO.none _)
   | (with_reducible refine LeO.ite ?_ ?_)
   | (with_reducible refine LeO.bind ?_ (fun _ => ?_))
   | exact ih0 _ _ _
   | exact ih1 _ _ _ _ _
   | exact LeO.none _
   | refine LeO.ite ?_ ?_
   | refine LeO.bind ?_ (fun _ => ?_)
def spec_GoodClock.T6 : Bool × List (List Nat × List Nat) := (true, [([], []), ([0], [0]), ([1], [1]), ([2], [2]), ([3, 2], [3]), ([4], [4]), ([5, 4], [4, 5]), ([6, 4, 4], [4, 6]), ([7], [7]), ([8, 7], [7, 8]), ([7], [7]), ([10, 7], [7, 10]), ([9, 11, 7], [7, 9, 11]), ([12, 7], [7, 12]), ([13, 7], [7, 13]), ([7], [7]), ([15, 7], [7, 15]), ([14, 16, 7], [7, 14, 16]), ([7, 17, 4], [4, 7, 17]), ([4, 18], [4, 18]), ([19, 7], [19]), ([20], [20]), ([21, 20], [20, 21]), ([20], [20]), ([23, 20], [20, 23]), ([24, 20], [20, 24]), ([22, 25, 20, 20], [20, 22, 25]), ([26, 20], [20, 26]), ([20, 27], [20, 27]), ([28, 26], [28]), ([29], [29]), ([30, 29], [29, 30]), ([31, 29, 29], [29, 31]), ([32, 29], [29, 32]), ([29, 33], [29, 33]), ([34, 32], [34]), ([35], [35]), ([36, 35], [35, 36]), ([37, 35, 35], [35, 37]), ([38, 35], [35, 38]), ([35, 39], [35, 39]), ([40, 38], [40]), ([41], [41]), ([42, 41], [41, 42]), ([43, 41], [41, 43]), ([44, 41, 41], [41, 44]), ([45], [45]), ([46, 45], [45, 46]), ([47, 45], [45, 47]), ([45, 48, 41], [41, 45, 48]), ([41, 49], [41, 49])])
def spec_GoodClock.B6 : List Nat := [0, 1, 3, 7, 15, 31, 63, 127, 255, 511, 255, 1279, 4095, 8191, 16383, 255, 33023, 131071, 262143, 524287, 1048575, 2097151, 4194303, 2097151, 10485759, 27262975, 67108863, 134217727, 268435455, 536870911, 1073741823, 2147483647, 4294967295, 8589934591, 17179869183, 34359738367, 68719476735, 137438953471, 274877906943, 549755813887, 1099511627775, 2199023255551, 4398046511103, 8796093022207, 17592186044415, 35184372088831, 70368744177663, 140737488355327, 281474976710655, 562949953421311, 1125899906842623]
theorem spec_GoodClock.tab6 : rtab .any (opsOf Try.f23 6) = spec_GoodClock.T6 := by kernel_rfl
theorem spec_GoodClock.bits6 : waitsOk spec_GoodClock.T6.2 spec_GoodClock.B6 = true := by kernel_rfl
set_option maxHeartbeats 8000000 in
set_option maxRecDepth 100000 in
theorem spec_GoodClock.calls (k : Nat) (a0_0 : Int) (A0_1 : Option Addr) (c0_1 : Nat) (l0_1 : List (S34)) (r : Bool) (w : World) (hr0_1 : Kd.C k34 w A0_1 l0_1.length l0_1) (hc0_1 : l0_1.length ≤ c0_1) (h : spec_GoodClock.f k a0_0 l0_1 = some r) :
  Calls Try.prog 23 #[.agg #[.int .i64 a0_0, .slice A0_1 l0_1.length c0_1]] w fun e w' => e = .returned (.bool r) ∧ Below w.heap.size w w' := by
 have hu30 := Try.underlying30
 have hu34 := Try.underlying34
 have HR0_1 := Aside0.mk hr0_1
 have HC0_1 := Aside0.mk hc0_1
 clear hr0_1 hc0_1
 have HB := Aside0.mk (Below.refl w.heap.size w)
 have H : ((spec_l1In.f a0_0 0 100000).bind fun t104 => (if t104 = true then (spec_GoodClock.j0 k (decide ((l0_1.length : Int) > 20)) a0_0 l0_1) else (spec_GoodClock.j0 k true a0_0 l0_1))) = some r := h
 clear h
 have HC2 := Aside0.mk H
 clear H
 go_enter Try.func23, Try.ntmps23
 go_upto_region 1 with (first | ((with_reducible refine gate_dst (N := 1) rfl ?_); (try (refine gate_guard (by rfl) ?_; dsimp only)); refine box_event rfl (N := 1) rfl (cs := #[.int .i64 a0_0, .slice A0_1 l0_1.length c0_1]) (t := 30) sE ?_; intro gb103 hg w3 hbox hb; have BK103 := Aside0.mk hbox; have GW103 := gS w hg (lU); have GE103 := gS w hg (lU); replace HB := bH (lU) hb; clear hb hbox hg))
 (try simp only [Act.put, List.setIfInBounds_toArray, List.set_cons_zero, List.set_cons_succ])
 go_cut [14] (fun v14 wc => ∃ (kq : Nat) (x14_1 : Bool), v14 = .bool x14_1 ∧ Aside0 (spec_GoodClock.j0 kq x14_1 a0_0 l0_1 = some r) ∧ Aside0 (kq ≤ k) ∧ Aside0 (wc.heap[gb103]? = some (.cells #[.int .i64 a0_0, (.slice A0_1 l0_1.length c0_1)] 30 (0, 0))) ∧ Aside0 (Below w.heap.size w wc))
 case first =>
  have H := HC2.out
  clear HC2
  replace H := Option.bind_eq_some_iff.mp H
  obtain ⟨t104, A40, H⟩ := H
  replace H : (if t104 = true then (spec_GoodClock.j0 k (decide ((l0_1.length : Int) > 20)) a0_0 l0_1) else (spec_GoodClock.j0 k true a0_0 l0_1)) = some r := H
  have A4 := Aside0.mk A40
  clear A40
  by_cases c5 : t104 = true
  ·subst c5
   have H1 : (spec_GoodClock.j0 k (decide ((l0_1.length : Int) > 20)) a0_0 l0_1) = some r := by rw [if_pos rfl] at H; exact H
   clear H
   have H := H1
   clear H1
   have H' := Aside0.mk H
   clear H
   have hcz6_0 := cz BK103 0 (.int .i64 a0_0)
   have hcz6_1 := cz BK103 1 (.slice A0_1 l0_1.length c0_1)
   have hfz6_0 := fz BK103 0
   have hfz6_1 := fz BK103 1
   go_wp2_with (first | ((with_reducible refine gate_callee (f := 51) rfl ?_); refine goesL_ (some 7) rfl rfl Try.func51 (by kernel_rfl) rfl #[.int .i64 a0_0, .int .i64 0, .int .i64 100000] rfl aE ?_; (with_reducible refine (spec_l1In.calls a0_0 0 100000 true _ A4.out).mono ?_); rintro e w' ⟨rfl, ⟨nd, rfl⟩⟩; refine ⟨_, rfl, ?_⟩))
   go_meet
   case rel => exact ⟨_, (decide ((l0_1.length : Int) > 20)), tE, H', ⟨by first | omega | exact Nat.le_refl _⟩, ⟨by refine bU ?_; exact BK103.out⟩, ⟨by repeat (first | (with_reducible first | exact HB.out | apply below_alloc | apply pw_below_drewN | apply below_drew1 | refine below_set ?_ GE103.out) | exact HB.out)⟩⟩
  ·replace c5 := Bool.eq_false_iff.mpr c5
   subst c5
   have H1 : (spec_GoodClock.j0 k true a0_0 l0_1) = some r := by rw [if_neg (show ¬ (false = true) by decide)] at H; exact H
   clear H
   have H := H1
   clear H1
   have H' := Aside0.mk H
   clear H
   have hcz7_0 := cz BK103 0 (.int .i64 a0_0)
   have hcz7_1 := cz BK103 1 (.slice A0_1 l0_1.length c0_1)
   have hfz7_0 := fz BK103 0
   have hfz7_1 := fz BK103 1
   go_wp2_with (first | ((with_reducible refine gate_callee (f := 51) rfl ?_); refine goesL_ (some 7) rfl rfl Try.func51 (by kernel_rfl) rfl #[.int .i64 a0_0, .int .i64 0, .int .i64 100000] rfl aE ?_; (with_reducible refine (spec_l1In.calls a0_0 0 100000 false _ A4.out).mono ?_); rintro e w' ⟨rfl, ⟨nd, rfl⟩⟩; refine ⟨_, rfl, ?_⟩))
   go_meet
   case rel => exact ⟨_, (true), tE, H', ⟨by first | omega | exact Nat.le_refl _⟩, ⟨by refine bU ?_; exact BK103.out⟩, ⟨by repeat (first | (with_reducible first | exact HB.out | apply below_alloc | apply pw_below_drewN | apply below_drew1 | refine below_set ?_ GE103.out) | exact HB.out)⟩⟩
 case rest =>
  clear HC2
  try clear c2
  try clear p2
  try clear c5
  try clear hcz6_0
  try clear hcz6_1
  try clear hcz7_0
  try clear hcz7_1
  try clear hfz6_0
  try clear hfz6_1
  try clear hfz7_0
  try clear hfz7_1
  obtain ⟨kq, x14_1, rfl, HA, HJ1, BK103, HB⟩ := hcut
  cases kq with
  | zero => exact absurd HA.out (by simp [spec_GoodClock.j0])
  | succ kj1 =>
   have H := HA.out
   clear HA
   simp only [spec_GoodClock.j0] at H
   by_cases c8 : x14_1 = true
   ·subst c8
    have H1 : (some false) = some r := by rw [if_pos rfl] at H; exact H
    clear H
    have H := H1
    clear H1
    obtain rfl := Option.some.inj H
    go_wp2
    go_ret
    exact ⟨eE, lV1 GE103⟩
   ·replace c8 := Bool.eq_false_iff.mpr c8
    subst c8
    have H1 : (spec_GoodClock.l0 kj1 l0_1 (l0_1.length : Int) 0 a0_0 l0_1) = some r := by rw [if_neg (show ¬ (false = true) by decide)] at H; exact H
    clear H
    have H := H1
    clear H1
    have H' := Aside0.mk H
    clear H
    have hcz9_0 := cz BK103 0 (.int .i64 a0_0)
    have hcz9_1 := cz BK103 1 (.slice A0_1 l0_1.length c0_1)
    have hfz9_0 := fz BK103 0
    have hfz9_1 := fz BK103 1
    go_wp2
    go_loopg [18] kj1 (fun kq v18 w' => ∃ (x18_2 : Int), v18 = .int .i64 x18_2 ∧ Aside0 (spec_GoodClock.l0 kq l0_1 (l0_1.length : Int) x18_2 a0_0 l0_1 = some r) ∧ Aside0 (kq ≤ kj1) ∧ Aside0 (w'.heap[gb103]? = some (.cells #[.int .i64 a0_0, (.slice A0_1 l0_1.length c0_1)] 30 (0, 0))) ∧ Aside0 (Below w.heap.size w w'))
    case atStart => exact ⟨(0), tE, H', ⟨Nat.le_refl _⟩, ⟨by refine bU ?_; exact BK103.out⟩, ⟨by repeat (first | (with_reducible first | exact HB.out | apply below_alloc | apply pw_below_drewN | apply below_drew1 | refine below_set ?_ GE103.out) | exact HB.out)⟩⟩
    case round =>
     clear H'
     try clear c2
     try clear p2
     try clear c5
     try clear c8
     try clear hcz6_0
     try clear hcz6_1
     try clear hcz7_0
     try clear hcz7_1
     try clear hcz9_0
     try clear hcz9_1
     try clear hfz6_0
     try clear hfz6_1
     try clear hfz7_0
     try clear hfz7_1
     try clear hfz9_0
     try clear hfz9_1
     try clear p2
     obtain ⟨x18_2, rfl, HA, HK2, BK103, HB⟩ := hrel
     cases gk with
     | zero => exact absurd HA.out (by simp [spec_GoodClock.l0])
     | succ k2 =>
      have H := HA.out
      clear HA
      simp only [spec_GoodClock.l0] at H
      by_cases c10 : x18_2 < (l0_1.length : Int)
      ·rw [if_pos c10] at H
       have c10b0 : decide (x18_2 < (l0_1.length : Int)) = true := decide_eq_true c10
       clear c10
       by_cases c11 : 0 ≤ x18_2
       ·rw [if_pos c11] at H
        have c11b0 : decide (0 ≤ x18_2) = true := decide_eq_true c11
        clear c11
        by_cases c12 : x18_2 < (l0_1.length : Int)
        ·rw [if_pos c12] at H
         have c12b0 : decide (x18_2 < (l0_1.length : Int)) = true := decide_eq_true c12
         clear c12
         replace H := Option.bind_eq_some_iff.mp H
         obtain ⟨t107, A130, H⟩ := H
         replace H : (if t107 = true then (if x18_2 > 0 then (if 0 ≤ (wrap64 (x18_2 - 1)) then (if (wrap64 (x18_2 - 1)) < (l0_1.length : Int) then (if ((rd_T34 l0_1 (wrap64 (x18_2 - 1))).f0) ≥ ((rd_T34 l0_1 x18_2).f0) then (some false) else ((spec_l1In.f ((rd_T34 l0_1 x18_2).f1) (wrap64 (a0_0 + 1)) 200000).bind fun t109 => (if t109 = true then ((spec_l1In.f ((rd_T34 l0_1 x18_2).f2) 0 100000).bind fun t110 => (if t110 = true then ((spec_l1In.f ((rd_T34 l0_1 x18_2).f3) 1 1000).bind fun t111 => (if t111 = true then (if ((rd_T34 l0_1 x18_2).f2) = 0 then (if ((rd_T34 l0_1 x18_2).f3) = 1 then (spec_GoodClock.l0 k2 l0_1 (l0_1.length : Int) (wrap64 (x18_2 + 1)) a0_0 l0_1) else (some false)) else (spec_GoodClock.l0 k2 l0_1 (l0_1.length : Int) (wrap64 (x18_2 + 1)) a0_0 l0_1)) else (some false))) else (some false))) else (some false)))) else (none)) else (none)) else ((spec_l1In.f ((rd_T34 l0_1 x18_2).f1) (wrap64 (a0_0 + 1)) 200000).bind fun t112 => (if t112 = true then ((spec_l1In.f ((rd_T34 l0_1 x18_2).f2) 0 100000).bind fun t113 => (if t113 = true then ((spec_l1In.f ((rd_T34 l0_1 x18_2).f3) 1 1000).bind fun t114 => (if t114 = true then (if ((rd_T34 l0_1 x18_2).f2) = 0 then (if ((rd_T34 l0_1 x18_2).f3) = 1 then (spec_GoodClock.l0 k2 l0_1 (l0_1.length : Int) (wrap64 (x18_2 + 1)) a0_0 l0_1) else (some false)) else (spec_GoodClock.l0 k2 l0_1 (l0_1.length : Int) (wrap64 (x18_2 + 1)) a0_0 l0_1)) else (some false))) else (some false))) else (some false)))) else (some false)) = some r := H
         have A13 := Aside0.mk A130
         clear A130
         by_cases c14 : t107 = true
         ·subst c14
          have H1 : (if x18_2 > 0 then (if 0 ≤ (wrap64 (x18_2 - 1)) then (if (wrap64 (x18_2 - 1)) < (l0_1.length : Int) then (if ((rd_T34 l0_1 (wrap64 (x18_2 - 1))).f0) ≥ ((rd_T34 l0_1 x18_2).f0) then (some false) else ((spec_l1In.f ((rd_T34 l0_1 x18_2).f1) (wrap64 (a0_0 + 1)) 200000).bind fun t109 => (if t109 = true then ((spec_l1In.f ((rd_T34 l0_1 x18_2).f2) 0 100000).bind fun t110 => (if t110 = true then ((spec_l1In.f ((rd_T34 l0_1 x18_2).f3) 1 1000).bind fun t111 => (if t111 = true then (if ((rd_T34 l0_1 x18_2).f2) = 0 then (if ((rd_T34 l0_1 x18_2).f3) = 1 then (spec_GoodClock.l0 k2 l0_1 (l0_1.length : Int) (wrap64 (x18_2 + 1)) a0_0 l0_1) else (some false)) else (spec_GoodClock.l0 k2 l0_1 (l0_1.length : Int) (wrap64 (x18_2 + 1)) a0_0 l0_1)) else (some false))) else (some false))) else (some false)))) else (none)) else (none)) else ((spec_l1In.f ((rd_T34 l0_1 x18_2).f1) (wrap64 (a0_0 + 1)) 200000).bind fun t112 => (if t112 = true then ((spec_l1In.f ((rd_T34 l0_1 x18_2).f2) 0 100000).bind fun t113 => (if t113 = true then ((spec_l1In.f ((rd_T34 l0_1 x18_2).f3) 1 1000).bind fun t114 => (if t114 = true then (if ((rd_T34 l0_1 x18_2).f2) = 0 then (if ((rd_T34 l0_1 x18_2).f3) = 1 then (spec_GoodClock.l0 k2 l0_1 (l0_1.length : Int) (wrap64 (x18_2 + 1)) a0_0 l0_1) else (some false)) else (spec_GoodClock.l0 k2 l0_1 (l0_1.length : Int) (wrap64 (x18_2 + 1)) a0_0 l0_1)) else (some false))) else (some false))) else (some false)))) = some r := by rw [if_pos rfl] at H; exact H
          clear H
          have H := H1
          clear H1
          by_cases c15 : x18_2 > 0
          ·rw [if_pos c15] at H
           have c15b0 : decide (0 < x18_2) = true := decide_eq_true c15
           clear c15
           obtain ⟨ji16, hji16⟩ : ∃ j_ : Int, (wrap64 (x18_2 - 1)) = j_ := ⟨_, rfl⟩
           replace H : (if 0 ≤ (ji16) then (if (ji16) < (l0_1.length : Int) then (if ((rd_T34 l0_1 (ji16)).f0) ≥ ((rd_T34 l0_1 x18_2).f0) then (some false) else ((spec_l1In.f ((rd_T34 l0_1 x18_2).f1) (wrap64 (a0_0 + 1)) 200000).bind fun t109 => (if t109 = true then ((spec_l1In.f ((rd_T34 l0_1 x18_2).f2) 0 100000).bind fun t110 => (if t110 = true then ((spec_l1In.f ((rd_T34 l0_1 x18_2).f3) 1 1000).bind fun t111 => (if t111 = true then (if ((rd_T34 l0_1 x18_2).f2) = 0 then (if ((rd_T34 l0_1 x18_2).f3) = 1 then (spec_GoodClock.l0 k2 l0_1 (l0_1.length : Int) (wrap64 (x18_2 + 1)) a0_0 l0_1) else (some false)) else (spec_GoodClock.l0 k2 l0_1 (l0_1.length : Int) (wrap64 (x18_2 + 1)) a0_0 l0_1)) else (some false))) else (some false))) else (some false)))) else (none)) else (none)) = some r := by first | (rw [hji16] at H; exact H) | (simp only [hji16] at H ⊢; exact H)
           (try rw [hji16] at A13)
           have hji16w : (IntKind.i64.wrap (x18_2 - 1)) = ji16 := (i64_w _).trans hji16
           by_cases c17 : 0 ≤ (ji16)
           ·rw [if_pos c17] at H
            have c17b0 : decide (0 ≤ (ji16)) = true := decide_eq_true c17
            clear c17
            by_cases c18 : (ji16) < (l0_1.length : Int)
            ·rw [if_pos c18] at H
             have c18b0 : decide ((ji16) < (l0_1.length : Int)) = true := decide_eq_true c18
             clear c18
             by_cases c19 : ((rd_T34 l0_1 (ji16)).f0) ≥ ((rd_T34 l0_1 x18_2).f0)
             ·rw [if_pos c19] at H
              have c19b0 : decide (((rd_T34 l0_1 x18_2).f0) ≤ ((rd_T34 l0_1 (ji16)).f0)) = true := decide_eq_true c19
              clear c19
              obtain rfl := Option.some.inj H
              have p105 : 0 ≤ (x18_2 : Int) := of_decide_eq_true hE
              have q105 : x18_2 < (l0_1.length : Int) := of_decide_eq_true hE
              obtain ⟨ad105, e105, hx105_0, hx105_1, hx105_2, hx105_3⟩ := at_T34 HR0_1.out x18_2 p105 q105
              cases e105
              replace hx105_0 := (HB.out.cell (World.block_lt_of_cell? w _ hx105_0)).trans hx105_0
              replace hx105_1 := (HB.out.cell (World.block_lt_of_cell? w _ hx105_1)).trans hx105_1
              replace hx105_2 := (HB.out.cell (World.block_lt_of_cell? w _ hx105_2)).trans hx105_2
              replace hx105_3 := (HB.out.cell (World.block_lt_of_cell? w _ hx105_3)).trans hx105_3
              replace p105 := eq_true p105
              replace q105 := eq_true q105
              try go_wp2_with (first | ((with_reducible refine gate_dst (N := 4) rfl ?_); (try (refine gate_guard (by rfl) ?_; dsimp only)); refine box_event rfl (N := 4) rfl (cs := #[.int .i64 0, .int .i64 0, .int .i64 0, .int .i64 0]) (t := 34) sE ?_; intro gb106 hg w20 hbox hb; have BK106 := Aside0.mk hbox; have GW106 := gS w hg (lV1 GE103); have GE106 := gS w hg (lV1 GE103); replace HB := bH (lV1 GE103) hb; have NB103_106 := nL hg (bV BK103); have NB106_103 := nG hg (bV BK103); replace BK103 := bB (bV BK103) hb; clear hb hbox hg; have hnb21 := NB106_103.out; have hnc21 := NB103_106.out; have hcz22_0 := cz BK106 0 (.int .i64 0); have hcz22_1 := cz BK106 1 (.int .i64 0); have hcz22_2 := cz BK106 2 (.int .i64 0); have hcz22_3 := cz BK106 3 (.int .i64 0); have hfz22_0 := fz BK106 0; have hfz22_1 := fz BK106 1; have hfz22_2 := fz BK106 2; have hfz22_3 := fz BK106 3) | ((with_reducible refine gate_store (t := 34) (p := 4) rfl ?_); refine store_event (t := 34) (p := 4) (v := ?vo_w23) (w1 := ((((w20.setCell ⟨gb106, 0, none⟩ (.int .i64 ((rd_T34 l0_1 x18_2).f0))).setCell ⟨gb106, 1, none⟩ (.int .i64 ((rd_T34 l0_1 x18_2).f1))).setCell ⟨gb106, 2, none⟩ (.int .i64 ((rd_T34 l0_1 x18_2).f2))).setCell ⟨gb106, 3, none⟩ (.int .i64 ((rd_T34 l0_1 x18_2).f3)))) ?hg ?ho ?hn ?hr ?_; (case ho => rfl); (case hg => rfl); (case hn => rfl); (case hr => first | (go_simp; done) | (go_simp; rfl) | (have hq0_ := (blk_cell BK106.out 0).trans (show _ = some _ from rfl); have hf0_ := blk_frozen BK106.out 0; have hq1_ := (blk_cell BK106.out 1).trans (show _ = some _ from rfl); have hf1_ := blk_frozen BK106.out 1; have hq2_ := (blk_cell BK106.out 2).trans (show _ = some _ from rfl); have hf2_ := blk_frozen BK106.out 2; have hq3_ := (blk_cell BK106.out 3).trans (show _ = some _ from rfl); have hf3_ := blk_frozen BK106.out 3; first | (go_simp; done) | (go_simp; rfl))); intro w23 hw; replace BK103 : Aside0 (w23.heap[gb103]? = some (.cells #[.int .i64 a0_0, .slice (some ad105) l0_1.length c0_1] 30 (0, 0))) := ⟨(by rw [hw]; exact (bG NB103_106 BK103))⟩; replace BK106 : Aside0 (w23.heap[gb106]? = some (.cells #[.int .i64 ((rd_T34 l0_1 x18_2).f0), .int .i64 ((rd_T34 l0_1 x18_2).f1), .int .i64 ((rd_T34 l0_1 x18_2).f2), .int .i64 ((rd_T34 l0_1 x18_2).f3)] 34 (0, 0))) := ⟨(by rw [hw]; exact (by refine bU ?_; refine blk_put (cs := #[.int .i64 ((rd_T34 l0_1 x18_2).f0), .int .i64 ((rd_T34 l0_1 x18_2).f1), .int .i64 ((rd_T34 l0_1 x18_2).f2), .int .i64 0]) ?_ 3 _ rfl; refine bU ?_; refine blk_put (cs := #[.int .i64 ((rd_T34 l0_1 x18_2).f0), .int .i64 ((rd_T34 l0_1 x18_2).f1), .int .i64 0, .int .i64 0]) ?_ 2 _ rfl; refine bU ?_; refine blk_put (cs := #[.int .i64 ((rd_T34 l0_1 x18_2).f0), .int .i64 0, .int .i64 0, .int .i64 0]) ?_ 1 _ rfl; refine bU ?_; refine blk_put (cs := #[.int .i64 0, .int .i64 0, .int .i64 0, .int .i64 0]) ?_ 0 _ rfl; refine bU ?_; exact BK106.out))⟩; replace HB : Aside0 (Below w.heap.size w w23) := ⟨(by rw [hw]; exact (lV2 GE103 GE106))⟩; clear hw))
              replace BK103 := Aside0.mk (blk_drew BK103.out)
              replace BK106 := Aside0.mk (blk_drew BK106.out)
              replace HB := Aside0.mk (below_drew1 HB.out)
              have p108 : 0 ≤ ((ji16) : Int) := of_decide_eq_true hE
              have q108 : (ji16) < (l0_1.length : Int) := of_decide_eq_true hE
              obtain ⟨ad108, e108, hx108_0, hx108_1, hx108_2, hx108_3⟩ := at_T34 HR0_1.out (ji16) p108 q108
              have hw108_3 := hx108_3
              have hw108_2 := hx108_2
              have hw108_1 := hx108_1
              have hw108_0 := hx108_0
              obtain rfl : ad105 = ad108 := (by injection e108)
              replace hx108_0 := (HB.out.cell (World.block_lt_of_cell? w _ hx108_0)).trans hx108_0
              replace hx108_1 := (HB.out.cell (World.block_lt_of_cell? w _ hx108_1)).trans hx108_1
              replace hx108_2 := (HB.out.cell (World.block_lt_of_cell? w _ hx108_2)).trans hx108_2
              replace hx108_3 := (HB.out.cell (World.block_lt_of_cell? w _ hx108_3)).trans hx108_3
              replace p108 := eq_true p108
              replace q108 := eq_true q108
              refine start_ (n := 51) (S := fun w' => w'.cell? ⟨gb106, 0, none⟩ = some (.int .i64 ((rd_T34 l0_1 x18_2).f0)) ∧ w'.cell? ⟨gb106, 1, none⟩ = some (.int .i64 ((rd_T34 l0_1 x18_2).f1)) ∧ w'.cell? ⟨gb106, 2, none⟩ = some (.int .i64 ((rd_T34 l0_1 x18_2).f2)) ∧ w'.cell? ⟨gb106, 3, none⟩ = some (.int .i64 ((rd_T34 l0_1 x18_2).f3)) ∧ w'.cell? ⟨gb103, 0, none⟩ = some (.int .i64 a0_0) ∧ w'.cell? ⟨gb103, 1, none⟩ = some (.slice (some ad105) l0_1.length c0_1) ∧ w'.cell? (ad105.add (((ji16)).toNat * 4)) = some (.int .i64 ((rd_T34 l0_1 (ji16)).f0)) ∧ w'.cell? ⟨(ad105.add (((ji16)).toNat * 4)).block, (ad105.add (((ji16)).toNat * 4)).off + 1, none⟩ = some (.int .i64 ((rd_T34 l0_1 (ji16)).f1)) ∧ w'.cell? ⟨(ad105.add (((ji16)).toNat * 4)).block, (ad105.add (((ji16)).toNat * 4)).off + 2, none⟩ = some (.int .i64 ((rd_T34 l0_1 (ji16)).f2)) ∧ w'.cell? ⟨(ad105.add (((ji16)).toNat * 4)).block, (ad105.add (((ji16)).toNat * 4)).off + 3, none⟩ = some (.int .i64 ((rd_T34 l0_1 (ji16)).f3))) (ds := []) #[false, false, false, false, false, false, false, false, false, false, false, false, false, false, false, false, false, false, false, false, false, false, false, false, false, false, false, false, false, false, false, false, false, false, false, false, false, false, false, false, false, false, false, false, false, false, false, false, false, false, false] (by kernel_rfl) rfl rfl ⟨cz BK106 0 _, cz BK106 1 _, cz BK106 2 _, cz BK106 3 _, cz BK103 0 _, cz BK103 1 _, ((HB.out.cell (World.block_lt_of_cell? w _ hw108_0)).trans hw108_0), ((HB.out.cell (World.block_lt_of_cell? w _ hw108_1)).trans hw108_1), ((HB.out.cell (World.block_lt_of_cell? w _ hw108_2)).trans hw108_2), ((HB.out.cell (World.block_lt_of_cell? w _ hw108_3)).trans hw108_3)⟩ (fun hHeld => ?_); refine with_tabW spec_GoodClock.tab6 spec_GoodClock.bits6 (fun HT_ HW_ => ?_)
              generalize w23.drew = w24 at BK103 BK106 HB hx108_0 hx108_1 hx108_2 hx108_3 hHeld ⊢
              refine pureA 0 23 (bz 51 1) rfl rfl (any_of HT_.out (by kernel_rfl)) ?_
              refine takeA 1 24 (bz 51 3) rfl rfl (take_ofW HT_.out HW_.out (by kernel_rfl)) hHeld (by rintro w' ⟨s0, s1, s2, s3, s4, s5, s6, s7, s8, s9⟩; go_simp; with_reducible rfl) ?_
              refine one_ (i := 2) (N := some 25) (bz 51 7) rfl rfl (one_of HT_.out (by kernel_rfl)) (by decide) (fun K hK => ?_)
              refine goes_ Try.func51 (by kernel_rfl) rfl #[.int .i64 ((rd_T34 l0_1 x18_2).f0), .int .i64 0, .int .i64 999] (by rfl) rfl rfl aE ?_
              with_reducible refine (spec_l1In.calls ((rd_T34 l0_1 x18_2).f0) 0 999 true _ A13.out).mono ?_
              rintro e w' ⟨rfl, ⟨nd, rfl⟩⟩
              refine ⟨_, rfl, ?_⟩
              refine hK.out _ _ ⟨cz BK106 0 _, cz BK106 1 _, cz BK106 2 _, cz BK106 3 _, cz BK103 0 _, cz BK103 1 _, ((HB.out.cell (World.block_lt_of_cell? w _ hw108_0)).trans hw108_0), ((HB.out.cell (World.block_lt_of_cell? w _ hw108_1)).trans hw108_1), ((HB.out.cell (World.block_lt_of_cell? w _ hw108_2)).trans hw108_2), ((HB.out.cell (World.block_lt_of_cell? w _ hw108_3)).trans hw108_3)⟩ (fun hHeld => ?_)
              clear hK K
              refine norm_ (a' := ?_) ?_ ?_
              rotate_left
              ·show Act.put _ (some 25) _ = _
               simp only [Act.put, List.setIfInBounds_toArray, List.set_cons_zero, List.set_cons_succ, i64_w, i32_w]
               rfl
              refine pureA 3 26 (bz 51 15) rfl rfl (any_of HT_.out (by kernel_rfl)) ?_
              refine pureA 4 27 (bz 51 31) rfl rfl (any_of HT_.out (by kernel_rfl)) ?_
              refine pureA 5 28 (bz 51 63) rfl rfl (any_of HT_.out (by kernel_rfl)) ?_
              refine pureA 6 29 (bz 51 127) rfl rfl (any_of HT_.out (by kernel_rfl)) ?_
              refine pureA 7 30 (bz 51 255) rfl rfl (any_of HT_.out (by kernel_rfl)) ?_
              refine pureA 8 31 (bz 51 511) rfl rfl (any_of HT_.out (by kernel_rfl)) ?_
              refine pureA 10 33 (bz 51 1535) rfl rfl (any_of HT_.out (by kernel_rfl)) ?_
              refine pureA 11 34 (bz 51 3583) rfl rfl (any_of HT_.out (by kernel_rfl)) ?_
              refine pureA 15 38 (bz 51 36351) rfl rfl (any_of HT_.out (by kernel_rfl)) ?_
              refine takeA 9 32 (bz 51 36863) rfl rfl (take_ofW HT_.out HW_.out (by kernel_rfl)) hHeld (by rintro w' ⟨s0, s1, s2, s3, s4, s5, s6, s7, s8, s9⟩; go_simp; with_reducible rfl) ?_
              refine pureA 12 35 (bz 51 40959) rfl rfl (any_of HT_.out (by kernel_rfl)) ?_
              refine pureA 13 36 (bz 51 49151) rfl rfl (any_of HT_.out (by kernel_rfl)) ?_
              refine takeA 14 37 (bz 51 65535) rfl rfl (take_ofW HT_.out HW_.out (by kernel_rfl)) hHeld (by rintro w' ⟨s0, s1, s2, s3, s4, s5, s6, s7, s8, s9⟩; go_simp; with_reducible rfl) ?_
              refine takeA 16 39 (bz 51 131071) rfl rfl (take_ofW HT_.out HW_.out (by kernel_rfl)) hHeld (by rintro w' ⟨s0, s1, s2, s3, s4, s5, s6, s7, s8, s9⟩; go_simp; with_reducible rfl) ?_
              refine pureA 17 40 (bz 51 262143) rfl rfl (any_of HT_.out (by kernel_rfl)) ?_
              refine pureA 18 41 (bz 51 524287) rfl rfl (any_of HT_.out (by kernel_rfl)) ?_
              refine pureA 19 42 (bz 51 1048575) rfl rfl (any_of HT_.out (by kernel_rfl)) ?_
              refine pureA 20 43 (bz 51 2097151) rfl rfl (any_of HT_.out (by kernel_rfl)) ?_
              refine pureU 21 44 (bz 51 4194303) rfl rfl (any_of HT_.out (by kernel_rfl)) ?_
              refine pureU 22 45 (bz 51 8388607) rfl rfl (any_of HT_.out (by kernel_rfl)) ?_
              refine pureU 23 46 (bz 51 16777215) rfl rfl (any_of HT_.out (by kernel_rfl)) ?_
              refine pureU 24 47 (bz 51 33554431) rfl rfl (any_of HT_.out (by kernel_rfl)) ?_
              refine pureU 25 48 (bz 51 67108863) rfl rfl (any_of HT_.out (by kernel_rfl)) ?_
              refine pureU 26 49 (bz 51 134217727) rfl rfl (any_of HT_.out (by kernel_rfl)) ?_
              refine pureU 27 50 (bz 51 268435455) rfl rfl (any_of HT_.out (by kernel_rfl)) ?_
              refine pureA 28 51 (bz 51 536870911) rfl rfl (any_of HT_.out (by kernel_rfl)) ?_
              refine pureA 29 52 (bz 51 1073741823) rfl rfl (any_of HT_.out (by kernel_rfl)) ?_
              refine pureU 30 53 (bz 51 2147483647) rfl rfl (any_of HT_.out (by kernel_rfl)) ?_
              refine pureU 31 54 (bz 51 4294967295) rfl rfl (any_of HT_.out (by kernel_rfl)) ?_
              refine pureU 32 55 (bz 51 8589934591) rfl rfl (any_of HT_.out (by kernel_rfl)) ?_
              refine pureU 33 56 (bz 51 17179869183) rfl rfl (any_of HT_.out (by kernel_rfl)) ?_
              refine pureA 34 57 (bz 51 34359738367) rfl rfl (any_of HT_.out (by kernel_rfl)) ?_
              refine pureA 35 58 (bz 51 68719476735) rfl rfl (any_of HT_.out (by kernel_rfl)) ?_
              refine pureU 36 59 (bz 51 137438953471) rfl rfl (any_of HT_.out (by kernel_rfl)) ?_
              refine pureU 37 60 (bz 51 274877906943) rfl rfl (any_of HT_.out (by kernel_rfl)) ?_
              refine pureU 38 61 (bz 51 549755813887) rfl rfl (any_of HT_.out (by kernel_rfl)) ?_
              refine pureU 39 62 (bz 51 1099511627775) rfl rfl (any_of HT_.out (by kernel_rfl)) ?_
              refine pureA 40 63 (bz 51 2199023255551) rfl rfl (any_of HT_.out (by kernel_rfl)) ?_
              refine pureA 41 64 (bz 51 4398046511103) rfl rfl (any_of HT_.out (by kernel_rfl)) ?_
              refine pureU 42 65 (bz 51 8796093022207) rfl rfl (any_of HT_.out (by kernel_rfl)) ?_
              refine pureU 43 66 (bz 51 17592186044415) rfl rfl (any_of HT_.out (by kernel_rfl)) ?_
              refine pureU 44 67 (bz 51 35184372088831) rfl rfl (any_of HT_.out (by kernel_rfl)) ?_
              refine pureU 45 68 (bz 51 70368744177663) rfl rfl (any_of HT_.out (by kernel_rfl)) ?_
              refine pureU 46 69 (bz 51 140737488355327) rfl rfl (any_of HT_.out (by kernel_rfl)) ?_
              refine pureU 47 70 (bz 51 281474976710655) rfl rfl (any_of HT_.out (by kernel_rfl)) ?_
              refine pureU 48 71 (bz 51 562949953421311) rfl rfl (any_of HT_.out (by kernel_rfl)) ?_
              refine pureU 49 72 (bz 51 1125899906842623) rfl rfl (any_of HT_.out (by kernel_rfl)) ?_
              refine pureA 50 73 (bz 51 2251799813685247) rfl rfl (any_of HT_.out (by kernel_rfl)) ?_
              refine done_ (done_of HT_.out (by kernel_rfl)) ?_
              try go_wp2
              go_ret
              exact ⟨by first | rfl | (simp [errW_none, errW_some] <;> rfl) | (simp only [← hji16]; first | rfl | (simp [errW_none, errW_some] <;> rfl)) | (simp [*, errW_none, errW_some] <;> rfl), lV2 GE103 GE106⟩
             ·rw [if_neg c19] at H
              have c19b0 : decide (((rd_T34 l0_1 x18_2).f0) ≤ ((rd_T34 l0_1 (ji16)).f0)) = false := decide_eq_false c19
              clear c19
              replace H := Option.bind_eq_some_iff.mp H
              obtain ⟨t109, A250, H⟩ := H
              replace H : (if t109 = true then ((spec_l1In.f ((rd_T34 l0_1 x18_2).f2) 0 100000).bind fun t110 => (if t110 = true then ((spec_l1In.f ((rd_T34 l0_1 x18_2).f3) 1 1000).bind fun t111 => (if t111 = true then (if ((rd_T34 l0_1 x18_2).f2) = 0 then (if ((rd_T34 l0_1 x18_2).f3) = 1 then (spec_GoodClock.l0 k2 l0_1 (l0_1.length : Int) (wrap64 (x18_2 + 1)) a0_0 l0_1) else (some false)) else (spec_GoodClock.l0 k2 l0_1 (l0_1.length : Int) (wrap64 (x18_2 + 1)) a0_0 l0_1)) else (some false))) else (some false))) else (some false)) = some r := H
              have A25 := Aside0.mk A250
              clear A250
              by_cases c26 : t109 = true
              ·subst c26
               have H1 : ((spec_l1In.f ((rd_T34 l0_1 x18_2).f2) 0 100000).bind fun t110 => (if t110 = true then ((spec_l1In.f ((rd_T34 l0_1 x18_2).f3) 1 1000).bind fun t111 => (if t111 = true then (if ((rd_T34 l0_1 x18_2).f2) = 0 then (if ((rd_T34 l0_1 x18_2).f3) = 1 then (spec_GoodClock.l0 k2 l0_1 (l0_1.length : Int) (wrap64 (x18_2 + 1)) a0_0 l0_1) else (some false)) else (spec_GoodClock.l0 k2 l0_1 (l0_1.length : Int) (wrap64 (x18_2 + 1)) a0_0 l0_1)) else (some false))) else (some false))) = some r := by rw [if_pos rfl] at H; exact H
               clear H
               have H := H1
               clear H1
               replace H := Option.bind_eq_some_iff.mp H
               obtain ⟨t110, A270, H⟩ := H
               replace H : (if t110 = true then ((spec_l1In.f ((rd_T34 l0_1 x18_2).f3) 1 1000).bind fun t111 => (if t111 = true then (if ((rd_T34 l0_1 x18_2).f2) = 0 then (if ((rd_T34 l0_1 x18_2).f3) = 1 then (spec_GoodClock.l0 k2 l0_1 (l0_1.length : Int) (wrap64 (x18_2 + 1)) a0_0 l0_1) else (some false)) else (spec_GoodClock.l0 k2 l0_1 (l0_1.length : Int) (wrap64 (x18_2 + 1)) a0_0 l0_1)) else (some false))) else (some false)) = some r := H
               have A27 := Aside0.mk A270
               clear A270
               by_cases c28 : t110 = true
               ·subst c28
                have H1 : ((spec_l1In.f ((rd_T34 l0_1 x18_2).f3) 1 1000).bind fun t111 => (if t111 = true then (if ((rd_T34 l0_1 x18_2).f2) = 0 then (if ((rd_T34 l0_1 x18_2).f3) = 1 then (spec_GoodClock.l0 k2 l0_1 (l0_1.length : Int) (wrap64 (x18_2 + 1)) a0_0 l0_1) else (some false)) else (spec_GoodClock.l0 k2 l0_1 (l0_1.length : Int) (wrap64 (x18_2 + 1)) a0_0 l0_1)) else (some false))) = some r := by rw [if_pos rfl] at H; exact H
                clear H
                have H := H1
                clear H1
                replace H := Option.bind_eq_some_iff.mp H
                obtain ⟨t111, A290, H⟩ := H
                replace H : (if t111 = true then (if ((rd_T34 l0_1 x18_2).f2) = 0 then (if ((rd_T34 l0_1 x18_2).f3) = 1 then (spec_GoodClock.l0 k2 l0_1 (l0_1.length : Int) (wrap64 (x18_2 + 1)) a0_0 l0_1) else (some false)) else (spec_GoodClock.l0 k2 l0_1 (l0_1.length : Int) (wrap64 (x18_2 + 1)) a0_0 l0_1)) else (some false)) = some r := H
                have A29 := Aside0.mk A290
                clear A290
                by_cases c30 : t111 = true
                ·subst c30
                 have H1 : (if ((rd_T34 l0_1 x18_2).f2) = 0 then (if ((rd_T34 l0_1 x18_2).f3) = 1 then (spec_GoodClock.l0 k2 l0_1 (l0_1.length : Int) (wrap64 (x18_2 + 1)) a0_0 l0_1) else (some false)) else (spec_GoodClock.l0 k2 l0_1 (l0_1.length : Int) (wrap64 (x18_2 + 1)) a0_0 l0_1)) = some r := by rw [if_pos rfl] at H; exact H
                 clear H
                 have H := H1
                 clear H1
                 by_cases c31 : ((rd_T34 l0_1 x18_2).f2) = 0
                 ·rw [if_pos c31] at H
                  have c31b0 : (((rd_T34 l0_1 x18_2).f2) == 0) = true := beq_iff_eq.mpr c31
                  have c31b1 : (((rd_T34 l0_1 x18_2).f2) != 0) = false := bne_eq_false_iff_eq.mpr c31
                  clear c31
                  by_cases c32 : ((rd_T34 l0_1 x18_2).f3) = 1
                  ·rw [if_pos c32] at H
                   have c32b0 : (((rd_T34 l0_1 x18_2).f3) == 1) = true := beq_iff_eq.mpr c32
                   have c32b1 : (((rd_T34 l0_1 x18_2).f3) != 1) = false := bne_eq_false_iff_eq.mpr c32
                   clear c32
                   have H' := Aside0.mk H
                   clear H
                   have p105 : 0 ≤ (x18_2 : Int) := of_decide_eq_true hE
                   have q105 : x18_2 < (l0_1.length : Int) := of_decide_eq_true hE
                   obtain ⟨ad105, e105, hx105_0, hx105_1, hx105_2, hx105_3⟩ := at_T34 HR0_1.out x18_2 p105 q105
                   cases e105
                   replace hx105_0 := (HB.out.cell (World.block_lt_of_cell? w _ hx105_0)).trans hx105_0
                   replace hx105_1 := (HB.out.cell (World.block_lt_of_cell? w _ hx105_1)).trans hx105_1
                   replace hx105_2 := (HB.out.cell (World.block_lt_of_cell? w _ hx105_2)).trans hx105_2
                   replace hx105_3 := (HB.out.cell (World.block_lt_of_cell? w _ hx105_3)).trans hx105_3
                   replace p105 := eq_true p105
                   replace q105 := eq_true q105
                   try go_wp2_with (first | ((with_reducible refine gate_dst (N := 4) rfl ?_); (try (refine gate_guard (by rfl) ?_; dsimp only)); refine box_event rfl (N := 4) rfl (cs := #[.int .i64 0, .int .i64 0, .int .i64 0, .int .i64 0]) (t := 34) sE ?_; intro gb106 hg w33 hbox hb; have BK106 := Aside0.mk hbox; have GW106 := gS w hg (lV1 GE103); have GE106 := gS w hg (lV1 GE103); replace HB := bH (lV1 GE103) hb; have NB103_106 := nL hg (bV BK103); have NB106_103 := nG hg (bV BK103); replace BK103 := bB (bV BK103) hb; clear hb hbox hg; have hnb34 := NB106_103.out; have hnc34 := NB103_106.out; have hcz35_0 := cz BK106 0 (.int .i64 0); have hcz35_1 := cz BK106 1 (.int .i64 0); have hcz35_2 := cz BK106 2 (.int .i64 0); have hcz35_3 := cz BK106 3 (.int .i64 0); have hfz35_0 := fz BK106 0; have hfz35_1 := fz BK106 1; have hfz35_2 := fz BK106 2; have hfz35_3 := fz BK106 3) | ((with_reducible refine gate_store (t := 34) (p := 4) rfl ?_); refine store_event (t := 34) (p := 4) (v := ?vo_w36) (w1 := ((((w33.setCell ⟨gb106, 0, none⟩ (.int .i64 ((rd_T34 l0_1 x18_2).f0))).setCell ⟨gb106, 1, none⟩ (.int .i64 ((rd_T34 l0_1 x18_2).f1))).setCell ⟨gb106, 2, none⟩ (.int .i64 ((rd_T34 l0_1 x18_2).f2))).setCell ⟨gb106, 3, none⟩ (.int .i64 ((rd_T34 l0_1 x18_2).f3)))) ?hg ?ho ?hn ?hr ?_; (case ho => rfl); (case hg => rfl); (case hn => rfl); (case hr => first | (go_simp; done) | (go_simp; rfl) | (have hq0_ := (blk_cell BK106.out 0).trans (show _ = some _ from rfl); have hf0_ := blk_frozen BK106.out 0; have hq1_ := (blk_cell BK106.out 1).trans (show _ = some _ from rfl); have hf1_ := blk_frozen BK106.out 1; have hq2_ := (blk_cell BK106.out 2).trans (show _ = some _ from rfl); have hf2_ := blk_frozen BK106.out 2; have hq3_ := (blk_cell BK106.out 3).trans (show _ = some _ from rfl); have hf3_ := blk_frozen BK106.out 3; first | (go_simp; done) | (go_simp; rfl))); intro w36 hw; replace BK103 : Aside0 (w36.heap[gb103]? = some (.cells #[.int .i64 a0_0, .slice (some ad105) l0_1.length c0_1] 30 (0, 0))) := ⟨(by rw [hw]; exact (bG NB103_106 BK103))⟩; replace BK106 : Aside0 (w36.heap[gb106]? = some (.cells #[.int .i64 ((rd_T34 l0_1 x18_2).f0), .int .i64 ((rd_T34 l0_1 x18_2).f1), .int .i64 ((rd_T34 l0_1 x18_2).f2), .int .i64 ((rd_T34 l0_1 x18_2).f3)] 34 (0, 0))) := ⟨(by rw [hw]; exact (by refine bU ?_; refine blk_put (cs := #[.int .i64 ((rd_T34 l0_1 x18_2).f0), .int .i64 ((rd_T34 l0_1 x18_2).f1), .int .i64 ((rd_T34 l0_1 x18_2).f2), .int .i64 0]) ?_ 3 _ rfl; refine bU ?_; refine blk_put (cs := #[.int .i64 ((rd_T34 l0_1 x18_2).f0), .int .i64 ((rd_T34 l0_1 x18_2).f1), .int .i64 0, .int .i64 0]) ?_ 2 _ rfl; refine bU ?_; refine blk_put (cs := #[.int .i64 ((rd_T34 l0_1 x18_2).f0), .int .i64 0, .int .i64 0, .int .i64 0]) ?_ 1 _ rfl; refine bU ?_; refine blk_put (cs := #[.int .i64 0, .int .i64 0, .int .i64 0, .int .i64 0]) ?_ 0 _ rfl; refine bU ?_; exact BK106.out))⟩; replace HB : Aside0 (Below w.heap.size w w36) := ⟨(by rw [hw]; exact (lV2 GE103 GE106))⟩; clear hw))
                   replace BK103 := Aside0.mk (blk_drew BK103.out)
                   replace BK106 := Aside0.mk (blk_drew BK106.out)
                   replace HB := Aside0.mk (below_drew1 HB.out)
                   have p108 : 0 ≤ ((ji16) : Int) := of_decide_eq_true hE
                   have q108 : (ji16) < (l0_1.length : Int) := of_decide_eq_true hE
                   obtain ⟨ad108, e108, hx108_0, hx108_1, hx108_2, hx108_3⟩ := at_T34 HR0_1.out (ji16) p108 q108
                   have hw108_3 := hx108_3
                   have hw108_2 := hx108_2
                   have hw108_1 := hx108_1
                   have hw108_0 := hx108_0
                   obtain rfl : ad105 = ad108 := (by injection e108)
                   replace hx108_0 := (HB.out.cell (World.block_lt_of_cell? w _ hx108_0)).trans hx108_0
                   replace hx108_1 := (HB.out.cell (World.block_lt_of_cell? w _ hx108_1)).trans hx108_1
                   replace hx108_2 := (HB.out.cell (World.block_lt_of_cell? w _ hx108_2)).trans hx108_2
                   replace hx108_3 := (HB.out.cell (World.block_lt_of_cell? w _ hx108_3)).trans hx108_3
                   replace p108 := eq_true p108
                   replace q108 := eq_true q108
                   refine start_ (n := 51) (S := fun w' => w'.cell? ⟨gb106, 0, none⟩ = some (.int .i64 ((rd_T34 l0_1 x18_2).f0)) ∧ w'.cell? ⟨gb106, 1, none⟩ = some (.int .i64 ((rd_T34 l0_1 x18_2).f1)) ∧ w'.cell? ⟨gb106, 2, none⟩ = some (.int .i64 ((rd_T34 l0_1 x18_2).f2)) ∧ w'.cell? ⟨gb106, 3, none⟩ = some (.int .i64 ((rd_T34 l0_1 x18_2).f3)) ∧ w'.cell? ⟨gb103, 0, none⟩ = some (.int .i64 a0_0) ∧ w'.cell? ⟨gb103, 1, none⟩ = some (.slice (some ad105) l0_1.length c0_1) ∧ w'.cell? (ad105.add (((ji16)).toNat * 4)) = some (.int .i64 ((rd_T34 l0_1 (ji16)).f0)) ∧ w'.cell? ⟨(ad105.add (((ji16)).toNat * 4)).block, (ad105.add (((ji16)).toNat * 4)).off + 1, none⟩ = some (.int .i64 ((rd_T34 l0_1 (ji16)).f1)) ∧ w'.cell? ⟨(ad105.add (((ji16)).toNat * 4)).block, (ad105.add (((ji16)).toNat * 4)).off + 2, none⟩ = some (.int .i64 ((rd_T34 l0_1 (ji16)).f2)) ∧ w'.cell? ⟨(ad105.add (((ji16)).toNat * 4)).block, (ad105.add (((ji16)).toNat * 4)).off + 3, none⟩ = some (.int .i64 ((rd_T34 l0_1 (ji16)).f3))) (ds := []) #[false, false, false, false, false, false, false, false, false, false, false, false, false, false, false, false, false, false, false, false, false, false, false, false, false, false, false, false, false, false, false, false, false, false, false, false, false, false, false, false, false, false, false, false, false, false, false, false, false, false, false] (by kernel_rfl) rfl rfl ⟨cz BK106 0 _, cz BK106 1 _, cz BK106 2 _, cz BK106 3 _, cz BK103 0 _, cz BK103 1 _, ((HB.out.cell (World.block_lt_of_cell? w _ hw108_0)).trans hw108_0), ((HB.out.cell (World.block_lt_of_cell? w _ hw108_1)).trans hw108_1), ((HB.out.cell (World.block_lt_of_cell? w _ hw108_2)).trans hw108_2), ((HB.out.cell (World.block_lt_of_cell? w _ hw108_3)).trans hw108_3)⟩ (fun hHeld => ?_); refine with_tabW spec_GoodClock.tab6 spec_GoodClock.bits6 (fun HT_ HW_ => ?_)
                   generalize w36.drew = w37 at BK103 BK106 HB hx108_0 hx108_1 hx108_2 hx108_3 hHeld ⊢
                   refine pureA 0 23 (bz 51 1) rfl rfl (any_of HT_.out (by kernel_rfl)) ?_
                   refine takeA 1 24 (bz 51 3) rfl rfl (take_ofW HT_.out HW_.out (by kernel_rfl)) hHeld (by rintro w' ⟨s0, s1, s2, s3, s4, s5, s6, s7, s8, s9⟩; go_simp; with_reducible rfl) ?_
                   refine one_ (i := 2) (N := some 25) (bz 51 7) rfl rfl (one_of HT_.out (by kernel_rfl)) (by decide) (fun K hK => ?_)
                   refine goes_ Try.func51 (by kernel_rfl) rfl #[.int .i64 ((rd_T34 l0_1 x18_2).f0), .int .i64 0, .int .i64 999] (by rfl) rfl rfl aE ?_
                   with_reducible refine (spec_l1In.calls ((rd_T34 l0_1 x18_2).f0) 0 999 true _ A13.out).mono ?_
                   rintro e w' ⟨rfl, ⟨nd, rfl⟩⟩
                   refine ⟨_, rfl, ?_⟩
                   refine hK.out _ _ ⟨cz BK106 0 _, cz BK106 1 _, cz BK106 2 _, cz BK106 3 _, cz BK103 0 _, cz BK103 1 _, ((HB.out.cell (World.block_lt_of_cell? w _ hw108_0)).trans hw108_0), ((HB.out.cell (World.block_lt_of_cell? w _ hw108_1)).trans hw108_1), ((HB.out.cell (World.block_lt_of_cell? w _ hw108_2)).trans hw108_2), ((HB.out.cell (World.block_lt_of_cell? w _ hw108_3)).trans hw108_3)⟩ (fun hHeld => ?_)
                   clear hK K
                   refine norm_ (a' := ?_) ?_ ?_
                   rotate_left
                   ·show Act.put _ (some 25) _ = _
                    simp only [Act.put, List.setIfInBounds_toArray, List.set_cons_zero, List.set_cons_succ, i64_w, i32_w]
                    rfl
                   refine pureA 3 26 (bz 51 15) rfl rfl (any_of HT_.out (by kernel_rfl)) ?_
                   refine pureA 4 27 (bz 51 31) rfl rfl (any_of HT_.out (by kernel_rfl)) ?_
                   refine pureA 5 28 (bz 51 63) rfl rfl (any_of HT_.out (by kernel_rfl)) ?_
                   refine pureA 6 29 (bz 51 127) rfl rfl (any_of HT_.out (by kernel_rfl)) ?_
                   refine pureA 7 30 (bz 51 255) rfl rfl (any_of HT_.out (by kernel_rfl)) ?_
                   refine pureA 8 31 (bz 51 511) rfl rfl (any_of HT_.out (by kernel_rfl)) ?_
                   refine pureA 10 33 (bz 51 1535) rfl rfl (any_of HT_.out (by kernel_rfl)) ?_
                   refine pureA 11 34 (bz 51 3583) rfl rfl (any_of HT_.out (by kernel_rfl)) ?_
                   refine pureA 15 38 (bz 51 36351) rfl rfl (any_of HT_.out (by kernel_rfl)) ?_
                   refine takeA 9 32 (bz 51 36863) rfl rfl (take_ofW HT_.out HW_.out (by kernel_rfl)) hHeld (by rintro w' ⟨s0, s1, s2, s3, s4, s5, s6, s7, s8, s9⟩; go_simp; with_reducible rfl) ?_
                   refine pureA 12 35 (bz 51 40959) rfl rfl (any_of HT_.out (by kernel_rfl)) ?_
                   refine pureA 13 36 (bz 51 49151) rfl rfl (any_of HT_.out (by kernel_rfl)) ?_
                   refine takeA 14 37 (bz 51 65535) rfl rfl (take_ofW HT_.out HW_.out (by kernel_rfl)) hHeld (by rintro w' ⟨s0, s1, s2, s3, s4, s5, s6, s7, s8, s9⟩; go_simp; with_reducible rfl) ?_
                   refine takeA 16 39 (bz 51 131071) rfl rfl (take_ofW HT_.out HW_.out (by kernel_rfl)) hHeld (by rintro w' ⟨s0, s1, s2, s3, s4, s5, s6, s7, s8, s9⟩; go_simp; with_reducible rfl) ?_
                   refine pureA 17 40 (bz 51 262143) rfl rfl (any_of HT_.out (by kernel_rfl)) ?_
                   refine pureA 18 41 (bz 51 524287) rfl rfl (any_of HT_.out (by kernel_rfl)) ?_
                   refine pureA 19 42 (bz 51 1048575) rfl rfl (any_of HT_.out (by kernel_rfl)) ?_
                   refine pureA 20 43 (bz 51 2097151) rfl rfl (any_of HT_.out (by kernel_rfl)) ?_
                   refine pureA 21 44 (bz 51 4194303) rfl rfl (any_of HT_.out (by kernel_rfl)) ?_
                   refine pureA 23 46 (bz 51 12582911) rfl rfl (any_of HT_.out (by kernel_rfl)) ?_
                   refine takeA 22 45 (bz 51 16777215) rfl rfl (take_ofW HT_.out HW_.out (by kernel_rfl)) hHeld (by rintro w' ⟨s0, s1, s2, s3, s4, s5, s6, s7, s8, s9⟩; go_simp; with_reducible rfl) ?_
                   refine takeA 24 47 (bz 51 33554431) rfl rfl (take_ofW HT_.out HW_.out (by kernel_rfl)) hHeld (by rintro w' ⟨s0, s1, s2, s3, s4, s5, s6, s7, s8, s9⟩; go_simp; with_reducible rfl) ?_
                   refine pureA 25 48 (bz 51 67108863) rfl rfl (any_of HT_.out (by kernel_rfl)) ?_
                   refine one_ (i := 26) (N := some 49) (bz 51 134217727) rfl rfl (one_of HT_.out (by kernel_rfl)) (by decide) (fun K hK => ?_)
                   refine goes_ Try.func51 (by kernel_rfl) rfl #[.int .i64 ((rd_T34 l0_1 x18_2).f1), .int .i64 (wrap64 (a0_0 + 1)), .int .i64 200000] (by rfl) rfl rfl aE ?_
                   with_reducible refine (spec_l1In.calls ((rd_T34 l0_1 x18_2).f1) (wrap64 (a0_0 + 1)) 200000 true _ A25.out).mono ?_
                   rintro e w' ⟨rfl, ⟨nd, rfl⟩⟩
                   refine ⟨_, rfl, ?_⟩
                   refine hK.out _ _ ⟨cz BK106 0 _, cz BK106 1 _, cz BK106 2 _, cz BK106 3 _, cz BK103 0 _, cz BK103 1 _, ((HB.out.cell (World.block_lt_of_cell? w _ hw108_0)).trans hw108_0), ((HB.out.cell (World.block_lt_of_cell? w _ hw108_1)).trans hw108_1), ((HB.out.cell (World.block_lt_of_cell? w _ hw108_2)).trans hw108_2), ((HB.out.cell (World.block_lt_of_cell? w _ hw108_3)).trans hw108_3)⟩ (fun hHeld => ?_)
                   clear hK K
                   refine norm_ (a' := ?_) ?_ ?_
                   rotate_left
                   ·show Act.put _ (some 49) _ = _
                    simp only [Act.put, List.setIfInBounds_toArray, List.set_cons_zero, List.set_cons_succ, i64_w, i32_w]
                    rfl
                   refine pureA 27 50 (bz 51 268435455) rfl rfl (any_of HT_.out (by kernel_rfl)) ?_
                   refine pureA 28 51 (bz 51 536870911) rfl rfl (any_of HT_.out (by kernel_rfl)) ?_
                   refine pureA 29 52 (bz 51 1073741823) rfl rfl (any_of HT_.out (by kernel_rfl)) ?_
                   refine pureA 30 53 (bz 51 2147483647) rfl rfl (any_of HT_.out (by kernel_rfl)) ?_
                   refine takeA 31 54 (bz 51 4294967295) rfl rfl (take_ofW HT_.out HW_.out (by kernel_rfl)) hHeld (by rintro w' ⟨s0, s1, s2, s3, s4, s5, s6, s7, s8, s9⟩; go_simp; with_reducible rfl) ?_
                   refine one_ (i := 32) (N := some 55) (bz 51 8589934591) rfl rfl (one_of HT_.out (by kernel_rfl)) (by decide) (fun K hK => ?_)
                   refine goes_ Try.func51 (by kernel_rfl) rfl #[.int .i64 ((rd_T34 l0_1 x18_2).f2), .int .i64 0, .int .i64 100000] (by rfl) rfl rfl aE ?_
                   with_reducible refine (spec_l1In.calls ((rd_T34 l0_1 x18_2).f2) 0 100000 true _ A27.out).mono ?_
                   rintro e w' ⟨rfl, ⟨nd, rfl⟩⟩
                   refine ⟨_, rfl, ?_⟩
                   refine hK.out _ _ ⟨cz BK106 0 _, cz BK106 1 _, cz BK106 2 _, cz BK106 3 _, cz BK103 0 _, cz BK103 1 _, ((HB.out.cell (World.block_lt_of_cell? w _ hw108_0)).trans hw108_0), ((HB.out.cell (World.block_lt_of_cell? w _ hw108_1)).trans hw108_1), ((HB.out.cell (World.block_lt_of_cell? w _ hw108_2)).trans hw108_2), ((HB.out.cell (World.block_lt_of_cell? w _ hw108_3)).trans hw108_3)⟩ (fun hHeld => ?_)
                   clear hK K
                   refine norm_ (a' := ?_) ?_ ?_
                   rotate_left
                   ·show Act.put _ (some 55) _ = _
                    simp only [Act.put, List.setIfInBounds_toArray, List.set_cons_zero, List.set_cons_succ, i64_w, i32_w]
                    rfl
                   refine pureA 33 56 (bz 51 17179869183) rfl rfl (any_of HT_.out (by kernel_rfl)) ?_
                   refine pureA 34 57 (bz 51 34359738367) rfl rfl (any_of HT_.out (by kernel_rfl)) ?_
                   refine pureA 35 58 (bz 51 68719476735) rfl rfl (any_of HT_.out (by kernel_rfl)) ?_
                   refine pureA 36 59 (bz 51 137438953471) rfl rfl (any_of HT_.out (by kernel_rfl)) ?_
                   refine takeA 37 60 (bz 51 274877906943) rfl rfl (take_ofW HT_.out HW_.out (by kernel_rfl)) hHeld (by rintro w' ⟨s0, s1, s2, s3, s4, s5, s6, s7, s8, s9⟩; go_simp; with_reducible rfl) ?_
                   refine one_ (i := 38) (N := some 61) (bz 51 549755813887) rfl rfl (one_of HT_.out (by kernel_rfl)) (by decide) (fun K hK => ?_)
                   refine goes_ Try.func51 (by kernel_rfl) rfl #[.int .i64 ((rd_T34 l0_1 x18_2).f3), .int .i64 1, .int .i64 1000] (by rfl) rfl rfl aE ?_
                   with_reducible refine (spec_l1In.calls ((rd_T34 l0_1 x18_2).f3) 1 1000 true _ A29.out).mono ?_
                   rintro e w' ⟨rfl, ⟨nd, rfl⟩⟩
                   refine ⟨_, rfl, ?_⟩
                   refine hK.out _ _ ⟨cz BK106 0 _, cz BK106 1 _, cz BK106 2 _, cz BK106 3 _, cz BK103 0 _, cz BK103 1 _, ((HB.out.cell (World.block_lt_of_cell? w _ hw108_0)).trans hw108_0), ((HB.out.cell (World.block_lt_of_cell? w _ hw108_1)).trans hw108_1), ((HB.out.cell (World.block_lt_of_cell? w _ hw108_2)).trans hw108_2), ((HB.out.cell (World.block_lt_of_cell? w _ hw108_3)).trans hw108_3)⟩ (fun hHeld => ?_)
                   clear hK K
                   refine norm_ (a' := ?_) ?_ ?_
                   rotate_left
                   ·show Act.put _ (some 61) _ = _
                    simp only [Act.put, List.setIfInBounds_toArray, List.set_cons_zero, List.set_cons_succ, i64_w, i32_w]
                    rfl
                   refine pureA 39 62 (bz 51 1099511627775) rfl rfl (any_of HT_.out (by kernel_rfl)) ?_
                   refine pureA 40 63 (bz 51 2199023255551) rfl rfl (any_of HT_.out (by kernel_rfl)) ?_
                   refine pureA 41 64 (bz 51 4398046511103) rfl rfl (any_of HT_.out (by kernel_rfl)) ?_
                   refine pureA 42 65 (bz 51 8796093022207) rfl rfl (any_of HT_.out (by kernel_rfl)) ?_
                   refine takeA 43 66 (bz 51 17592186044415) rfl rfl (take_ofW HT_.out HW_.out (by kernel_rfl)) hHeld (by rintro w' ⟨s0, s1, s2, s3, s4, s5, s6, s7, s8, s9⟩; go_simp; with_reducible rfl) ?_
                   refine pureA 44 67 (bz 51 35184372088831) rfl rfl (any_of HT_.out (by kernel_rfl)) ?_
                   refine pureA 45 68 (bz 51 70368744177663) rfl rfl (any_of HT_.out (by kernel_rfl)) ?_
                   refine pureA 46 69 (bz 51 140737488355327) rfl rfl (any_of HT_.out (by kernel_rfl)) ?_
                   refine takeA 47 70 (bz 51 281474976710655) rfl rfl (take_ofW HT_.out HW_.out (by kernel_rfl)) hHeld (by rintro w' ⟨s0, s1, s2, s3, s4, s5, s6, s7, s8, s9⟩; go_simp; with_reducible rfl) ?_
                   refine pureA 48 71 (bz 51 562949953421311) rfl rfl (any_of HT_.out (by kernel_rfl)) ?_
                   refine pureA 49 72 (bz 51 1125899906842623) rfl rfl (any_of HT_.out (by kernel_rfl)) ?_
                   refine pureA 50 73 (bz 51 2251799813685247) rfl rfl (any_of HT_.out (by kernel_rfl)) ?_
                   refine done_ (done_of HT_.out (by kernel_rfl)) ?_
                   try go_wp2
                   go_roundg k2
                   case measure => have := HJ1.out; have := HK2.out; omega
                   case rel => exact ⟨(wrap64 (x18_2 + 1)), tE, H', ⟨by have := HJ1.out; have := HK2.out; omega⟩, ⟨by refine bU ?_; exact BK103.out⟩, ⟨by repeat (first | (with_reducible first | exact HB.out | apply below_alloc | apply pw_below_drewN | apply below_drew1 | refine below_set ?_ GE103.out | refine below_set ?_ GE106.out) | exact HB.out)⟩⟩
                  ·rw [if_neg c32] at H
                   have c32b0 : (((rd_T34 l0_1 x18_2).f3) == 1) = false := beq_eq_false_iff_ne.mpr c32
                   have c32b1 : (((rd_T34 l0_1 x18_2).f3) != 1) = true := bne_iff_ne.mpr c32
                   obtain rfl := Option.some.inj H
                   have p105 : 0 ≤ (x18_2 : Int) := of_decide_eq_true hE
                   have q105 : x18_2 < (l0_1.length : Int) := of_decide_eq_true hE
                   obtain ⟨ad105, e105, hx105_0, hx105_1, hx105_2, hx105_3⟩ := at_T34 HR0_1.out x18_2 p105 q105
                   cases e105
                   replace hx105_0 := (HB.out.cell (World.block_lt_of_cell? w _ hx105_0)).trans hx105_0
                   replace hx105_1 := (HB.out.cell (World.block_lt_of_cell? w _ hx105_1)).trans hx105_1
                   replace hx105_2 := (HB.out.cell (World.block_lt_of_cell? w _ hx105_2)).trans hx105_2
                   replace hx105_3 := (HB.out.cell (World.block_lt_of_cell? w _ hx105_3)).trans hx105_3
                   replace p105 := eq_true p105
                   replace q105 := eq_true q105
                   try go_wp2_with (first | ((with_reducible refine gate_dst (N := 4) rfl ?_); (try (refine gate_guard (by rfl) ?_; dsimp only)); refine box_event rfl (N := 4) rfl (cs := #[.int .i64 0, .int .i64 0, .int .i64 0, .int .i64 0]) (t := 34) sE ?_; intro gb106 hg w38 hbox hb; have BK106 := Aside0.mk hbox; have GW106 := gS w hg (lV1 GE103); have GE106 := gS w hg (lV1 GE103); replace HB := bH (lV1 GE103) hb; have NB103_106 := nL hg (bV BK103); have NB106_103 := nG hg (bV BK103); replace BK103 := bB (bV BK103) hb; clear hb hbox hg; have hnb39 := NB106_103.out; have hnc39 := NB103_106.out; have hcz40_0 := cz BK106 0 (.int .i64 0); have hcz40_1 := cz BK106 1 (.int .i64 0); have hcz40_2 := cz BK106 2 (.int .i64 0); have hcz40_3 := cz BK106 3 (.int .i64 0); have hfz40_0 := fz BK106 0; have hfz40_1 := fz BK106 1; have hfz40_2 := fz BK106 2; have hfz40_3 := fz BK106 3) | ((with_reducible refine gate_store (t := 34) (p := 4) rfl ?_); refine store_event (t := 34) (p := 4) (v := ?vo_w41) (w1 := ((((w38.setCell ⟨gb106, 0, none⟩ (.int .i64 ((rd_T34 l0_1 x18_2).f0))).setCell ⟨gb106, 1, none⟩ (.int .i64 ((rd_T34 l0_1 x18_2).f1))).setCell ⟨gb106, 2, none⟩ (.int .i64 ((rd_T34 l0_1 x18_2).f2))).setCell ⟨gb106, 3, none⟩ (.int .i64 ((rd_T34 l0_1 x18_2).f3)))) ?hg ?ho ?hn ?hr ?_; (case ho => rfl); (case hg => rfl); (case hn => rfl); (case hr => first | (go_simp; done) | (go_simp; rfl) | (have hq0_ := (blk_cell BK106.out 0).trans (show _ = some _ from rfl); have hf0_ := blk_frozen BK106.out 0; have hq1_ := (blk_cell BK106.out 1).trans (show _ = some _ from rfl); have hf1_ := blk_frozen BK106.out 1; have hq2_ := (blk_cell BK106.out 2).trans (show _ = some _ from rfl); have hf2_ := blk_frozen BK106.out 2; have hq3_ := (blk_cell BK106.out 3).trans (show _ = some _ from rfl); have hf3_ := blk_frozen BK106.out 3; first | (go_simp; done) | (go_simp; rfl))); intro w41 hw; replace BK103 : Aside0 (w41.heap[gb103]? = some (.cells #[.int .i64 a0_0, .slice (some ad105) l0_1.length c0_1] 30 (0, 0))) := ⟨(by rw [hw]; exact (bG NB103_106 BK103))⟩; replace BK106 : Aside0 (w41.heap[gb106]? = some (.cells #[.int .i64 ((rd_T34 l0_1 x18_2).f0), .int .i64 ((rd_T34 l0_1 x18_2).f1), .int .i64 ((rd_T34 l0_1 x18_2).f2), .int .i64 ((rd_T34 l0_1 x18_2).f3)] 34 (0, 0))) := ⟨(by rw [hw]; exact (by refine bU ?_; refine blk_put (cs := #[.int .i64 ((rd_T34 l0_1 x18_2).f0), .int .i64 ((rd_T34 l0_1 x18_2).f1), .int .i64 ((rd_T34 l0_1 x18_2).f2), .int .i64 0]) ?_ 3 _ rfl; refine bU ?_; refine blk_put (cs := #[.int .i64 ((rd_T34 l0_1 x18_2).f0), .int .i64 ((rd_T34 l0_1 x18_2).f1), .int .i64 0, .int .i64 0]) ?_ 2 _ rfl; refine bU ?_; refine blk_put (cs := #[.int .i64 ((rd_T34 l0_1 x18_2).f0), .int .i64 0, .int .i64 0, .int .i64 0]) ?_ 1 _ rfl; refine bU ?_; refine blk_put (cs := #[.int .i64 0, .int .i64 0, .int .i64 0, .int .i64 0]) ?_ 0 _ rfl; refine bU ?_; exact BK106.out))⟩; replace HB : Aside0 (Below w.heap.size w w41) := ⟨(by rw [hw]; exact (lV2 GE103 GE106))⟩; clear hw))
                   replace BK103 := Aside0.mk (blk_drew BK103.out)
                   replace BK106 := Aside0.mk (blk_drew BK106.out)
                   replace HB := Aside0.mk (below_drew1 HB.out)
                   have p108 : 0 ≤ ((ji16) : Int) := of_decide_eq_true hE
                   have q108 : (ji16) < (l0_1.length : Int) := of_decide_eq_true hE
                   obtain ⟨ad108, e108, hx108_0, hx108_1, hx108_2, hx108_3⟩ := at_T34 HR0_1.out (ji16) p108 q108
                   have hw108_3 := hx108_3
                   have hw108_2 := hx108_2
                   have hw108_1 := hx108_1
                   have hw108_0 := hx108_0
                   obtain rfl : ad105 = ad108 := (by injection e108)
                   replace hx108_0 := (HB.out.cell (World.block_lt_of_cell? w _ hx108_0)).trans hx108_0
                   replace hx108_1 := (HB.out.cell (World.block_lt_of_cell? w _ hx108_1)).trans hx108_1
                   replace hx108_2 := (HB.out.cell (World.block_lt_of_cell? w _ hx108_2)).trans hx108_2
                   replace hx108_3 := (HB.out.cell (World.block_lt_of_cell? w _ hx108_3)).trans hx108_3
                   replace p108 := eq_true p108
                   replace q108 := eq_true q108
                   refine start_ (n := 51) (S := fun w' => w'.cell? ⟨gb106, 0, none⟩ = some (.int .i64 ((rd_T34 l0_1 x18_2).f0)) ∧ w'.cell? ⟨gb106, 1, none⟩ = some (.int .i64 ((rd_T34 l0_1 x18_2).f1)) ∧ w'.cell? ⟨gb106, 2, none⟩ = some (.int .i64 ((rd_T34 l0_1 x18_2).f2)) ∧ w'.cell? ⟨gb106, 3, none⟩ = some (.int .i64 ((rd_T34 l0_1 x18_2).f3)) ∧ w'.cell? ⟨gb103, 0, none⟩ = some (.int .i64 a0_0) ∧ w'.cell? ⟨gb103, 1, none⟩ = some (.slice (some ad105) l0_1.length c0_1) ∧ w'.cell? (ad105.add (((ji16)).toNat * 4)) = some (.int .i64 ((rd_T34 l0_1 (ji16)).f0)) ∧ w'.cell? ⟨(ad105.add (((ji16)).toNat * 4)).block, (ad105.add (((ji16)).toNat * 4)).off + 1, none⟩ = some (.int .i64 ((rd_T34 l0_1 (ji16)).f1)) ∧ w'.cell? ⟨(ad105.add (((ji16)).toNat * 4)).block, (ad105.add (((ji16)).toNat * 4)).off + 2, none⟩ = some (.int .i64 ((rd_T34 l0_1 (ji16)).f2)) ∧ w'.cell? ⟨(ad105.add (((ji16)).toNat * 4)).block, (ad105.add (((ji16)).toNat * 4)).off + 3, none⟩ = some (.int .i64 ((rd_T34 l0_1 (ji16)).f3))) (ds := []) #[false, false, false, false, false, false, false, false, false, false, false, false, false, false, false, false, false, false, false, false, false, false, false, false, false, false, false, false, false, false, false, false, false, false, false, false, false, false, false, false, false, false, false, false, false, false, false, false, false, false, false] (by kernel_rfl) rfl rfl ⟨cz BK106 0 _, cz BK106 1 _, cz BK106 2 _, cz BK106 3 _, cz BK103 0 _, cz BK103 1 _, ((HB.out.cell (World.block_lt_of_cell? w _ hw108_0)).trans hw108_0), ((HB.out.cell (World.block_lt_of_cell? w _ hw108_1)).trans hw108_1), ((HB.out.cell (World.block_lt_of_cell? w _ hw108_2)).trans hw108_2), ((HB.out.cell (World.block_lt_of_cell? w _ hw108_3)).trans hw108_3)⟩ (fun hHeld => ?_); refine with_tabW spec_GoodClock.tab6 spec_GoodClock.bits6 (fun HT_ HW_ => ?_)
                   generalize w41.drew = w42 at BK103 BK106 HB hx108_0 hx108_1 hx108_2 hx108_3 hHeld ⊢
                   refine pureA 0 23 (bz 51 1) rfl rfl (any_of HT_.out (by kernel_rfl)) ?_
                   refine takeA 1 24 (bz 51 3) rfl rfl (take_ofW HT_.out HW_.out (by kernel_rfl)) hHeld (by rintro w' ⟨s0, s1, s2, s3, s4, s5, s6, s7, s8, s9⟩; go_simp; with_reducible rfl) ?_
                   refine one_ (i := 2) (N := some 25) (bz 51 7) rfl rfl (one_of HT_.out (by kernel_rfl)) (by decide) (fun K hK => ?_)
                   refine goes_ Try.func51 (by kernel_rfl) rfl #[.int .i64 ((rd_T34 l0_1 x18_2).f0), .int .i64 0, .int .i64 999] (by rfl) rfl rfl aE ?_
                   with_reducible refine (spec_l1In.calls ((rd_T34 l0_1 x18_2).f0) 0 999 true _ A13.out).mono ?_
                   rintro e w' ⟨rfl, ⟨nd, rfl⟩⟩
                   refine ⟨_, rfl, ?_⟩
                   refine hK.out _ _ ⟨cz BK106 0 _, cz BK106 1 _, cz BK106 2 _, cz BK106 3 _, cz BK103 0 _, cz BK103 1 _, ((HB.out.cell (World.block_lt_of_cell? w _ hw108_0)).trans hw108_0), ((HB.out.cell (World.block_lt_of_cell? w _ hw108_1)).trans hw108_1), ((HB.out.cell (World.block_lt_of_cell? w _ hw108_2)).trans hw108_2), ((HB.out.cell (World.block_lt_of_cell? w _ hw108_3)).trans hw108_3)⟩ (fun hHeld => ?_)
                   clear hK K
                   refine norm_ (a' := ?_) ?_ ?_
                   rotate_left
                   ·show Act.put _ (some 25) _ = _
                    simp only [Act.put, List.setIfInBounds_toArray, List.set_cons_zero, List.set_cons_succ, i64_w, i32_w]
                    rfl
                   refine pureA 3 26 (bz 51 15) rfl rfl (any_of HT_.out (by kernel_rfl)) ?_
                   refine pureA 4 27 (bz 51 31) rfl rfl (any_of HT_.out (by kernel_rfl)) ?_
                   refine pureA 5 28 (bz 51 63) rfl rfl (any_of HT_.out (by kernel_rfl)) ?_
                   refine pureA 6 29 (bz 51 127) rfl rfl (any_of HT_.out (by kernel_rfl)) ?_
                   refine pureA 7 30 (bz 51 255) rfl rfl (any_of HT_.out (by kernel_rfl)) ?_
                   refine pureA 8 31 (bz 51 511) rfl rfl (any_of HT_.out (by kernel_rfl)) ?_
                   refine pureA 10 33 (bz 51 1535) rfl rfl (any_of HT_.out (by kernel_rfl)) ?_
                   refine pureA 11 34 (bz 51 3583) rfl rfl (any_of HT_.out (by kernel_rfl)) ?_
                   refine pureA 15 38 (bz 51 36351) rfl rfl (any_of HT_.out (by kernel_rfl)) ?_
                   refine takeA 9 32 (bz 51 36863) rfl rfl (take_ofW HT_.out HW_.out (by kernel_rfl)) hHeld (by rintro w' ⟨s0, s1, s2, s3, s4, s5, s6, s7, s8, s9⟩; go_simp; with_reducible rfl) ?_
                   refine pureA 12 35 (bz 51 40959) rfl rfl (any_of HT_.out (by kernel_rfl)) ?_
                   refine pureA 13 36 (bz 51 49151) rfl rfl (any_of HT_.out (by kernel_rfl)) ?_
                   refine takeA 14 37 (bz 51 65535) rfl rfl (take_ofW HT_.out HW_.out (by kernel_rfl)) hHeld (by rintro w' ⟨s0, s1, s2, s3, s4, s5, s6, s7, s8, s9⟩; go_simp; with_reducible rfl) ?_
                   refine takeA 16 39 (bz 51 131071) rfl rfl (take_ofW HT_.out HW_.out (by kernel_rfl)) hHeld (by rintro w' ⟨s0, s1, s2, s3, s4, s5, s6, s7, s8, s9⟩; go_simp; with_reducible rfl) ?_
                   refine pureA 17 40 (bz 51 262143) rfl rfl (any_of HT_.out (by kernel_rfl)) ?_
                   refine pureA 18 41 (bz 51 524287) rfl rfl (any_of HT_.out (by kernel_rfl)) ?_
                   refine pureA 19 42 (bz 51 1048575) rfl rfl (any_of HT_.out (by kernel_rfl)) ?_
                   refine pureA 20 43 (bz 51 2097151) rfl rfl (any_of HT_.out (by kernel_rfl)) ?_
                   refine pureA 21 44 (bz 51 4194303) rfl rfl (any_of HT_.out (by kernel_rfl)) ?_
                   refine pureA 23 46 (bz 51 12582911) rfl rfl (any_of HT_.out (by kernel_rfl)) ?_
                   refine takeA 22 45 (bz 51 16777215) rfl rfl (take_ofW HT_.out HW_.out (by kernel_rfl)) hHeld (by rintro w' ⟨s0, s1, s2, s3, s4, s5, s6, s7, s8, s9⟩; go_simp; with_reducible rfl) ?_
                   refine takeA 24 47 (bz 51 33554431) rfl rfl (take_ofW HT_.out HW_.out (by kernel_rfl)) hHeld (by rintro w' ⟨s0, s1, s2, s3, s4, s5, s6, s7, s8, s9⟩; go_simp; with_reducible rfl) ?_
                   refine pureA 25 48 (bz 51 67108863) rfl rfl (any_of HT_.out (by kernel_rfl)) ?_
                   refine one_ (i := 26) (N := some 49) (bz 51 134217727) rfl rfl (one_of HT_.out (by kernel_rfl)) (by decide) (fun K hK => ?_)
                   refine goes_ Try.func51 (by kernel_rfl) rfl #[.int .i64 ((rd_T34 l0_1 x18_2).f1), .int .i64 (wrap64 (a0_0 + 1)), .int .i64 200000] (by rfl) rfl rfl aE ?_
                   with_reducible refine (spec_l1In.calls ((rd_T34 l0_1 x18_2).f1) (wrap64 (a0_0 + 1)) 200000 true _ A25.out).mono ?_
                   rintro e w' ⟨rfl, ⟨nd, rfl⟩⟩
                   refine ⟨_, rfl, ?_⟩
                   refine hK.out _ _ ⟨cz BK106 0 _, cz BK106 1 _, cz BK106 2 _, cz BK106 3 _, cz BK103 0 _, cz BK103 1 _, ((HB.out.cell (World.block_lt_of_cell? w _ hw108_0)).trans hw108_0), ((HB.out.cell (World.block_lt_of_cell? w _ hw108_1)).trans hw108_1), ((HB.out.cell (World.block_lt_of_cell? w _ hw108_2)).trans hw108_2), ((HB.out.cell (World.block_lt_of_cell? w _ hw108_3)).trans hw108_3)⟩ (fun hHeld => ?_)
                   clear hK K
                   refine norm_ (a' := ?_) ?_ ?_
                   rotate_left
                   ·show Act.put _ (some 49) _ = _
                    simp only [Act.put, List.setIfInBounds_toArray, List.set_cons_zero, List.set_cons_succ, i64_w, i32_w]
                    rfl
                   refine pureA 27 50 (bz 51 268435455) rfl rfl (any_of HT_.out (by kernel_rfl)) ?_
                   refine pureA 28 51 (bz 51 536870911) rfl rfl (any_of HT_.out (by kernel_rfl)) ?_
                   refine pureA 29 52 (bz 51 1073741823) rfl rfl (any_of HT_.out (by kernel_rfl)) ?_
                   refine pureA 30 53 (bz 51 2147483647) rfl rfl (any_of HT_.out (by kernel_rfl)) ?_
                   refine takeA 31 54 (bz 51 4294967295) rfl rfl (take_ofW HT_.out HW_.out (by kernel_rfl)) hHeld (by rintro w' ⟨s0, s1, s2, s3, s4, s5, s6, s7, s8, s9⟩; go_simp; with_reducible rfl) ?_
                   refine one_ (i := 32) (N := some 55) (bz 51 8589934591) rfl rfl (one_of HT_.out (by kernel_rfl)) (by decide) (fun K hK => ?_)
                   refine goes_ Try.func51 (by kernel_rfl) rfl #[.int .i64 ((rd_T34 l0_1 x18_2).f2), .int .i64 0, .int .i64 100000] (by rfl) rfl rfl aE ?_
                   with_reducible refine (spec_l1In.calls ((rd_T34 l0_1 x18_2).f2) 0 100000 true _ A27.out).mono ?_
                   rintro e w' ⟨rfl, ⟨nd, rfl⟩⟩
                   refine ⟨_, rfl, ?_⟩
                   refine hK.out _ _ ⟨cz BK106 0 _, cz BK106 1 _, cz BK106 2 _, cz BK106 3 _, cz BK103 0 _, cz BK103 1 _, ((HB.out.cell (World.block_lt_of_cell? w _ hw108_0)).trans hw108_0), ((HB.out.cell (World.block_lt_of_cell? w _ hw108_1)).trans hw108_1), ((HB.out.cell (World.block_lt_of_cell? w _ hw108_2)).trans hw108_2), ((HB.out.cell (World.block_lt_of_cell? w _ hw108_3)).trans hw108_3)⟩ (fun hHeld => ?_)
                   clear hK K
                   refine norm_ (a' := ?_) ?_ ?_
                   rotate_left
                   ·show Act.put _ (some 55) _ = _
                    simp only [Act.put, List.setIfInBounds_toArray, List.set_cons_zero, List.set_cons_succ, i64_w, i32_w]
                    rfl
                   refine pureA 33 56 (bz 51 17179869183) rfl rfl (any_of HT_.out (by kernel_rfl)) ?_
                   refine pureA 34 57 (bz 51 34359738367) rfl rfl (any_of HT_.out (by kernel_rfl)) ?_
                   refine pureA 35 58 (bz 51 68719476735) rfl rfl (any_of HT_.out (by kernel_rfl)) ?_
                   refine pureA 36 59 (bz 51 137438953471) rfl rfl (any_of HT_.out (by kernel_rfl)) ?_
                   refine takeA 37 60 (bz 51 274877906943) rfl rfl (take_ofW HT_.out HW_.out (by kernel_rfl)) hHeld (by rintro w' ⟨s0, s1, s2, s3, s4, s5, s6, s7, s8, s9⟩; go_simp; with_reducible rfl) ?_
                   refine one_ (i := 38) (N := some 61) (bz 51 549755813887) rfl rfl (one_of HT_.out (by kernel_rfl)) (by decide) (fun K hK => ?_)
                   refine goes_ Try.func51 (by kernel_rfl) rfl #[.int .i64 ((rd_T34 l0_1 x18_2).f3), .int .i64 1, .int .i64 1000] (by rfl) rfl rfl aE ?_
                   with_reducible refine (spec_l1In.calls ((rd_T34 l0_1 x18_2).f3) 1 1000 true _ A29.out).mono ?_
                   rintro e w' ⟨rfl, ⟨nd, rfl⟩⟩
                   refine ⟨_, rfl, ?_⟩
                   refine hK.out _ _ ⟨cz BK106 0 _, cz BK106 1 _, cz BK106 2 _, cz BK106 3 _, cz BK103 0 _, cz BK103 1 _, ((HB.out.cell (World.block_lt_of_cell? w _ hw108_0)).trans hw108_0), ((HB.out.cell (World.block_lt_of_cell? w _ hw108_1)).trans hw108_1), ((HB.out.cell (World.block_lt_of_cell? w _ hw108_2)).trans hw108_2), ((HB.out.cell (World.block_lt_of_cell? w _ hw108_3)).trans hw108_3)⟩ (fun hHeld => ?_)
                   clear hK K
                   refine norm_ (a' := ?_) ?_ ?_
                   rotate_left
                   ·show Act.put _ (some 61) _ = _
                    simp only [Act.put, List.setIfInBounds_toArray, List.set_cons_zero, List.set_cons_succ, i64_w, i32_w]
                    rfl
                   refine pureA 39 62 (bz 51 1099511627775) rfl rfl (any_of HT_.out (by kernel_rfl)) ?_
                   refine pureA 40 63 (bz 51 2199023255551) rfl rfl (any_of HT_.out (by kernel_rfl)) ?_
                   refine pureA 41 64 (bz 51 4398046511103) rfl rfl (any_of HT_.out (by kernel_rfl)) ?_
                   refine pureA 42 65 (bz 51 8796093022207) rfl rfl (any_of HT_.out (by kernel_rfl)) ?_
                   refine takeA 43 66 (bz 51 17592186044415) rfl rfl (take_ofW HT_.out HW_.out (by kernel_rfl)) hHeld (by rintro w' ⟨s0, s1, s2, s3, s4, s5, s6, s7, s8, s9⟩; go_simp; with_reducible rfl) ?_
                   refine pureA 44 67 (bz 51 35184372088831) rfl rfl (any_of HT_.out (by kernel_rfl)) ?_
                   refine pureA 45 68 (bz 51 70368744177663) rfl rfl (any_of HT_.out (by kernel_rfl)) ?_
                   refine pureA 46 69 (bz 51 140737488355327) rfl rfl (any_of HT_.out (by kernel_rfl)) ?_
                   refine takeA 47 70 (bz 51 281474976710655) rfl rfl (take_ofW HT_.out HW_.out (by kernel_rfl)) hHeld (by rintro w' ⟨s0, s1, s2, s3, s4, s5, s6, s7, s8, s9⟩; go_simp; with_reducible rfl) ?_
                   refine pureA 48 71 (bz 51 562949953421311) rfl rfl (any_of HT_.out (by kernel_rfl)) ?_
                   refine pureA 49 72 (bz 51 1125899906842623) rfl rfl (any_of HT_.out (by kernel_rfl)) ?_
                   refine pureA 50 73 (bz 51 2251799813685247) rfl rfl (any_of HT_.out (by kernel_rfl)) ?_
                   refine done_ (done_of HT_.out (by kernel_rfl)) ?_
                   try go_wp2
                   go_ret
                   exact ⟨by first | rfl | (simp [errW_none, errW_some] <;> rfl) | (simp only [← hji16]; first | rfl | (simp [errW_none, errW_some] <;> rfl)) | (simp [*, errW_none, errW_some] <;> rfl), lV2 GE103 GE106⟩
                 ·rw [if_neg c31] at H
                  have c31b0 : (((rd_T34 l0_1 x18_2).f2) == 0) = false := beq_eq_false_iff_ne.mpr c31
                  have c31b1 : (((rd_T34 l0_1 x18_2).f2) != 0) = true := bne_iff_ne.mpr c31
                  have H' := Aside0.mk H
                  clear H
                  have p105 : 0 ≤ (x18_2 : Int) := of_decide_eq_true hE
                  have q105 : x18_2 < (l0_1.length : Int) := of_decide_eq_true hE
                  obtain ⟨ad105, e105, hx105_0, hx105_1, hx105_2, hx105_3⟩ := at_T34 HR0_1.out x18_2 p105 q105
                  cases e105
                  replace hx105_0 := (HB.out.cell (World.block_lt_of_cell? w _ hx105_0)).trans hx105_0
                  replace hx105_1 := (HB.out.cell (World.block_lt_of_cell? w _ hx105_1)).trans hx105_1
                  replace hx105_2 := (HB.out.cell (World.block_lt_of_cell? w _ hx105_2)).trans hx105_2
                  replace hx105_3 := (HB.out.cell (World.block_lt_of_cell? w _ hx105_3)).trans hx105_3
                  replace p105 := eq_true p105
                  replace q105 := eq_true q105
                  try go_wp2_with (first | ((with_reducible refine gate_dst (N := 4) rfl ?_); (try (refine gate_guard (by rfl) ?_; dsimp only)); refine box_event rfl (N := 4) rfl (cs := #[.int .i64 0, .int .i64 0, .int .i64 0, .int .i64 0]) (t := 34) sE ?_; intro gb106 hg w43 hbox hb; have BK106 := Aside0.mk hbox; have GW106 := gS w hg (lV1 GE103); have GE106 := gS w hg (lV1 GE103); replace HB := bH (lV1 GE103) hb; have NB103_106 := nL hg (bV BK103); have NB106_103 := nG hg (bV BK103); replace BK103 := bB (bV BK103) hb; clear hb hbox hg; have hnb44 := NB106_103.out; have hnc44 := NB103_106.out; have hcz45_0 := cz BK106 0 (.int .i64 0); have hcz45_1 := cz BK106 1 (.int .i64 0); have hcz45_2 := cz BK106 2 (.int .i64 0); have hcz45_3 := cz BK106 3 (.int .i64 0); have hfz45_0 := fz BK106 0; have hfz45_1 := fz BK106 1; have hfz45_2 := fz BK106 2; have hfz45_3 := fz BK106 3) | ((with_reducible refine gate_store (t := 34) (p := 4) rfl ?_); refine store_event (t := 34) (p := 4) (v := ?vo_w46) (w1 := ((((w43.setCell ⟨gb106, 0, none⟩ (.int .i64 ((rd_T34 l0_1 x18_2).f0))).setCell ⟨gb106, 1, none⟩ (.int .i64 ((rd_T34 l0_1 x18_2).f1))).setCell ⟨gb106, 2, none⟩ (.int .i64 ((rd_T34 l0_1 x18_2).f2))).setCell ⟨gb106, 3, none⟩ (.int .i64 ((rd_T34 l0_1 x18_2).f3)))) ?hg ?ho ?hn ?hr ?_; (case ho => rfl); (case hg => rfl); (case hn => rfl); (case hr => first | (go_simp; done) | (go_simp; rfl) | (have hq0_ := (blk_cell BK106.out 0).trans (show _ = some _ from rfl); have hf0_ := blk_frozen BK106.out 0; have hq1_ := (blk_cell BK106.out 1).trans (show _ = some _ from rfl); have hf1_ := blk_frozen BK106.out 1; have hq2_ := (blk_cell BK106.out 2).trans (show _ = some _ from rfl); have hf2_ := blk_frozen BK106.out 2; have hq3_ := (blk_cell BK106.out 3).trans (show _ = some _ from rfl); have hf3_ := blk_frozen BK106.out 3; first | (go_simp; done) | (go_simp; rfl))); intro w46 hw; replace BK103 : Aside0 (w46.heap[gb103]? = some (.cells #[.int .i64 a0_0, .slice (some ad105) l0_1.length c0_1] 30 (0, 0))) := ⟨(by rw [hw]; exact (bG NB103_106 BK103))⟩; replace BK106 : Aside0 (w46.heap[gb106]? = some (.cells #[.int .i64 ((rd_T34 l0_1 x18_2).f0), .int .i64 ((rd_T34 l0_1 x18_2).f1), .int .i64 ((rd_T34 l0_1 x18_2).f2), .int .i64 ((rd_T34 l0_1 x18_2).f3)] 34 (0, 0))) := ⟨(by rw [hw]; exact (by refine bU ?_; refine blk_put (cs := #[.int .i64 ((rd_T34 l0_1 x18_2).f0), .int .i64 ((rd_T34 l0_1 x18_2).f1), .int .i64 ((rd_T34 l0_1 x18_2).f2), .int .i64 0]) ?_ 3 _ rfl; refine bU ?_; refine blk_put (cs := #[.int .i64 ((rd_T34 l0_1 x18_2).f0), .int .i64 ((rd_T34 l0_1 x18_2).f1), .int .i64 0, .int .i64 0]) ?_ 2 _ rfl; refine bU ?_; refine blk_put (cs := #[.int .i64 ((rd_T34 l0_1 x18_2).f0), .int .i64 0, .int .i64 0, .int .i64 0]) ?_ 1 _ rfl; refine bU ?_; refine blk_put (cs := #[.int .i64 0, .int .i64 0, .int .i64 0, .int .i64 0]) ?_ 0 _ rfl; refine bU ?_; exact BK106.out))⟩; replace HB : Aside0 (Below w.heap.size w w46) := ⟨(by rw [hw]; exact (lV2 GE103 GE106))⟩; clear hw))
                  replace BK103 := Aside0.mk (blk_drew BK103.out)
                  replace BK106 := Aside0.mk (blk_drew BK106.out)
                  replace HB := Aside0.mk (below_drew1 HB.out)
                  have p108 : 0 ≤ ((ji16) : Int) := of_decide_eq_true hE
                  have q108 : (ji16) < (l0_1.length : Int) := of_decide_eq_true hE
                  obtain ⟨ad108, e108, hx108_0, hx108_1, hx108_2, hx108_3⟩ := at_T34 HR0_1.out (ji16) p108 q108
                  have hw108_3 := hx108_3
                  have hw108_2 := hx108_2
                  have hw108_1 := hx108_1
                  have hw108_0 := hx108_0
                  obtain rfl : ad105 = ad108 := (by injection e108)
                  replace hx108_0 := (HB.out.cell (World.block_lt_of_cell? w _ hx108_0)).trans hx108_0
                  replace hx108_1 := (HB.out.cell (World.block_lt_of_cell? w _ hx108_1)).trans hx108_1
                  replace hx108_2 := (HB.out.cell (World.block_lt_of_cell? w _ hx108_2)).trans hx108_2
                  replace hx108_3 := (HB.out.cell (World.block_lt_of_cell? w _ hx108_3)).trans hx108_3
                  replace p108 := eq_true p108
                  replace q108 := eq_true q108
                  refine start_ (n := 51) (S := fun w' => w'.cell? ⟨gb106, 0, none⟩ = some (.int .i64 ((rd_T34 l0_1 x18_2).f0)) ∧ w'.cell? ⟨gb106, 1, none⟩ = some (.int .i64 ((rd_T34 l0_1 x18_2).f1)) ∧ w'.cell? ⟨gb106, 2, none⟩ = some (.int .i64 ((rd_T34 l0_1 x18_2).f2)) ∧ w'.cell? ⟨gb106, 3, none⟩ = some (.int .i64 ((rd_T34 l0_1 x18_2).f3)) ∧ w'.cell? ⟨gb103, 0, none⟩ = some (.int .i64 a0_0) ∧ w'.cell? ⟨gb103, 1, none⟩ = some (.slice (some ad105) l0_1.length c0_1) ∧ w'.cell? (ad105.add (((ji16)).toNat * 4)) = some (.int .i64 ((rd_T34 l0_1 (ji16)).f0)) ∧ w'.cell? ⟨(ad105.add (((ji16)).toNat * 4)).block, (ad105.add (((ji16)).toNat * 4)).off + 1, none⟩ = some (.int .i64 ((rd_T34 l0_1 (ji16)).f1)) ∧ w'.cell? ⟨(ad105.add (((ji16)).toNat * 4)).block, (ad105.add (((ji16)).toNat * 4)).off + 2, none⟩ = some (.int .i64 ((rd_T34 l0_1 (ji16)).f2)) ∧ w'.cell? ⟨(ad105.add (((ji16)).toNat * 4)).block, (ad105.add (((ji16)).toNat * 4)).off + 3, none⟩ = some (.int .i64 ((rd_T34 l0_1 (ji16)).f3))) (ds := []) #[false, false, false, false, false, false, false, false, false, false, false, false, false, false, false, false, false, false, false, false, false, false, false, false, false, false, false, false, false, false, false, false, false, false, false, false, false, false, false, false, false, false, false, false, false, false, false, false, false, false, false] (by kernel_rfl) rfl rfl ⟨cz BK106 0 _, cz BK106 1 _, cz BK106 2 _, cz BK106 3 _, cz BK103 0 _, cz BK103 1 _, ((HB.out.cell (World.block_lt_of_cell? w _ hw108_0)).trans hw108_0), ((HB.out.cell (World.block_lt_of_cell? w _ hw108_1)).trans hw108_1), ((HB.out.cell (World.block_lt_of_cell? w _ hw108_2)).trans hw108_2), ((HB.out.cell (World.block_lt_of_cell? w _ hw108_3)).trans hw108_3)⟩ (fun hHeld => ?_); refine with_tabW spec_GoodClock.tab6 spec_GoodClock.bits6 (fun HT_ HW_ => ?_)
                  generalize w46.drew = w47 at BK103 BK106 HB hx108_0 hx108_1 hx108_2 hx108_3 hHeld ⊢
                  refine pureA 0 23 (bz 51 1) rfl rfl (any_of HT_.out (by kernel_rfl)) ?_
                  refine takeA 1 24 (bz 51 3) rfl rfl (take_ofW HT_.out HW_.out (by kernel_rfl)) hHeld (by rintro w' ⟨s0, s1, s2, s3, s4, s5, s6, s7, s8, s9⟩; go_simp; with_reducible rfl) ?_
                  refine one_ (i := 2) (N := some 25) (bz 51 7) rfl rfl (one_of HT_.out (by kernel_rfl)) (by decide) (fun K hK => ?_)
                  refine goes_ Try.func51 (by kernel_rfl) rfl #[.int .i64 ((rd_T34 l0_1 x18_2).f0), .int .i64 0, .int .i64 999] (by rfl) rfl rfl aE ?_
                  with_reducible refine (spec_l1In.calls ((rd_T34 l0_1 x18_2).f0) 0 999 true _ A13.out).mono ?_
                  rintro e w' ⟨rfl, ⟨nd, rfl⟩⟩
                  refine ⟨_, rfl, ?_⟩
                  refine hK.out _ _ ⟨cz BK106 0 _, cz BK106 1 _, cz BK106 2 _, cz BK106 3 _, cz BK103 0 _, cz BK103 1 _, ((HB.out.cell (World.block_lt_of_cell? w _ hw108_0)).trans hw108_0), ((HB.out.cell (World.block_lt_of_cell? w _ hw108_1)).trans hw108_1), ((HB.out.cell (World.block_lt_of_cell? w _ hw108_2)).trans hw108_2), ((HB.out.cell (World.block_lt_of_cell? w _ hw108_3)).trans hw108_3)⟩ (fun hHeld => ?_)
                  clear hK K
                  refine norm_ (a' := ?_) ?_ ?_
                  rotate_left
                  ·show Act.put _ (some 25) _ = _
                   simp only [Act.put, List.setIfInBounds_toArray, List.set_cons_zero, List.set_cons_succ, i64_w, i32_w]
                   rfl
                  refine pureA 3 26 (bz 51 15) rfl rfl (any_of HT_.out (by kernel_rfl)) ?_
                  refine pureA 4 27 (bz 51 31) rfl rfl (any_of HT_.out (by kernel_rfl)) ?_
                  refine pureA 5 28 (bz 51 63) rfl rfl (any_of HT_.out (by kernel_rfl)) ?_
                  refine pureA 6 29 (bz 51 127) rfl rfl (any_of HT_.out (by kernel_rfl)) ?_
                  refine pureA 7 30 (bz 51 255) rfl rfl (any_of HT_.out (by kernel_rfl)) ?_
                  refine pureA 8 31 (bz 51 511) rfl rfl (any_of HT_.out (by kernel_rfl)) ?_
                  refine pureA 10 33 (bz 51 1535) rfl rfl (any_of HT_.out (by kernel_rfl)) ?_
                  refine pureA 11 34 (bz 51 3583) rfl rfl (any_of HT_.out (by kernel_rfl)) ?_
                  refine pureA 15 38 (bz 51 36351) rfl rfl (any_of HT_.out (by kernel_rfl)) ?_
                  refine takeA 9 32 (bz 51 36863) rfl rfl (take_ofW HT_.out HW_.out (by kernel_rfl)) hHeld (by rintro w' ⟨s0, s1, s2, s3, s4, s5, s6, s7, s8, s9⟩; go_simp; with_reducible rfl) ?_
                  refine pureA 12 35 (bz 51 40959) rfl rfl (any_of HT_.out (by kernel_rfl)) ?_
                  refine pureA 13 36 (bz 51 49151) rfl rfl (any_of HT_.out (by kernel_rfl)) ?_
                  refine takeA 14 37 (bz 51 65535) rfl rfl (take_ofW HT_.out HW_.out (by kernel_rfl)) hHeld (by rintro w' ⟨s0, s1, s2, s3, s4, s5, s6, s7, s8, s9⟩; go_simp; with_reducible rfl) ?_
                  refine takeA 16 39 (bz 51 131071) rfl rfl (take_ofW HT_.out HW_.out (by kernel_rfl)) hHeld (by rintro w' ⟨s0, s1, s2, s3, s4, s5, s6, s7, s8, s9⟩; go_simp; with_reducible rfl) ?_
                  refine pureA 17 40 (bz 51 262143) rfl rfl (any_of HT_.out (by kernel_rfl)) ?_
                  refine pureA 18 41 (bz 51 524287) rfl rfl (any_of HT_.out (by kernel_rfl)) ?_
                  refine pureA 19 42 (bz 51 1048575) rfl rfl (any_of HT_.out (by kernel_rfl)) ?_
                  refine pureA 20 43 (bz 51 2097151) rfl rfl (any_of HT_.out (by kernel_rfl)) ?_
                  refine pureA 21 44 (bz 51 4194303) rfl rfl (any_of HT_.out (by kernel_rfl)) ?_
                  refine pureA 23 46 (bz 51 12582911) rfl rfl (any_of HT_.out (by kernel_rfl)) ?_
                  refine takeA 22 45 (bz 51 16777215) rfl rfl (take_ofW HT_.out HW_.out (by kernel_rfl)) hHeld (by rintro w' ⟨s0, s1, s2, s3, s4, s5, s6, s7, s8, s9⟩; go_simp; with_reducible rfl) ?_
                  refine takeA 24 47 (bz 51 33554431) rfl rfl (take_ofW HT_.out HW_.out (by kernel_rfl)) hHeld (by rintro w' ⟨s0, s1, s2, s3, s4, s5, s6, s7, s8, s9⟩; go_simp; with_reducible rfl) ?_
                  refine pureA 25 48 (bz 51 67108863) rfl rfl (any_of HT_.out (by kernel_rfl)) ?_
                  refine one_ (i := 26) (N := some 49) (bz 51 134217727) rfl rfl (one_of HT_.out (by kernel_rfl)) (by decide) (fun K hK => ?_)
                  refine goes_ Try.func51 (by kernel_rfl) rfl #[.int .i64 ((rd_T34 l0_1 x18_2).f1), .int .i64 (wrap64 (a0_0 + 1)), .int .i64 200000] (by rfl) rfl rfl aE ?_
                  with_reducible refine (spec_l1In.calls ((rd_T34 l0_1 x18_2).f1) (wrap64 (a0_0 + 1)) 200000 true _ A25.out).mono ?_
                  rintro e w' ⟨rfl, ⟨nd, rfl⟩⟩
                  refine ⟨_, rfl, ?_⟩
                  refine hK.out _ _ ⟨cz BK106 0 _, cz BK106 1 _, cz BK106 2 _, cz BK106 3 _, cz BK103 0 _, cz BK103 1 _, ((HB.out.cell (World.block_lt_of_cell? w _ hw108_0)).trans hw108_0), ((HB.out.cell (World.block_lt_of_cell? w _ hw108_1)).trans hw108_1), ((HB.out.cell (World.block_lt_of_cell? w _ hw108_2)).trans hw108_2), ((HB.out.cell (World.block_lt_of_cell? w _ hw108_3)).trans hw108_3)⟩ (fun hHeld => ?_)
                  clear hK K
                  refine norm_ (a' := ?_) ?_ ?_
                  rotate_left
                  ·show Act.put _ (some 49) _ = _
                   simp only [Act.put, List.setIfInBounds_toArray, List.set_cons_zero, List.set_cons_succ, i64_w, i32_w]
                   rfl
                  refine pureA 27 50 (bz 51 268435455) rfl rfl (any_of HT_.out (by kernel_rfl)) ?_
                  refine pureA 28 51 (bz 51 536870911) rfl rfl (any_of HT_.out (by kernel_rfl)) ?_
                  refine pureA 29 52 (bz 51 1073741823) rfl rfl (any_of HT_.out (by kernel_rfl)) ?_
                  refine pureA 30 53 (bz 51 2147483647) rfl rfl (any_of HT_.out (by kernel_rfl)) ?_
                  refine takeA 31 54 (bz 51 4294967295) rfl rfl (take_ofW HT_.out HW_.out (by kernel_rfl)) hHeld (by rintro w' ⟨s0, s1, s2, s3, s4, s5, s6, s7, s8, s9⟩; go_simp; with_reducible rfl) ?_
                  refine one_ (i := 32) (N := some 55) (bz 51 8589934591) rfl rfl (one_of HT_.out (by kernel_rfl)) (by decide) (fun K hK => ?_)
                  refine goes_ Try.func51 (by kernel_rfl) rfl #[.int .i64 ((rd_T34 l0_1 x18_2).f2), .int .i64 0, .int .i64 100000] (by rfl) rfl rfl aE ?_
                  with_reducible refine (spec_l1In.calls ((rd_T34 l0_1 x18_2).f2) 0 100000 true _ A27.out).mono ?_
                  rintro e w' ⟨rfl, ⟨nd, rfl⟩⟩
                  refine ⟨_, rfl, ?_⟩
                  refine hK.out _ _ ⟨cz BK106 0 _, cz BK106 1 _, cz BK106 2 _, cz BK106 3 _, cz BK103 0 _, cz BK103 1 _, ((HB.out.cell (World.block_lt_of_cell? w _ hw108_0)).trans hw108_0), ((HB.out.cell (World.block_lt_of_cell? w _ hw108_1)).trans hw108_1), ((HB.out.cell (World.block_lt_of_cell? w _ hw108_2)).trans hw108_2), ((HB.out.cell (World.block_lt_of_cell? w _ hw108_3)).trans hw108_3)⟩ (fun hHeld => ?_)
                  clear hK K
                  refine norm_ (a' := ?_) ?_ ?_
                  rotate_left
                  ·show Act.put _ (some 55) _ = _
                   simp only [Act.put, List.setIfInBounds_toArray, List.set_cons_zero, List.set_cons_succ, i64_w, i32_w]
                   rfl
                  refine pureA 33 56 (bz 51 17179869183) rfl rfl (any_of HT_.out (by kernel_rfl)) ?_
                  refine pureA 34 57 (bz 51 34359738367) rfl rfl (any_of HT_.out (by kernel_rfl)) ?_
                  refine pureA 35 58 (bz 51 68719476735) rfl rfl (any_of HT_.out (by kernel_rfl)) ?_
                  refine pureA 36 59 (bz 51 137438953471) rfl rfl (any_of HT_.out (by kernel_rfl)) ?_
                  refine takeA 37 60 (bz 51 274877906943) rfl rfl (take_ofW HT_.out HW_.out (by kernel_rfl)) hHeld (by rintro w' ⟨s0, s1, s2, s3, s4, s5, s6, s7, s8, s9⟩; go_simp; with_reducible rfl) ?_
                  refine one_ (i := 38) (N := some 61) (bz 51 549755813887) rfl rfl (one_of HT_.out (by kernel_rfl)) (by decide) (fun K hK => ?_)
                  refine goes_ Try.func51 (by kernel_rfl) rfl #[.int .i64 ((rd_T34 l0_1 x18_2).f3), .int .i64 1, .int .i64 1000] (by rfl) rfl rfl aE ?_
                  with_reducible refine (spec_l1In.calls ((rd_T34 l0_1 x18_2).f3) 1 1000 true _ A29.out).mono ?_
                  rintro e w' ⟨rfl, ⟨nd, rfl⟩⟩
                  refine ⟨_, rfl, ?_⟩
                  refine hK.out _ _ ⟨cz BK106 0 _, cz BK106 1 _, cz BK106 2 _, cz BK106 3 _, cz BK103 0 _, cz BK103 1 _, ((HB.out.cell (World.block_lt_of_cell? w _ hw108_0)).trans hw108_0), ((HB.out.cell (World.block_lt_of_cell? w _ hw108_1)).trans hw108_1), ((HB.out.cell (World.block_lt_of_cell? w _ hw108_2)).trans hw108_2), ((HB.out.cell (World.block_lt_of_cell? w _ hw108_3)).trans hw108_3)⟩ (fun hHeld => ?_)
                  clear hK K
                  refine norm_ (a' := ?_) ?_ ?_
                  rotate_left
                  ·show Act.put _ (some 61) _ = _
                   simp only [Act.put, List.setIfInBounds_toArray, List.set_cons_zero, List.set_cons_succ, i64_w, i32_w]
                   rfl
                  refine pureA 39 62 (bz 51 1099511627775) rfl rfl (any_of HT_.out (by kernel_rfl)) ?_
                  refine pureA 40 63 (bz 51 2199023255551) rfl rfl (any_of HT_.out (by kernel_rfl)) ?_
                  refine pureA 41 64 (bz 51 4398046511103) rfl rfl (any_of HT_.out (by kernel_rfl)) ?_
                  refine pureA 42 65 (bz 51 8796093022207) rfl rfl (any_of HT_.out (by kernel_rfl)) ?_
                  refine takeA 43 66 (bz 51 17592186044415) rfl rfl (take_ofW HT_.out HW_.out (by kernel_rfl)) hHeld (by rintro w' ⟨s0, s1, s2, s3, s4, s5, s6, s7, s8, s9⟩; go_simp; with_reducible rfl) ?_
                  refine pureA 44 67 (bz 51 35184372088831) rfl rfl (any_of HT_.out (by kernel_rfl)) ?_
                  refine pureA 45 68 (bz 51 70368744177663) rfl rfl (any_of HT_.out (by kernel_rfl)) ?_
                  refine pureU 46 69 (bz 51 140737488355327) rfl rfl (any_of HT_.out (by kernel_rfl)) ?_
                  refine pureU 47 70 (bz 51 281474976710655) rfl rfl (any_of HT_.out (by kernel_rfl)) ?_
                  refine pureU 48 71 (bz 51 562949953421311) rfl rfl (any_of HT_.out (by kernel_rfl)) ?_
                  refine pureA 49 72 (bz 51 1125899906842623) rfl rfl (any_of HT_.out (by kernel_rfl)) ?_
                  refine pureA 50 73 (bz 51 2251799813685247) rfl rfl (any_of HT_.out (by kernel_rfl)) ?_
                  refine done_ (done_of HT_.out (by kernel_rfl)) ?_
                  try go_wp2
                  go_roundg k2
                  case measure => have := HJ1.out; have := HK2.out; omega
                  case rel => exact ⟨(wrap64 (x18_2 + 1)), tE, H', ⟨by have := HJ1.out; have := HK2.out; omega⟩, ⟨by refine bU ?_; exact BK103.out⟩, ⟨by repeat (first | (with_reducible first | exact HB.out | apply below_alloc | apply pw_below_drewN | apply below_drew1 | refine below_set ?_ GE103.out | refine below_set ?_ GE106.out) | exact HB.out)⟩⟩
                ·replace c30 := Bool.eq_false_iff.mpr c30
                 subst c30
                 have H1 : (some false) = some r := by rw [if_neg (show ¬ (false = true) by decide)] at H; exact H
                 clear H
                 have H := H1
                 clear H1
                 obtain rfl := Option.some.inj H
                 have p105 : 0 ≤ (x18_2 : Int) := of_decide_eq_true hE
                 have q105 : x18_2 < (l0_1.length : Int) := of_decide_eq_true hE
                 obtain ⟨ad105, e105, hx105_0, hx105_1, hx105_2, hx105_3⟩ := at_T34 HR0_1.out x18_2 p105 q105
                 cases e105
                 replace hx105_0 := (HB.out.cell (World.block_lt_of_cell? w _ hx105_0)).trans hx105_0
                 replace hx105_1 := (HB.out.cell (World.block_lt_of_cell? w _ hx105_1)).trans hx105_1
                 replace hx105_2 := (HB.out.cell (World.block_lt_of_cell? w _ hx105_2)).trans hx105_2
                 replace hx105_3 := (HB.out.cell (World.block_lt_of_cell? w _ hx105_3)).trans hx105_3
                 replace p105 := eq_true p105
                 replace q105 := eq_true q105
                 try go_wp2_with (first | ((with_reducible refine gate_dst (N := 4) rfl ?_); (try (refine gate_guard (by rfl) ?_; dsimp only)); refine box_event rfl (N := 4) rfl (cs := #[.int .i64 0, .int .i64 0, .int .i64 0, .int .i64 0]) (t := 34) sE ?_; intro gb106 hg w48 hbox hb; have BK106 := Aside0.mk hbox; have GW106 := gS w hg (lV1 GE103); have GE106 := gS w hg (lV1 GE103); replace HB := bH (lV1 GE103) hb; have NB103_106 := nL hg (bV BK103); have NB106_103 := nG hg (bV BK103); replace BK103 := bB (bV BK103) hb; clear hb hbox hg; have hnb49 := NB106_103.out; have hnc49 := NB103_106.out; have hcz50_0 := cz BK106 0 (.int .i64 0); have hcz50_1 := cz BK106 1 (.int .i64 0); have hcz50_2 := cz BK106 2 (.int .i64 0); have hcz50_3 := cz BK106 3 (.int .i64 0); have hfz50_0 := fz BK106 0; have hfz50_1 := fz BK106 1; have hfz50_2 := fz BK106 2; have hfz50_3 := fz BK106 3) | ((with_reducible refine gate_store (t := 34) (p := 4) rfl ?_); refine store_event (t := 34) (p := 4) (v := ?vo_w51) (w1 := ((((w48.setCell ⟨gb106, 0, none⟩ (.int .i64 ((rd_T34 l0_1 x18_2).f0))).setCell ⟨gb106, 1, none⟩ (.int .i64 ((rd_T34 l0_1 x18_2).f1))).setCell ⟨gb106, 2, none⟩ (.int .i64 ((rd_T34 l0_1 x18_2).f2))).setCell ⟨gb106, 3, none⟩ (.int .i64 ((rd_T34 l0_1 x18_2).f3)))) ?hg ?ho ?hn ?hr ?_; (case ho => rfl); (case hg => rfl); (case hn => rfl); (case hr => first | (go_simp; done) | (go_simp; rfl) | (have hq0_ := (blk_cell BK106.out 0).trans (show _ = some _ from rfl); have hf0_ := blk_frozen BK106.out 0; have hq1_ := (blk_cell BK106.out 1).trans (show _ = some _ from rfl); have hf1_ := blk_frozen BK106.out 1; have hq2_ := (blk_cell BK106.out 2).trans (show _ = some _ from rfl); have hf2_ := blk_frozen BK106.out 2; have hq3_ := (blk_cell BK106.out 3).trans (show _ = some _ from rfl); have hf3_ := blk_frozen BK106.out 3; first | (go_simp; done) | (go_simp; rfl))); intro w51 hw; replace BK103 : Aside0 (w51.heap[gb103]? = some (.cells #[.int .i64 a0_0, .slice (some ad105) l0_1.length c0_1] 30 (0, 0))) := ⟨(by rw [hw]; exact (bG NB103_106 BK103))⟩; replace BK106 : Aside0 (w51.heap[gb106]? = some (.cells #[.int .i64 ((rd_T34 l0_1 x18_2).f0), .int .i64 ((rd_T34 l0_1 x18_2).f1), .int .i64 ((rd_T34 l0_1 x18_2).f2), .int .i64 ((rd_T34 l0_1 x18_2).f3)] 34 (0, 0))) := ⟨(by rw [hw]; exact (by refine bU ?_; refine blk_put (cs := #[.int .i64 ((rd_T34 l0_1 x18_2).f0), .int .i64 ((rd_T34 l0_1 x18_2).f1), .int .i64 ((rd_T34 l0_1 x18_2).f2), .int .i64 0]) ?_ 3 _ rfl; refine bU ?_; refine blk_put (cs := #[.int .i64 ((rd_T34 l0_1 x18_2).f0), .int .i64 ((rd_T34 l0_1 x18_2).f1), .int .i64 0, .int .i64 0]) ?_ 2 _ rfl; refine bU ?_; refine blk_put (cs := #[.int .i64 ((rd_T34 l0_1 x18_2).f0), .int .i64 0, .int .i64 0, .int .i64 0]) ?_ 1 _ rfl; refine bU ?_; refine blk_put (cs := #[.int .i64 0, .int .i64 0, .int .i64 0, .int .i64 0]) ?_ 0 _ rfl; refine bU ?_; exact BK106.out))⟩; replace HB : Aside0 (Below w.heap.size w w51) := ⟨(by rw [hw]; exact (lV2 GE103 GE106))⟩; clear hw))
                 replace BK103 := Aside0.mk (blk_drew BK103.out)
                 replace BK106 := Aside0.mk (blk_drew BK106.out)
                 replace HB := Aside0.mk (below_drew1 HB.out)
                 have p108 : 0 ≤ ((ji16) : Int) := of_decide_eq_true hE
                 have q108 : (ji16) < (l0_1.length : Int) := of_decide_eq_true hE
                 obtain ⟨ad108, e108, hx108_0, hx108_1, hx108_2, hx108_3⟩ := at_T34 HR0_1.out (ji16) p108 q108
                 have hw108_3 := hx108_3
                 have hw108_2 := hx108_2
                 have hw108_1 := hx108_1
                 have hw108_0 := hx108_0
                 obtain rfl : ad105 = ad108 := (by injection e108)
                 replace hx108_0 := (HB.out.cell (World.block_lt_of_cell? w _ hx108_0)).trans hx108_0
                 replace hx108_1 := (HB.out.cell (World.block_lt_of_cell? w _ hx108_1)).trans hx108_1
                 replace hx108_2 := (HB.out.cell (World.block_lt_of_cell? w _ hx108_2)).trans hx108_2
                 replace hx108_3 := (HB.out.cell (World.block_lt_of_cell? w _ hx108_3)).trans hx108_3
                 replace p108 := eq_true p108
                 replace q108 := eq_true q108
                 refine start_ (n := 51) (S := fun w' => w'.cell? ⟨gb106, 0, none⟩ = some (.int .i64 ((rd_T34 l0_1 x18_2).f0)) ∧ w'.cell? ⟨gb106, 1, none⟩ = some (.int .i64 ((rd_T34 l0_1 x18_2).f1)) ∧ w'.cell? ⟨gb106, 2, none⟩ = some (.int .i64 ((rd_T34 l0_1 x18_2).f2)) ∧ w'.cell? ⟨gb106, 3, none⟩ = some (.int .i64 ((rd_T34 l0_1 x18_2).f3)) ∧ w'.cell? ⟨gb103, 0, none⟩ = some (.int .i64 a0_0) ∧ w'.cell? ⟨gb103, 1, none⟩ = some (.slice (some ad105) l0_1.length c0_1) ∧ w'.cell? (ad105.add (((ji16)).toNat * 4)) = some (.int .i64 ((rd_T34 l0_1 (ji16)).f0)) ∧ w'.cell? ⟨(ad105.add (((ji16)).toNat * 4)).block, (ad105.add (((ji16)).toNat * 4)).off + 1, none⟩ = some (.int .i64 ((rd_T34 l0_1 (ji16)).f1)) ∧ w'.cell? ⟨(ad105.add (((ji16)).toNat * 4)).block, (ad105.add (((ji16)).toNat * 4)).off + 2, none⟩ = some (.int .i64 ((rd_T34 l0_1 (ji16)).f2)) ∧ w'.cell? ⟨(ad105.add (((ji16)).toNat * 4)).block, (ad105.add (((ji16)).toNat * 4)).off + 3, none⟩ = some (.int .i64 ((rd_T34 l0_1 (ji16)).f3))) (ds := []) #[false, false, false, false, false, false, false, false, false, false, false, false, false, false, false, false, false, false, false, false, false, false, false, false, false, false, false, false, false, false, false, false, false, false, false, false, false, false, false, false, false, false, false, false, false, false, false, false, false, false, false] (by kernel_rfl) rfl rfl ⟨cz BK106 0 _, cz BK106 1 _, cz BK106 2 _, cz BK106 3 _, cz BK103 0 _, cz BK103 1 _, ((HB.out.cell (World.block_lt_of_cell? w _ hw108_0)).trans hw108_0), ((HB.out.cell (World.block_lt_of_cell? w _ hw108_1)).trans hw108_1), ((HB.out.cell (World.block_lt_of_cell? w _ hw108_2)).trans hw108_2), ((HB.out.cell (World.block_lt_of_cell? w _ hw108_3)).trans hw108_3)⟩ (fun hHeld => ?_); refine with_tabW spec_GoodClock.tab6 spec_GoodClock.bits6 (fun HT_ HW_ => ?_)
                 generalize w51.drew = w52 at BK103 BK106 HB hx108_0 hx108_1 hx108_2 hx108_3 hHeld ⊢
                 refine pureA 0 23 (bz 51 1) rfl rfl (any_of HT_.out (by kernel_rfl)) ?_
                 refine takeA 1 24 (bz 51 3) rfl rfl (take_ofW HT_.out HW_.out (by kernel_rfl)) hHeld (by rintro w' ⟨s0, s1, s2, s3, s4, s5, s6, s7, s8, s9⟩; go_simp; with_reducible rfl) ?_
                 refine one_ (i := 2) (N := some 25) (bz 51 7) rfl rfl (one_of HT_.out (by kernel_rfl)) (by decide) (fun K hK => ?_)
                 refine goes_ Try.func51 (by kernel_rfl) rfl #[.int .i64 ((rd_T34 l0_1 x18_2).f0), .int .i64 0, .int .i64 999] (by rfl) rfl rfl aE ?_
                 with_reducible refine (spec_l1In.calls ((rd_T34 l0_1 x18_2).f0) 0 999 true _ A13.out).mono ?_
                 rintro e w' ⟨rfl, ⟨nd, rfl⟩⟩
                 refine ⟨_, rfl, ?_⟩
                 refine hK.out _ _ ⟨cz BK106 0 _, cz BK106 1 _, cz BK106 2 _, cz BK106 3 _, cz BK103 0 _, cz BK103 1 _, ((HB.out.cell (World.block_lt_of_cell? w _ hw108_0)).trans hw108_0), ((HB.out.cell (World.block_lt_of_cell? w _ hw108_1)).trans hw108_1), ((HB.out.cell (World.block_lt_of_cell? w _ hw108_2)).trans hw108_2), ((HB.out.cell (World.block_lt_of_cell? w _ hw108_3)).trans hw108_3)⟩ (fun hHeld => ?_)
                 clear hK K
                 refine norm_ (a' := ?_) ?_ ?_
                 rotate_left
                 ·show Act.put _ (some 25) _ = _
                  simp only [Act.put, List.setIfInBounds_toArray, List.set_cons_zero, List.set_cons_succ, i64_w, i32_w]
                  rfl
                 refine pureA 3 26 (bz 51 15) rfl rfl (any_of HT_.out (by kernel_rfl)) ?_
                 refine pureA 4 27 (bz 51 31) rfl rfl (any_of HT_.out (by kernel_rfl)) ?_
                 refine pureA 5 28 (bz 51 63) rfl rfl (any_of HT_.out (by kernel_rfl)) ?_
                 refine pureA 6 29 (bz 51 127) rfl rfl (any_of HT_.out (by kernel_rfl)) ?_
                 refine pureA 7 30 (bz 51 255) rfl rfl (any_of HT_.out (by kernel_rfl)) ?_
                 refine pureA 8 31 (bz 51 511) rfl rfl (any_of HT_.out (by kernel_rfl)) ?_
                 refine pureA 10 33 (bz 51 1535) rfl rfl (any_of HT_.out (by kernel_rfl)) ?_
                 refine pureA 11 34 (bz 51 3583) rfl rfl (any_of HT_.out (by kernel_rfl)) ?_
                 refine pureA 15 38 (bz 51 36351) rfl rfl (any_of HT_.out (by kernel_rfl)) ?_
                 refine takeA 9 32 (bz 51 36863) rfl rfl (take_ofW HT_.out HW_.out (by kernel_rfl)) hHeld (by rintro w' ⟨s0, s1, s2, s3, s4, s5, s6, s7, s8, s9⟩; go_simp; with_reducible rfl) ?_
                 refine pureA 12 35 (bz 51 40959) rfl rfl (any_of HT_.out (by kernel_rfl)) ?_
                 refine pureA 13 36 (bz 51 49151) rfl rfl (any_of HT_.out (by kernel_rfl)) ?_
                 refine takeA 14 37 (bz 51 65535) rfl rfl (take_ofW HT_.out HW_.out (by kernel_rfl)) hHeld (by rintro w' ⟨s0, s1, s2, s3, s4, s5, s6, s7, s8, s9⟩; go_simp; with_reducible rfl) ?_
                 refine takeA 16 39 (bz 51 131071) rfl rfl (take_ofW HT_.out HW_.out (by kernel_rfl)) hHeld (by rintro w' ⟨s0, s1, s2, s3, s4, s5, s6, s7, s8, s9⟩; go_simp; with_reducible rfl) ?_
                 refine pureA 17 40 (bz 51 262143) rfl rfl (any_of HT_.out (by kernel_rfl)) ?_
                 refine pureA 18 41 (bz 51 524287) rfl rfl (any_of HT_.out (by kernel_rfl)) ?_
                 refine pureA 19 42 (bz 51 1048575) rfl rfl (any_of HT_.out (by kernel_rfl)) ?_
                 refine pureA 20 43 (bz 51 2097151) rfl rfl (any_of HT_.out (by kernel_rfl)) ?_
                 refine pureA 21 44 (bz 51 4194303) rfl rfl (any_of HT_.out (by kernel_rfl)) ?_
                 refine pureA 23 46 (bz 51 12582911) rfl rfl (any_of HT_.out (by kernel_rfl)) ?_
                 refine takeA 22 45 (bz 51 16777215) rfl rfl (take_ofW HT_.out HW_.out (by kernel_rfl)) hHeld (by rintro w' ⟨s0, s1, s2, s3, s4, s5, s6, s7, s8, s9⟩; go_simp; with_reducible rfl) ?_
                 refine takeA 24 47 (bz 51 33554431) rfl rfl (take_ofW HT_.out HW_.out (by kernel_rfl)) hHeld (by rintro w' ⟨s0, s1, s2, s3, s4, s5, s6, s7, s8, s9⟩; go_simp; with_reducible rfl) ?_
                 refine pureA 25 48 (bz 51 67108863) rfl rfl (any_of HT_.out (by kernel_rfl)) ?_
                 refine one_ (i := 26) (N := some 49) (bz 51 134217727) rfl rfl (one_of HT_.out (by kernel_rfl)) (by decide) (fun K hK => ?_)
                 refine goes_ Try.func51 (by kernel_rfl) rfl #[.int .i64 ((rd_T34 l0_1 x18_2).f1), .int .i64 (wrap64 (a0_0 + 1)), .int .i64 200000] (by rfl) rfl rfl aE ?_
                 with_reducible refine (spec_l1In.calls ((rd_T34 l0_1 x18_2).f1) (wrap64 (a0_0 + 1)) 200000 true _ A25.out).mono ?_
                 rintro e w' ⟨rfl, ⟨nd, rfl⟩⟩
                 refine ⟨_, rfl, ?_⟩
                 refine hK.out _ _ ⟨cz BK106 0 _, cz BK106 1 _, cz BK106 2 _, cz BK106 3 _, cz BK103 0 _, cz BK103 1 _, ((HB.out.cell (World.block_lt_of_cell? w _ hw108_0)).trans hw108_0), ((HB.out.cell (World.block_lt_of_cell? w _ hw108_1)).trans hw108_1), ((HB.out.cell (World.block_lt_of_cell? w _ hw108_2)).trans hw108_2), ((HB.out.cell (World.block_lt_of_cell? w _ hw108_3)).trans hw108_3)⟩ (fun hHeld => ?_)
                 clear hK K
                 refine norm_ (a' := ?_) ?_ ?_
                 rotate_left
                 ·show Act.put _ (some 49) _ = _
                  simp only [Act.put, List.setIfInBounds_toArray, List.set_cons_zero, List.set_cons_succ, i64_w, i32_w]
                  rfl
                 refine pureA 27 50 (bz 51 268435455) rfl rfl (any_of HT_.out (by kernel_rfl)) ?_
                 refine pureA 28 51 (bz 51 536870911) rfl rfl (any_of HT_.out (by kernel_rfl)) ?_
                 refine pureA 29 52 (bz 51 1073741823) rfl rfl (any_of HT_.out (by kernel_rfl)) ?_
                 refine pureA 30 53 (bz 51 2147483647) rfl rfl (any_of HT_.out (by kernel_rfl)) ?_
                 refine takeA 31 54 (bz 51 4294967295) rfl rfl (take_ofW HT_.out HW_.out (by kernel_rfl)) hHeld (by rintro w' ⟨s0, s1, s2, s3, s4, s5, s6, s7, s8, s9⟩; go_simp; with_reducible rfl) ?_
                 refine one_ (i := 32) (N := some 55) (bz 51 8589934591) rfl rfl (one_of HT_.out (by kernel_rfl)) (by decide) (fun K hK => ?_)
                 refine goes_ Try.func51 (by kernel_rfl) rfl #[.int .i64 ((rd_T34 l0_1 x18_2).f2), .int .i64 0, .int .i64 100000] (by rfl) rfl rfl aE ?_
                 with_reducible refine (spec_l1In.calls ((rd_T34 l0_1 x18_2).f2) 0 100000 true _ A27.out).mono ?_
                 rintro e w' ⟨rfl, ⟨nd, rfl⟩⟩
                 refine ⟨_, rfl, ?_⟩
                 refine hK.out _ _ ⟨cz BK106 0 _, cz BK106 1 _, cz BK106 2 _, cz BK106 3 _, cz BK103 0 _, cz BK103 1 _, ((HB.out.cell (World.block_lt_of_cell? w _ hw108_0)).trans hw108_0), ((HB.out.cell (World.block_lt_of_cell? w _ hw108_1)).trans hw108_1), ((HB.out.cell (World.block_lt_of_cell? w _ hw108_2)).trans hw108_2), ((HB.out.cell (World.block_lt_of_cell? w _ hw108_3)).trans hw108_3)⟩ (fun hHeld => ?_)
                 clear hK K
                 refine norm_ (a' := ?_) ?_ ?_
                 rotate_left
                 ·show Act.put _ (some 55) _ = _
                  simp only [Act.put, List.setIfInBounds_toArray, List.set_cons_zero, List.set_cons_succ, i64_w, i32_w]
                  rfl
                 refine pureA 33 56 (bz 51 17179869183) rfl rfl (any_of HT_.out (by kernel_rfl)) ?_
                 refine pureA 34 57 (bz 51 34359738367) rfl rfl (any_of HT_.out (by kernel_rfl)) ?_
                 refine pureA 35 58 (bz 51 68719476735) rfl rfl (any_of HT_.out (by kernel_rfl)) ?_
                 refine pureA 36 59 (bz 51 137438953471) rfl rfl (any_of HT_.out (by kernel_rfl)) ?_
                 refine takeA 37 60 (bz 51 274877906943) rfl rfl (take_ofW HT_.out HW_.out (by kernel_rfl)) hHeld (by rintro w' ⟨s0, s1, s2, s3, s4, s5, s6, s7, s8, s9⟩; go_simp; with_reducible rfl) ?_
                 refine one_ (i := 38) (N := some 61) (bz 51 549755813887) rfl rfl (one_of HT_.out (by kernel_rfl)) (by decide) (fun K hK => ?_)
                 refine goes_ Try.func51 (by kernel_rfl) rfl #[.int .i64 ((rd_T34 l0_1 x18_2).f3), .int .i64 1, .int .i64 1000] (by rfl) rfl rfl aE ?_
                 with_reducible refine (spec_l1In.calls ((rd_T34 l0_1 x18_2).f3) 1 1000 false _ A29.out).mono ?_
                 rintro e w' ⟨rfl, ⟨nd, rfl⟩⟩
                 refine ⟨_, rfl, ?_⟩
                 refine hK.out _ _ ⟨cz BK106 0 _, cz BK106 1 _, cz BK106 2 _, cz BK106 3 _, cz BK103 0 _, cz BK103 1 _, ((HB.out.cell (World.block_lt_of_cell? w _ hw108_0)).trans hw108_0), ((HB.out.cell (World.block_lt_of_cell? w _ hw108_1)).trans hw108_1), ((HB.out.cell (World.block_lt_of_cell? w _ hw108_2)).trans hw108_2), ((HB.out.cell (World.block_lt_of_cell? w _ hw108_3)).trans hw108_3)⟩ (fun hHeld => ?_)
                 clear hK K
                 refine norm_ (a' := ?_) ?_ ?_
                 rotate_left
                 ·show Act.put _ (some 61) _ = _
                  simp only [Act.put, List.setIfInBounds_toArray, List.set_cons_zero, List.set_cons_succ, i64_w, i32_w]
                  rfl
                 refine pureA 39 62 (bz 51 1099511627775) rfl rfl (any_of HT_.out (by kernel_rfl)) ?_
                 refine pureA 40 63 (bz 51 2199023255551) rfl rfl (any_of HT_.out (by kernel_rfl)) ?_
                 refine pureA 41 64 (bz 51 4398046511103) rfl rfl (any_of HT_.out (by kernel_rfl)) ?_
                 refine pureU 42 65 (bz 51 8796093022207) rfl rfl (any_of HT_.out (by kernel_rfl)) ?_
                 refine pureU 43 66 (bz 51 17592186044415) rfl rfl (any_of HT_.out (by kernel_rfl)) ?_
                 refine pureU 44 67 (bz 51 35184372088831) rfl rfl (any_of HT_.out (by kernel_rfl)) ?_
                 refine pureU 45 68 (bz 51 70368744177663) rfl rfl (any_of HT_.out (by kernel_rfl)) ?_
                 refine pureU 46 69 (bz 51 140737488355327) rfl rfl (any_of HT_.out (by kernel_rfl)) ?_
                 refine pureU 47 70 (bz 51 281474976710655) rfl rfl (any_of HT_.out (by kernel_rfl)) ?_
                 refine pureU 48 71 (bz 51 562949953421311) rfl rfl (any_of HT_.out (by kernel_rfl)) ?_
                 refine pureU 49 72 (bz 51 1125899906842623) rfl rfl (any_of HT_.out (by kernel_rfl)) ?_
                 refine pureA 50 73 (bz 51 2251799813685247) rfl rfl (any_of HT_.out (by kernel_rfl)) ?_
                 refine done_ (done_of HT_.out (by kernel_rfl)) ?_
                 try go_wp2
                 go_ret
                 exact ⟨by first | rfl | (simp [errW_none, errW_some] <;> rfl) | (simp only [← hji16]; first | rfl | (simp [errW_none, errW_some] <;> rfl)) | (simp [*, errW_none, errW_some] <;> rfl), lV2 GE103 GE106⟩
               ·replace c28 := Bool.eq_false_iff.mpr c28
                subst c28
                have H1 : (some false) = some r := by rw [if_neg (show ¬ (false = true) by decide)] at H; exact H
                clear H
                have H := H1
                clear H1
                obtain rfl := Option.some.inj H
                have p105 : 0 ≤ (x18_2 : Int) := of_decide_eq_true hE
                have q105 : x18_2 < (l0_1.length : Int) := of_decide_eq_true hE
                obtain ⟨ad105, e105, hx105_0, hx105_1, hx105_2, hx105_3⟩ := at_T34 HR0_1.out x18_2 p105 q105
                cases e105
                replace hx105_0 := (HB.out.cell (World.block_lt_of_cell? w _ hx105_0)).trans hx105_0
                replace hx105_1 := (HB.out.cell (World.block_lt_of_cell? w _ hx105_1)).trans hx105_1
                replace hx105_2 := (HB.out.cell (World.block_lt_of_cell? w _ hx105_2)).trans hx105_2
                replace hx105_3 := (HB.out.cell (World.block_lt_of_cell? w _ hx105_3)).trans hx105_3
                replace p105 := eq_true p105
                replace q105 := eq_true q105
                try go_wp2_with (first | ((with_reducible refine gate_dst (N := 4) rfl ?_); (try (refine gate_guard (by rfl) ?_; dsimp only)); refine box_event rfl (N := 4) rfl (cs := #[.int .i64 0, .int .i64 0, .int .i64 0, .int .i64 0]) (t := 34) sE ?_; intro gb106 hg w53 hbox hb; have BK106 := Aside0.mk hbox; have GW106 := gS w hg (lV1 GE103); have GE106 := gS w hg (lV1 GE103); replace HB := bH (lV1 GE103) hb; have NB103_106 := nL hg (bV BK103); have NB106_103 := nG hg (bV BK103); replace BK103 := bB (bV BK103) hb; clear hb hbox hg; have hnb54 := NB106_103.out; have hnc54 := NB103_106.out; have hcz55_0 := cz BK106 0 (.int .i64 0); have hcz55_1 := cz BK106 1 (.int .i64 0); have hcz55_2 := cz BK106 2 (.int .i64 0); have hcz55_3 := cz BK106 3 (.int .i64 0); have hfz55_0 := fz BK106 0; have hfz55_1 := fz BK106 1; have hfz55_2 := fz BK106 2; have hfz55_3 := fz BK106 3) | ((with_reducible refine gate_store (t := 34) (p := 4) rfl ?_); refine store_event (t := 34) (p := 4) (v := ?vo_w56) (w1 := ((((w53.setCell ⟨gb106, 0, none⟩ (.int .i64 ((rd_T34 l0_1 x18_2).f0))).setCell ⟨gb106, 1, none⟩ (.int .i64 ((rd_T34 l0_1 x18_2).f1))).setCell ⟨gb106, 2, none⟩ (.int .i64 ((rd_T34 l0_1 x18_2).f2))).setCell ⟨gb106, 3, none⟩ (.int .i64 ((rd_T34 l0_1 x18_2).f3)))) ?hg ?ho ?hn ?hr ?_; (case ho => rfl); (case hg => rfl); (case hn => rfl); (case hr => first | (go_simp; done) | (go_simp; rfl) | (have hq0_ := (blk_cell BK106.out 0).trans (show _ = some _ from rfl); have hf0_ := blk_frozen BK106.out 0; have hq1_ := (blk_cell BK106.out 1).trans (show _ = some _ from rfl); have hf1_ := blk_frozen BK106.out 1; have hq2_ := (blk_cell BK106.out 2).trans (show _ = some _ from rfl); have hf2_ := blk_frozen BK106.out 2; have hq3_ := (blk_cell BK106.out 3).trans (show _ = some _ from rfl); have hf3_ := blk_frozen BK106.out 3; first | (go_simp; done) | (go_simp; rfl))); intro w56 hw; replace BK103 : Aside0 (w56.heap[gb103]? = some (.cells #[.int .i64 a0_0, .slice (some ad105) l0_1.length c0_1] 30 (0, 0))) := ⟨(by rw [hw]; exact (bG NB103_106 BK103))⟩; replace BK106 : Aside0 (w56.heap[gb106]? = some (.cells #[.int .i64 ((rd_T34 l0_1 x18_2).f0), .int .i64 ((rd_T34 l0_1 x18_2).f1), .int .i64 ((rd_T34 l0_1 x18_2).f2), .int .i64 ((rd_T34 l0_1 x18_2).f3)] 34 (0, 0))) := ⟨(by rw [hw]; exact (by refine bU ?_; refine blk_put (cs := #[.int .i64 ((rd_T34 l0_1 x18_2).f0), .int .i64 ((rd_T34 l0_1 x18_2).f1), .int .i64 ((rd_T34 l0_1 x18_2).f2), .int .i64 0]) ?_ 3 _ rfl; refine bU ?_; refine blk_put (cs := #[.int .i64 ((rd_T34 l0_1 x18_2).f0), .int .i64 ((rd_T34 l0_1 x18_2).f1), .int .i64 0, .int .i64 0]) ?_ 2 _ rfl; refine bU ?_; refine blk_put (cs := #[.int .i64 ((rd_T34 l0_1 x18_2).f0), .int .i64 0, .int .i64 0, .int .i64 0]) ?_ 1 _ rfl; refine bU ?_; refine blk_put (cs := #[.int .i64 0, .int .i64 0, .int .i64 0, .int .i64 0]) ?_ 0 _ rfl; refine bU ?_; exact BK106.out))⟩; replace HB : Aside0 (Below w.heap.size w w56) := ⟨(by rw [hw]; exact (lV2 GE103 GE106))⟩; clear hw))
                replace BK103 := Aside0.mk (blk_drew BK103.out)
                replace BK106 := Aside0.mk (blk_drew BK106.out)
                replace HB := Aside0.mk (below_drew1 HB.out)
                have p108 : 0 ≤ ((ji16) : Int) := of_decide_eq_true hE
                have q108 : (ji16) < (l0_1.length : Int) := of_decide_eq_true hE
                obtain ⟨ad108, e108, hx108_0, hx108_1, hx108_2, hx108_3⟩ := at_T34 HR0_1.out (ji16) p108 q108
                have hw108_3 := hx108_3
                have hw108_2 := hx108_2
                have hw108_1 := hx108_1
                have hw108_0 := hx108_0
                obtain rfl : ad105 = ad108 := (by injection e108)
                replace hx108_0 := (HB.out.cell (World.block_lt_of_cell? w _ hx108_0)).trans hx108_0
                replace hx108_1 := (HB.out.cell (World.block_lt_of_cell? w _ hx108_1)).trans hx108_1
                replace hx108_2 := (HB.out.cell (World.block_lt_of_cell? w _ hx108_2)).trans hx108_2
                replace hx108_3 := (HB.out.cell (World.block_lt_of_cell? w _ hx108_3)).trans hx108_3
                replace p108 := eq_true p108
                replace q108 := eq_true q108
                refine start_ (n := 51) (S := fun w' => w'.cell? ⟨gb106, 0, none⟩ = some (.int .i64 ((rd_T34 l0_1 x18_2).f0)) ∧ w'.cell? ⟨gb106, 1, none⟩ = some (.int .i64 ((rd_T34 l0_1 x18_2).f1)) ∧ w'.cell? ⟨gb106, 2, none⟩ = some (.int .i64 ((rd_T34 l0_1 x18_2).f2)) ∧ w'.cell? ⟨gb106, 3, none⟩ = some (.int .i64 ((rd_T34 l0_1 x18_2).f3)) ∧ w'.cell? ⟨gb103, 0, none⟩ = some (.int .i64 a0_0) ∧ w'.cell? ⟨gb103, 1, none⟩ = some (.slice (some ad105) l0_1.length c0_1) ∧ w'.cell? (ad105.add (((ji16)).toNat * 4)) = some (.int .i64 ((rd_T34 l0_1 (ji16)).f0)) ∧ w'.cell? ⟨(ad105.add (((ji16)).toNat * 4)).block, (ad105.add (((ji16)).toNat * 4)).off + 1, none⟩ = some (.int .i64 ((rd_T34 l0_1 (ji16)).f1)) ∧ w'.cell? ⟨(ad105.add (((ji16)).toNat * 4)).block, (ad105.add (((ji16)).toNat * 4)).off + 2, none⟩ = some (.int .i64 ((rd_T34 l0_1 (ji16)).f2)) ∧ w'.cell? ⟨(ad105.add (((ji16)).toNat * 4)).block, (ad105.add (((ji16)).toNat * 4)).off + 3, none⟩ = some (.int .i64 ((rd_T34 l0_1 (ji16)).f3))) (ds := []) #[false, false, false, false, false, false, false, false, false, false, false, false, false, false, false, false, false, false, false, false, false, false, false, false, false, false, false, false, false, false, false, false, false, false, false, false, false, false, false, false, false, false, false, false, false, false, false, false, false, false, false] (by kernel_rfl) rfl rfl ⟨cz BK106 0 _, cz BK106 1 _, cz BK106 2 _, cz BK106 3 _, cz BK103 0 _, cz BK103 1 _, ((HB.out.cell (World.block_lt_of_cell? w _ hw108_0)).trans hw108_0), ((HB.out.cell (World.block_lt_of_cell? w _ hw108_1)).trans hw108_1), ((HB.out.cell (World.block_lt_of_cell? w _ hw108_2)).trans hw108_2), ((HB.out.cell (World.block_lt_of_cell? w _ hw108_3)).trans hw108_3)⟩ (fun hHeld => ?_); refine with_tabW spec_GoodClock.tab6 spec_GoodClock.bits6 (fun HT_ HW_ => ?_)
                generalize w56.drew = w57 at BK103 BK106 HB hx108_0 hx108_1 hx108_2 hx108_3 hHeld ⊢
                refine pureA 0 23 (bz 51 1) rfl rfl (any_of HT_.out (by kernel_rfl)) ?_
                refine takeA 1 24 (bz 51 3) rfl rfl (take_ofW HT_.out HW_.out (by kernel_rfl)) hHeld (by rintro w' ⟨s0, s1, s2, s3, s4, s5, s6, s7, s8, s9⟩; go_simp; with_reducible rfl) ?_
                refine one_ (i := 2) (N := some 25) (bz 51 7) rfl rfl (one_of HT_.out (by kernel_rfl)) (by decide) (fun K hK => ?_)
                refine goes_ Try.func51 (by kernel_rfl) rfl #[.int .i64 ((rd_T34 l0_1 x18_2).f0), .int .i64 0, .int .i64 999] (by rfl) rfl rfl aE ?_
                with_reducible refine (spec_l1In.calls ((rd_T34 l0_1 x18_2).f0) 0 999 true _ A13.out).mono ?_
                rintro e w' ⟨rfl, ⟨nd, rfl⟩⟩
                refine ⟨_, rfl, ?_⟩
                refine hK.out _ _ ⟨cz BK106 0 _, cz BK106 1 _, cz BK106 2 _, cz BK106 3 _, cz BK103 0 _, cz BK103 1 _, ((HB.out.cell (World.block_lt_of_cell? w _ hw108_0)).trans hw108_0), ((HB.out.cell (World.block_lt_of_cell? w _ hw108_1)).trans hw108_1), ((HB.out.cell (World.block_lt_of_cell? w _ hw108_2)).trans hw108_2), ((HB.out.cell (World.block_lt_of_cell? w _ hw108_3)).trans hw108_3)⟩ (fun hHeld => ?_)
                clear hK K
                refine norm_ (a' := ?_) ?_ ?_
                rotate_left
                ·show Act.put _ (some 25) _ = _
                 simp only [Act.put, List.setIfInBounds_toArray, List.set_cons_zero, List.set_cons_succ, i64_w, i32_w]
                 rfl
                refine pureA 3 26 (bz 51 15) rfl rfl (any_of HT_.out (by kernel_rfl)) ?_
                refine pureA 4 27 (bz 51 31) rfl rfl (any_of HT_.out (by kernel_rfl)) ?_
                refine pureA 5 28 (bz 51 63) rfl rfl (any_of HT_.out (by kernel_rfl)) ?_
                refine pureA 6 29 (bz 51 127) rfl rfl (any_of HT_.out (by kernel_rfl)) ?_
                refine pureA 7 30 (bz 51 255) rfl rfl (any_of HT_.out (by kernel_rfl)) ?_
                refine pureA 8 31 (bz 51 511) rfl rfl (any_of HT_.out (by kernel_rfl)) ?_
                refine pureA 10 33 (bz 51 1535) rfl rfl (any_of HT_.out (by kernel_rfl)) ?_
                refine pureA 11 34 (bz 51 3583) rfl rfl (any_of HT_.out (by kernel_rfl)) ?_
                refine pureA 15 38 (bz 51 36351) rfl rfl (any_of HT_.out (by kernel_rfl)) ?_
                refine takeA 9 32 (bz 51 36863) rfl rfl (take_ofW HT_.out HW_.out (by kernel_rfl)) hHeld (by rintro w' ⟨s0, s1, s2, s3, s4, s5, s6, s7, s8, s9⟩; go_simp; with_reducible rfl) ?_
                refine pureA 12 35 (bz 51 40959) rfl rfl (any_of HT_.out (by kernel_rfl)) ?_
                refine pureA 13 36 (bz 51 49151) rfl rfl (any_of HT_.out (by kernel_rfl)) ?_
                refine takeA 14 37 (bz 51 65535) rfl rfl (take_ofW HT_.out HW_.out (by kernel_rfl)) hHeld (by rintro w' ⟨s0, s1, s2, s3, s4, s5, s6, s7, s8, s9⟩; go_simp; with_reducible rfl) ?_
                refine takeA 16 39 (bz 51 131071) rfl rfl (take_ofW HT_.out HW_.out (by kernel_rfl)) hHeld (by rintro w' ⟨s0, s1, s2, s3, s4, s5, s6, s7, s8, s9⟩; go_simp; with_reducible rfl) ?_
                refine pureA 17 40 (bz 51 262143) rfl rfl (any_of HT_.out (by kernel_rfl)) ?_
                refine pureA 18 41 (bz 51 524287) rfl rfl (any_of HT_.out (by kernel_rfl)) ?_
                refine pureA 19 42 (bz 51 1048575) rfl rfl (any_of HT_.out (by kernel_rfl)) ?_
                refine pureA 20 43 (bz 51 2097151) rfl rfl (any_of HT_.out (by kernel_rfl)) ?_
                refine pureA 21 44 (bz 51 4194303) rfl rfl (any_of HT_.out (by kernel_rfl)) ?_
                refine pureA 23 46 (bz 51 12582911) rfl rfl (any_of HT_.out (by kernel_rfl)) ?_
                refine takeA 22 45 (bz 51 16777215) rfl rfl (take_ofW HT_.out HW_.out (by kernel_rfl)) hHeld (by rintro w' ⟨s0, s1, s2, s3, s4, s5, s6, s7, s8, s9⟩; go_simp; with_reducible rfl) ?_
                refine takeA 24 47 (bz 51 33554431) rfl rfl (take_ofW HT_.out HW_.out (by kernel_rfl)) hHeld (by rintro w' ⟨s0, s1, s2, s3, s4, s5, s6, s7, s8, s9⟩; go_simp; with_reducible rfl) ?_
                refine pureA 25 48 (bz 51 67108863) rfl rfl (any_of HT_.out (by kernel_rfl)) ?_
                refine one_ (i := 26) (N := some 49) (bz 51 134217727) rfl rfl (one_of HT_.out (by kernel_rfl)) (by decide) (fun K hK => ?_)
                refine goes_ Try.func51 (by kernel_rfl) rfl #[.int .i64 ((rd_T34 l0_1 x18_2).f1), .int .i64 (wrap64 (a0_0 + 1)), .int .i64 200000] (by rfl) rfl rfl aE ?_
                with_reducible refine (spec_l1In.calls ((rd_T34 l0_1 x18_2).f1) (wrap64 (a0_0 + 1)) 200000 true _ A25.out).mono ?_
                rintro e w' ⟨rfl, ⟨nd, rfl⟩⟩
                refine ⟨_, rfl, ?_⟩
                refine hK.out _ _ ⟨cz BK106 0 _, cz BK106 1 _, cz BK106 2 _, cz BK106 3 _, cz BK103 0 _, cz BK103 1 _, ((HB.out.cell (World.block_lt_of_cell? w _ hw108_0)).trans hw108_0), ((HB.out.cell (World.block_lt_of_cell? w _ hw108_1)).trans hw108_1), ((HB.out.cell (World.block_lt_of_cell? w _ hw108_2)).trans hw108_2), ((HB.out.cell (World.block_lt_of_cell? w _ hw108_3)).trans hw108_3)⟩ (fun hHeld => ?_)
                clear hK K
                refine norm_ (a' := ?_) ?_ ?_
                rotate_left
                ·show Act.put _ (some 49) _ = _
                 simp only [Act.put, List.setIfInBounds_toArray, List.set_cons_zero, List.set_cons_succ, i64_w, i32_w]
                 rfl
                refine pureA 27 50 (bz 51 268435455) rfl rfl (any_of HT_.out (by kernel_rfl)) ?_
                refine pureA 28 51 (bz 51 536870911) rfl rfl (any_of HT_.out (by kernel_rfl)) ?_
                refine pureA 29 52 (bz 51 1073741823) rfl rfl (any_of HT_.out (by kernel_rfl)) ?_
                refine pureA 30 53 (bz 51 2147483647) rfl rfl (any_of HT_.out (by kernel_rfl)) ?_
                refine takeA 31 54 (bz 51 4294967295) rfl rfl (take_ofW HT_.out HW_.out (by kernel_rfl)) hHeld (by rintro w' ⟨s0, s1, s2, s3, s4, s5, s6, s7, s8, s9⟩; go_simp; with_reducible rfl) ?_
                refine one_ (i := 32) (N := some 55) (bz 51 8589934591) rfl rfl (one_of HT_.out (by kernel_rfl)) (by decide) (fun K hK => ?_)
                refine goes_ Try.func51 (by kernel_rfl) rfl #[.int .i64 ((rd_T34 l0_1 x18_2).f2), .int .i64 0, .int .i64 100000] (by rfl) rfl rfl aE ?_
                with_reducible refine (spec_l1In.calls ((rd_T34 l0_1 x18_2).f2) 0 100000 false _ A27.out).mono ?_
                rintro e w' ⟨rfl, ⟨nd, rfl⟩⟩
                refine ⟨_, rfl, ?_⟩
                refine hK.out _ _ ⟨cz BK106 0 _, cz BK106 1 _, cz BK106 2 _, cz BK106 3 _, cz BK103 0 _, cz BK103 1 _, ((HB.out.cell (World.block_lt_of_cell? w _ hw108_0)).trans hw108_0), ((HB.out.cell (World.block_lt_of_cell? w _ hw108_1)).trans hw108_1), ((HB.out.cell (World.block_lt_of_cell? w _ hw108_2)).trans hw108_2), ((HB.out.cell (World.block_lt_of_cell? w _ hw108_3)).trans hw108_3)⟩ (fun hHeld => ?_)
                clear hK K
                refine norm_ (a' := ?_) ?_ ?_
                rotate_left
                ·show Act.put _ (some 55) _ = _
                 simp only [Act.put, List.setIfInBounds_toArray, List.set_cons_zero, List.set_cons_succ, i64_w, i32_w]
                 rfl
                refine pureA 33 56 (bz 51 17179869183) rfl rfl (any_of HT_.out (by kernel_rfl)) ?_
                refine pureA 34 57 (bz 51 34359738367) rfl rfl (any_of HT_.out (by kernel_rfl)) ?_
                refine pureA 35 58 (bz 51 68719476735) rfl rfl (any_of HT_.out (by kernel_rfl)) ?_
                refine pureU 36 59 (bz 51 137438953471) rfl rfl (any_of HT_.out (by kernel_rfl)) ?_
                refine pureU 37 60 (bz 51 274877906943) rfl rfl (any_of HT_.out (by kernel_rfl)) ?_
                refine pureU 38 61 (bz 51 549755813887) rfl rfl (any_of HT_.out (by kernel_rfl)) ?_
                refine pureU 39 62 (bz 51 1099511627775) rfl rfl (any_of HT_.out (by kernel_rfl)) ?_
                refine pureA 40 63 (bz 51 2199023255551) rfl rfl (any_of HT_.out (by kernel_rfl)) ?_
                refine pureA 41 64 (bz 51 4398046511103) rfl rfl (any_of HT_.out (by kernel_rfl)) ?_
                refine pureU 42 65 (bz 51 8796093022207) rfl rfl (any_of HT_.out (by kernel_rfl)) ?_
                refine pureU 43 66 (bz 51 17592186044415) rfl rfl (any_of HT_.out (by kernel_rfl)) ?_
                refine pureU 44 67 (bz 51 35184372088831) rfl rfl (any_of HT_.out (by kernel_rfl)) ?_
                refine pureU 45 68 (bz 51 70368744177663) rfl rfl (any_of HT_.out (by kernel_rfl)) ?_
                refine pureU 46 69 (bz 51 140737488355327) rfl rfl (any_of HT_.out (by kernel_rfl)) ?_
                refine pureU 47 70 (bz 51 281474976710655) rfl rfl (any_of HT_.out (by kernel_rfl)) ?_
                refine pureU 48 71 (bz 51 562949953421311) rfl rfl (any_of HT_.out (by kernel_rfl)) ?_
                refine pureU 49 72 (bz 51 1125899906842623) rfl rfl (any_of HT_.out (by kernel_rfl)) ?_
                refine pureA 50 73 (bz 51 2251799813685247) rfl rfl (any_of HT_.out (by kernel_rfl)) ?_
                refine done_ (done_of HT_.out (by kernel_rfl)) ?_
                try go_wp2
                go_ret
                exact ⟨by first | rfl | (simp [errW_none, errW_some] <;> rfl) | (simp only [← hji16]; first | rfl | (simp [errW_none, errW_some] <;> rfl)) | (simp [*, errW_none, errW_some] <;> rfl), lV2 GE103 GE106⟩
              ·replace c26 := Bool.eq_false_iff.mpr c26
               subst c26
               have H1 : (some false) = some r := by rw [if_neg (show ¬ (false = true) by decide)] at H; exact H
               clear H
               have H := H1
               clear H1
               obtain rfl := Option.some.inj H
               have p105 : 0 ≤ (x18_2 : Int) := of_decide_eq_true hE
               have q105 : x18_2 < (l0_1.length : Int) := of_decide_eq_true hE
               obtain ⟨ad105, e105, hx105_0, hx105_1, hx105_2, hx105_3⟩ := at_T34 HR0_1.out x18_2 p105 q105
               cases e105
               replace hx105_0 := (HB.out.cell (World.block_lt_of_cell? w _ hx105_0)).trans hx105_0
               replace hx105_1 := (HB.out.cell (World.block_lt_of_cell? w _ hx105_1)).trans hx105_1
               replace hx105_2 := (HB.out.cell (World.block_lt_of_cell? w _ hx105_2)).trans hx105_2
               replace hx105_3 := (HB.out.cell (World.block_lt_of_cell? w _ hx105_3)).trans hx105_3
               replace p105 := eq_true p105
               replace q105 := eq_true q105
               try go_wp2_with (first | ((with_reducible refine gate_dst (N := 4) rfl ?_); (try (refine gate_guard (by rfl) ?_; dsimp only)); refine box_event rfl (N := 4) rfl (cs := #[.int .i64 0, .int .i64 0, .int .i64 0, .int .i64 0]) (t := 34) sE ?_; intro gb106 hg w58 hbox hb; have BK106 := Aside0.mk hbox; have GW106 := gS w hg (lV1 GE103); have GE106 := gS w hg (lV1 GE103); replace HB := bH (lV1 GE103) hb; have NB103_106 := nL hg (bV BK103); have NB106_103 := nG hg (bV BK103); replace BK103 := bB (bV BK103) hb; clear hb hbox hg; have hnb59 := NB106_103.out; have hnc59 := NB103_106.out; have hcz60_0 := cz BK106 0 (.int .i64 0); have hcz60_1 := cz BK106 1 (.int .i64 0); have hcz60_2 := cz BK106 2 (.int .i64 0); have hcz60_3 := cz BK106 3 (.int .i64 0); have hfz60_0 := fz BK106 0; have hfz60_1 := fz BK106 1; have hfz60_2 := fz BK106 2; have hfz60_3 := fz BK106 3) | ((with_reducible refine gate_store (t := 34) (p := 4) rfl ?_); refine store_event (t := 34) (p := 4) (v := ?vo_w61) (w1 := ((((w58.setCell ⟨gb106, 0, none⟩ (.int .i64 ((rd_T34 l0_1 x18_2).f0))).setCell ⟨gb106, 1, none⟩ (.int .i64 ((rd_T34 l0_1 x18_2).f1))).setCell ⟨gb106, 2, none⟩ (.int .i64 ((rd_T34 l0_1 x18_2).f2))).setCell ⟨gb106, 3, none⟩ (.int .i64 ((rd_T34 l0_1 x18_2).f3)))) ?hg ?ho ?hn ?hr ?_; (case ho => rfl); (case hg => rfl); (case hn => rfl); (case hr => first | (go_simp; done) | (go_simp; rfl) | (have hq0_ := (blk_cell BK106.out 0).trans (show _ = some _ from rfl); have hf0_ := blk_frozen BK106.out 0; have hq1_ := (blk_cell BK106.out 1).trans (show _ = some _ from rfl); have hf1_ := blk_frozen BK106.out 1; have hq2_ := (blk_cell BK106.out 2).trans (show _ = some _ from rfl); have hf2_ := blk_frozen BK106.out 2; have hq3_ := (blk_cell BK106.out 3).trans (show _ = some _ from rfl); have hf3_ := blk_frozen BK106.out 3; first | (go_simp; done) | (go_simp; rfl))); intro w61 hw; replace BK103 : Aside0 (w61.heap[gb103]? = some (.cells #[.int .i64 a0_0, .slice (some ad105) l0_1.length c0_1] 30 (0, 0))) := ⟨(by rw [hw]; exact (bG NB103_106 BK103))⟩; replace BK106 : Aside0 (w61.heap[gb106]? = some (.cells #[.int .i64 ((rd_T34 l0_1 x18_2).f0), .int .i64 ((rd_T34 l0_1 x18_2).f1), .int .i64 ((rd_T34 l0_1 x18_2).f2), .int .i64 ((rd_T34 l0_1 x18_2).f3)] 34 (0, 0))) := ⟨(by rw [hw]; exact (by refine bU ?_; refine blk_put (cs := #[.int .i64 ((rd_T34 l0_1 x18_2).f0), .int .i64 ((rd_T34 l0_1 x18_2).f1), .int .i64 ((rd_T34 l0_1 x18_2).f2), .int .i64 0]) ?_ 3 _ rfl; refine bU ?_; refine blk_put (cs := #[.int .i64 ((rd_T34 l0_1 x18_2).f0), .int .i64 ((rd_T34 l0_1 x18_2).f1), .int .i64 0, .int .i64 0]) ?_ 2 _ rfl; refine bU ?_; refine blk_put (cs := #[.int .i64 ((rd_T34 l0_1 x18_2).f0), .int .i64 0, .int .i64 0, .int .i64 0]) ?_ 1 _ rfl; refine bU ?_; refine blk_put (cs := #[.int .i64 0, .int .i64 0, .int .i64 0, .int .i64 0]) ?_ 0 _ rfl; refine bU ?_; exact BK106.out))⟩; replace HB : Aside0 (Below w.heap.size w w61) := ⟨(by rw [hw]; exact (lV2 GE103 GE106))⟩; clear hw))
               replace BK103 := Aside0.mk (blk_drew BK103.out)
               replace BK106 := Aside0.mk (blk_drew BK106.out)
               replace HB := Aside0.mk (below_drew1 HB.out)
               have p108 : 0 ≤ ((ji16) : Int) := of_decide_eq_true hE
               have q108 : (ji16) < (l0_1.length : Int) := of_decide_eq_true hE
               obtain ⟨ad108, e108, hx108_0, hx108_1, hx108_2, hx108_3⟩ := at_T34 HR0_1.out (ji16) p108 q108
               have hw108_3 := hx108_3
               have hw108_2 := hx108_2
               have hw108_1 := hx108_1
               have hw108_0 := hx108_0
               obtain rfl : ad105 = ad108 := (by injection e108)
               replace hx108_0 := (HB.out.cell (World.block_lt_of_cell? w _ hx108_0)).trans hx108_0
               replace hx108_1 := (HB.out.cell (World.block_lt_of_cell? w _ hx108_1)).trans hx108_1
               replace hx108_2 := (HB.out.cell (World.block_lt_of_cell? w _ hx108_2)).trans hx108_2
               replace hx108_3 := (HB.out.cell (World.block_lt_of_cell? w _ hx108_3)).trans hx108_3
               replace p108 := eq_true p108
               replace q108 := eq_true q108
               refine start_ (n := 51) (S := fun w' => w'.cell? ⟨gb106, 0, none⟩ = some (.int .i64 ((rd_T34 l0_1 x18_2).f0)) ∧ w'.cell? ⟨gb106, 1, none⟩ = some (.int .i64 ((rd_T34 l0_1 x18_2).f1)) ∧ w'.cell? ⟨gb106, 2, none⟩ = some (.int .i64 ((rd_T34 l0_1 x18_2).f2)) ∧ w'.cell? ⟨gb106, 3, none⟩ = some (.int .i64 ((rd_T34 l0_1 x18_2).f3)) ∧ w'.cell? ⟨gb103, 0, none⟩ = some (.int .i64 a0_0) ∧ w'.cell? ⟨gb103, 1, none⟩ = some (.slice (some ad105) l0_1.length c0_1) ∧ w'.cell? (ad105.add (((ji16)).toNat * 4)) = some (.int .i64 ((rd_T34 l0_1 (ji16)).f0)) ∧ w'.cell? ⟨(ad105.add (((ji16)).toNat * 4)).block, (ad105.add (((ji16)).toNat * 4)).off + 1, none⟩ = some (.int .i64 ((rd_T34 l0_1 (ji16)).f1)) ∧ w'.cell? ⟨(ad105.add (((ji16)).toNat * 4)).block, (ad105.add (((ji16)).toNat * 4)).off + 2, none⟩ = some (.int .i64 ((rd_T34 l0_1 (ji16)).f2)) ∧ w'.cell? ⟨(ad105.add (((ji16)).toNat * 4)).block, (ad105.add (((ji16)).toNat * 4)).off + 3, none⟩ = some (.int .i64 ((rd_T34 l0_1 (ji16)).f3))) (ds := []) #[false, false, false, false, false, false, false, false, false, false, false, false, false, false, false, false, false, false, false, false, false, false, false, false, false, false, false, false, false, false, false, false, false, false, false, false, false, false, false, false, false, false, false, false, false, false, false, false, false, false, false] (by kernel_rfl) rfl rfl ⟨cz BK106 0 _, cz BK106 1 _, cz BK106 2 _, cz BK106 3 _, cz BK103 0 _, cz BK103 1 _, ((HB.out.cell (World.block_lt_of_cell? w _ hw108_0)).trans hw108_0), ((HB.out.cell (World.block_lt_of_cell? w _ hw108_1)).trans hw108_1), ((HB.out.cell (World.block_lt_of_cell? w _ hw108_2)).trans hw108_2), ((HB.out.cell (World.block_lt_of_cell? w _ hw108_3)).trans hw108_3)⟩ (fun hHeld => ?_); refine with_tabW spec_GoodClock.tab6 spec_GoodClock.bits6 (fun HT_ HW_ => ?_)
               generalize w61.drew = w62 at BK103 BK106 HB hx108_0 hx108_1 hx108_2 hx108_3 hHeld ⊢
               refine pureA 0 23 (bz 51 1) rfl rfl (any_of HT_.out (by kernel_rfl)) ?_
               refine takeA 1 24 (bz 51 3) rfl rfl (take_ofW HT_.out HW_.out (by kernel_rfl)) hHeld (by rintro w' ⟨s0, s1, s2, s3, s4, s5, s6, s7, s8, s9⟩; go_simp; with_reducible rfl) ?_
               refine one_ (i := 2) (N := some 25) (bz 51 7) rfl rfl (one_of HT_.out (by kernel_rfl)) (by decide) (fun K hK => ?_)
               refine goes_ Try.func51 (by kernel_rfl) rfl #[.int .i64 ((rd_T34 l0_1 x18_2).f0), .int .i64 0, .int .i64 999] (by rfl) rfl rfl aE ?_
               with_reducible refine (spec_l1In.calls ((rd_T34 l0_1 x18_2).f0) 0 999 true _ A13.out).mono ?_
               rintro e w' ⟨rfl, ⟨nd, rfl⟩⟩
               refine ⟨_, rfl, ?_⟩
               refine hK.out _ _ ⟨cz BK106 0 _, cz BK106 1 _, cz BK106 2 _, cz BK106 3 _, cz BK103 0 _, cz BK103 1 _, ((HB.out.cell (World.block_lt_of_cell? w _ hw108_0)).trans hw108_0), ((HB.out.cell (World.block_lt_of_cell? w _ hw108_1)).trans hw108_1), ((HB.out.cell (World.block_lt_of_cell? w _ hw108_2)).trans hw108_2), ((HB.out.cell (World.block_lt_of_cell? w _ hw108_3)).trans hw108_3)⟩ (fun hHeld => ?_)
               clear hK K
               refine norm_ (a' := ?_) ?_ ?_
               rotate_left
               ·show Act.put _ (some 25) _ = _
                simp only [Act.put, List.setIfInBounds_toArray, List.set_cons_zero, List.set_cons_succ, i64_w, i32_w]
                rfl
               refine pureA 3 26 (bz 51 15) rfl rfl (any_of HT_.out (by kernel_rfl)) ?_
               refine pureA 4 27 (bz 51 31) rfl rfl (any_of HT_.out (by kernel_rfl)) ?_
               refine pureA 5 28 (bz 51 63) rfl rfl (any_of HT_.out (by kernel_rfl)) ?_
               refine pureA 6 29 (bz 51 127) rfl rfl (any_of HT_.out (by kernel_rfl)) ?_
               refine pureA 7 30 (bz 51 255) rfl rfl (any_of HT_.out (by kernel_rfl)) ?_
               refine pureA 8 31 (bz 51 511) rfl rfl (any_of HT_.out (by kernel_rfl)) ?_
               refine pureA 10 33 (bz 51 1535) rfl rfl (any_of HT_.out (by kernel_rfl)) ?_
               refine pureA 11 34 (bz 51 3583) rfl rfl (any_of HT_.out (by kernel_rfl)) ?_
               refine pureA 15 38 (bz 51 36351) rfl rfl (any_of HT_.out (by kernel_rfl)) ?_
               refine takeA 9 32 (bz 51 36863) rfl rfl (take_ofW HT_.out HW_.out (by kernel_rfl)) hHeld (by rintro w' ⟨s0, s1, s2, s3, s4, s5, s6, s7, s8, s9⟩; go_simp; with_reducible rfl) ?_
               refine pureA 12 35 (bz 51 40959) rfl rfl (any_of HT_.out (by kernel_rfl)) ?_
               refine pureA 13 36 (bz 51 49151) rfl rfl (any_of HT_.out (by kernel_rfl)) ?_
               refine takeA 14 37 (bz 51 65535) rfl rfl (take_ofW HT_.out HW_.out (by kernel_rfl)) hHeld (by rintro w' ⟨s0, s1, s2, s3, s4, s5, s6, s7, s8, s9⟩; go_simp; with_reducible rfl) ?_
               refine takeA 16 39 (bz 51 131071) rfl rfl (take_ofW HT_.out HW_.out (by kernel_rfl)) hHeld (by rintro w' ⟨s0, s1, s2, s3, s4, s5, s6, s7, s8, s9⟩; go_simp; with_reducible rfl) ?_
               refine pureA 17 40 (bz 51 262143) rfl rfl (any_of HT_.out (by kernel_rfl)) ?_
               refine pureA 18 41 (bz 51 524287) rfl rfl (any_of HT_.out (by kernel_rfl)) ?_
               refine pureA 19 42 (bz 51 1048575) rfl rfl (any_of HT_.out (by kernel_rfl)) ?_
               refine pureA 20 43 (bz 51 2097151) rfl rfl (any_of HT_.out (by kernel_rfl)) ?_
               refine pureA 21 44 (bz 51 4194303) rfl rfl (any_of HT_.out (by kernel_rfl)) ?_
               refine pureA 23 46 (bz 51 12582911) rfl rfl (any_of HT_.out (by kernel_rfl)) ?_
               refine takeA 22 45 (bz 51 16777215) rfl rfl (take_ofW HT_.out HW_.out (by kernel_rfl)) hHeld (by rintro w' ⟨s0, s1, s2, s3, s4, s5, s6, s7, s8, s9⟩; go_simp; with_reducible rfl) ?_
               refine takeA 24 47 (bz 51 33554431) rfl rfl (take_ofW HT_.out HW_.out (by kernel_rfl)) hHeld (by rintro w' ⟨s0, s1, s2, s3, s4, s5, s6, s7, s8, s9⟩; go_simp; with_reducible rfl) ?_
               refine pureA 25 48 (bz 51 67108863) rfl rfl (any_of HT_.out (by kernel_rfl)) ?_
               refine one_ (i := 26) (N := some 49) (bz 51 134217727) rfl rfl (one_of HT_.out (by kernel_rfl)) (by decide) (fun K hK => ?_)
               refine goes_ Try.func51 (by kernel_rfl) rfl #[.int .i64 ((rd_T34 l0_1 x18_2).f1), .int .i64 (wrap64 (a0_0 + 1)), .int .i64 200000] (by rfl) rfl rfl aE ?_
               with_reducible refine (spec_l1In.calls ((rd_T34 l0_1 x18_2).f1) (wrap64 (a0_0 + 1)) 200000 false _ A25.out).mono ?_
               rintro e w' ⟨rfl, ⟨nd, rfl⟩⟩
               refine ⟨_, rfl, ?_⟩
               refine hK.out _ _ ⟨cz BK106 0 _, cz BK106 1 _, cz BK106 2 _, cz BK106 3 _, cz BK103 0 _, cz BK103 1 _, ((HB.out.cell (World.block_lt_of_cell? w _ hw108_0)).trans hw108_0), ((HB.out.cell (World.block_lt_of_cell? w _ hw108_1)).trans hw108_1), ((HB.out.cell (World.block_lt_of_cell? w _ hw108_2)).trans hw108_2), ((HB.out.cell (World.block_lt_of_cell? w _ hw108_3)).trans hw108_3)⟩ (fun hHeld => ?_)
               clear hK K
               refine norm_ (a' := ?_) ?_ ?_
               rotate_left
               ·show Act.put _ (some 49) _ = _
                simp only [Act.put, List.setIfInBounds_toArray, List.set_cons_zero, List.set_cons_succ, i64_w, i32_w]
                rfl
               refine pureA 27 50 (bz 51 268435455) rfl rfl (any_of HT_.out (by kernel_rfl)) ?_
               refine pureA 28 51 (bz 51 536870911) rfl rfl (any_of HT_.out (by kernel_rfl)) ?_
               refine pureA 29 52 (bz 51 1073741823) rfl rfl (any_of HT_.out (by kernel_rfl)) ?_
               refine pureU 30 53 (bz 51 2147483647) rfl rfl (any_of HT_.out (by kernel_rfl)) ?_
               refine pureU 31 54 (bz 51 4294967295) rfl rfl (any_of HT_.out (by kernel_rfl)) ?_
               refine pureU 32 55 (bz 51 8589934591) rfl rfl (any_of HT_.out (by kernel_rfl)) ?_
               refine pureU 33 56 (bz 51 17179869183) rfl rfl (any_of HT_.out (by kernel_rfl)) ?_
               refine pureA 34 57 (bz 51 34359738367) rfl rfl (any_of HT_.out (by kernel_rfl)) ?_
               refine pureA 35 58 (bz 51 68719476735) rfl rfl (any_of HT_.out (by kernel_rfl)) ?_
               refine pureU 36 59 (bz 51 137438953471) rfl rfl (any_of HT_.out (by kernel_rfl)) ?_
               refine pureU 37 60 (bz 51 274877906943) rfl rfl (any_of HT_.out (by kernel_rfl)) ?_
               refine pureU 38 61 (bz 51 549755813887) rfl rfl (any_of HT_.out (by kernel_rfl)) ?_
               refine pureU 39 62 (bz 51 1099511627775) rfl rfl (any_of HT_.out (by kernel_rfl)) ?_
               refine pureA 40 63 (bz 51 2199023255551) rfl rfl (any_of HT_.out (by kernel_rfl)) ?_
               refine pureA 41 64 (bz 51 4398046511103) rfl rfl (any_of HT_.out (by kernel_rfl)) ?_
               refine pureU 42 65 (bz 51 8796093022207) rfl rfl (any_of HT_.out (by kernel_rfl)) ?_
               refine pureU 43 66 (bz 51 17592186044415) rfl rfl (any_of HT_.out (by kernel_rfl)) ?_
               refine pureU 44 67 (bz 51 35184372088831) rfl rfl (any_of HT_.out (by kernel_rfl)) ?_
               refine pureU 45 68 (bz 51 70368744177663) rfl rfl (any_of HT_.out (by kernel_rfl)) ?_
               refine pureU 46 69 (bz 51 140737488355327) rfl rfl (any_of HT_.out (by kernel_rfl)) ?_
               refine pureU 47 70 (bz 51 281474976710655) rfl rfl (any_of HT_.out (by kernel_rfl)) ?_
               refine pureU 48 71 (bz 51 562949953421311) rfl rfl (any_of HT_.out (by kernel_rfl)) ?_
               refine pureU 49 72 (bz 51 1125899906842623) rfl rfl (any_of HT_.out (by kernel_rfl)) ?_
               refine pureA 50 73 (bz 51 2251799813685247) rfl rfl (any_of HT_.out (by kernel_rfl)) ?_
               refine done_ (done_of HT_.out (by kernel_rfl)) ?_
               try go_wp2
               go_ret
               exact ⟨by first | rfl | (simp [errW_none, errW_some] <;> rfl) | (simp only [← hji16]; first | rfl | (simp [errW_none, errW_some] <;> rfl)) | (simp [*, errW_none, errW_some] <;> rfl), lV2 GE103 GE106⟩
            ·rw [if_neg c18] at H
             exact absurd H (by simp)
           ·rw [if_neg c17] at H
            exact absurd H (by simp)
          ·rw [if_neg c15] at H
           have c15b0 : decide (0 < x18_2) = false := decide_eq_false c15
           clear c15
           replace H := Option.bind_eq_some_iff.mp H
           obtain ⟨t112, A630, H⟩ := H
           replace H : (if t112 = true then ((spec_l1In.f ((rd_T34 l0_1 x18_2).f2) 0 100000).bind fun t113 => (if t113 = true then ((spec_l1In.f ((rd_T34 l0_1 x18_2).f3) 1 1000).bind fun t114 => (if t114 = true then (if ((rd_T34 l0_1 x18_2).f2) = 0 then (if ((rd_T34 l0_1 x18_2).f3) = 1 then (spec_GoodClock.l0 k2 l0_1 (l0_1.length : Int) (wrap64 (x18_2 + 1)) a0_0 l0_1) else (some false)) else (spec_GoodClock.l0 k2 l0_1 (l0_1.length : Int) (wrap64 (x18_2 + 1)) a0_0 l0_1)) else (some false))) else (some false))) else (some false)) = some r := H
           have A63 := Aside0.mk A630
           clear A630
           by_cases c64 : t112 = true
           ·subst c64
            have H1 : ((spec_l1In.f ((rd_T34 l0_1 x18_2).f2) 0 100000).bind fun t113 => (if t113 = true then ((spec_l1In.f ((rd_T34 l0_1 x18_2).f3) 1 1000).bind fun t114 => (if t114 = true then (if ((rd_T34 l0_1 x18_2).f2) = 0 then (if ((rd_T34 l0_1 x18_2).f3) = 1 then (spec_GoodClock.l0 k2 l0_1 (l0_1.length : Int) (wrap64 (x18_2 + 1)) a0_0 l0_1) else (some false)) else (spec_GoodClock.l0 k2 l0_1 (l0_1.length : Int) (wrap64 (x18_2 + 1)) a0_0 l0_1)) else (some false))) else (some false))) = some r := by rw [if_pos rfl] at H; exact H
            clear H
            have H := H1
            clear H1
            replace H := Option.bind_eq_some_iff.mp H
            obtain ⟨t113, A650, H⟩ := H
            replace H : (if t113 = true then ((spec_l1In.f ((rd_T34 l0_1 x18_2).f3) 1 1000).bind fun t114 => (if t114 = true then (if ((rd_T34 l0_1 x18_2).f2) = 0 then (if ((rd_T34 l0_1 x18_2).f3) = 1 then (spec_GoodClock.l0 k2 l0_1 (l0_1.length : Int) (wrap64 (x18_2 + 1)) a0_0 l0_1) else (some false)) else (spec_GoodClock.l0 k2 l0_1 (l0_1.length : Int) (wrap64 (x18_2 + 1)) a0_0 l0_1)) else (some false))) else (some false)) = some r := H
            have A65 := Aside0.mk A650
            clear A650
            by_cases c66 : t113 = true
            ·subst c66
             have H1 : ((spec_l1In.f ((rd_T34 l0_1 x18_2).f3) 1 1000).bind fun t114 => (if t114 = true then (if ((rd_T34 l0_1 x18_2).f2) = 0 then (if ((rd_T34 l0_1 x18_2).f3) = 1 then (spec_GoodClock.l0 k2 l0_1 (l0_1.length : Int) (wrap64 (x18_2 + 1)) a0_0 l0_1) else (some false)) else (spec_GoodClock.l0 k2 l0_1 (l0_1.length : Int) (wrap64 (x18_2 + 1)) a0_0 l0_1)) else (some false))) = some r := by rw [if_pos rfl] at H; exact H
             clear H
             have H := H1
             clear H1
             replace H := Option.bind_eq_some_iff.mp H
             obtain ⟨t114, A670, H⟩ := H
             replace H : (if t114 = true then (if ((rd_T34 l0_1 x18_2).f2) = 0 then (if ((rd_T34 l0_1 x18_2).f3) = 1 then (spec_GoodClock.l0 k2 l0_1 (l0_1.length : Int) (wrap64 (x18_2 + 1)) a0_0 l0_1) else (some false)) else (spec_GoodClock.l0 k2 l0_1 (l0_1.length : Int) (wrap64 (x18_2 + 1)) a0_0 l0_1)) else (some false)) = some r := H
             have A67 := Aside0.mk A670
             clear A670
             by_cases c68 : t114 = true
             ·subst c68
              have H1 : (if ((rd_T34 l0_1 x18_2).f2) = 0 then (if ((rd_T34 l0_1 x18_2).f3) = 1 then (spec_GoodClock.l0 k2 l0_1 (l0_1.length : Int) (wrap64 (x18_2 + 1)) a0_0 l0_1) else (some false)) else (spec_GoodClock.l0 k2 l0_1 (l0_1.length : Int) (wrap64 (x18_2 + 1)) a0_0 l0_1)) = some r := by rw [if_pos rfl] at H; exact H
              clear H
              have H := H1
              clear H1
              by_cases c69 : ((rd_T34 l0_1 x18_2).f2) = 0
              ·rw [if_pos c69] at H
               have c69b0 : (((rd_T34 l0_1 x18_2).f2) == 0) = true := beq_iff_eq.mpr c69
               have c69b1 : (((rd_T34 l0_1 x18_2).f2) != 0) = false := bne_eq_false_iff_eq.mpr c69
               clear c69
               by_cases c70 : ((rd_T34 l0_1 x18_2).f3) = 1
               ·rw [if_pos c70] at H
                have c70b0 : (((rd_T34 l0_1 x18_2).f3) == 1) = true := beq_iff_eq.mpr c70
                have c70b1 : (((rd_T34 l0_1 x18_2).f3) != 1) = false := bne_eq_false_iff_eq.mpr c70
                clear c70
                have H' := Aside0.mk H
                clear H
                have p105 : 0 ≤ (x18_2 : Int) := of_decide_eq_true hE
                have q105 : x18_2 < (l0_1.length : Int) := of_decide_eq_true hE
                obtain ⟨ad105, e105, hx105_0, hx105_1, hx105_2, hx105_3⟩ := at_T34 HR0_1.out x18_2 p105 q105
                cases e105
                replace hx105_0 := (HB.out.cell (World.block_lt_of_cell? w _ hx105_0)).trans hx105_0
                replace hx105_1 := (HB.out.cell (World.block_lt_of_cell? w _ hx105_1)).trans hx105_1
                replace hx105_2 := (HB.out.cell (World.block_lt_of_cell? w _ hx105_2)).trans hx105_2
                replace hx105_3 := (HB.out.cell (World.block_lt_of_cell? w _ hx105_3)).trans hx105_3
                replace p105 := eq_true p105
                replace q105 := eq_true q105
                try go_wp2_with (first | ((with_reducible refine gate_dst (N := 4) rfl ?_); (try (refine gate_guard (by rfl) ?_; dsimp only)); refine box_event rfl (N := 4) rfl (cs := #[.int .i64 0, .int .i64 0, .int .i64 0, .int .i64 0]) (t := 34) sE ?_; intro gb106 hg w71 hbox hb; have BK106 := Aside0.mk hbox; have GW106 := gS w hg (lV1 GE103); have GE106 := gS w hg (lV1 GE103); replace HB := bH (lV1 GE103) hb; have NB103_106 := nL hg (bV BK103); have NB106_103 := nG hg (bV BK103); replace BK103 := bB (bV BK103) hb; clear hb hbox hg; have hnb72 := NB106_103.out; have hnc72 := NB103_106.out; have hcz73_0 := cz BK106 0 (.int .i64 0); have hcz73_1 := cz BK106 1 (.int .i64 0); have hcz73_2 := cz BK106 2 (.int .i64 0); have hcz73_3 := cz BK106 3 (.int .i64 0); have hfz73_0 := fz BK106 0; have hfz73_1 := fz BK106 1; have hfz73_2 := fz BK106 2; have hfz73_3 := fz BK106 3) | ((with_reducible refine gate_store (t := 34) (p := 4) rfl ?_); refine store_event (t := 34) (p := 4) (v := ?vo_w74) (w1 := ((((w71.setCell ⟨gb106, 0, none⟩ (.int .i64 ((rd_T34 l0_1 x18_2).f0))).setCell ⟨gb106, 1, none⟩ (.int .i64 ((rd_T34 l0_1 x18_2).f1))).setCell ⟨gb106, 2, none⟩ (.int .i64 ((rd_T34 l0_1 x18_2).f2))).setCell ⟨gb106, 3, none⟩ (.int .i64 ((rd_T34 l0_1 x18_2).f3)))) ?hg ?ho ?hn ?hr ?_; (case ho => rfl); (case hg => rfl); (case hn => rfl); (case hr => first | (go_simp; done) | (go_simp; rfl) | (have hq0_ := (blk_cell BK106.out 0).trans (show _ = some _ from rfl); have hf0_ := blk_frozen BK106.out 0; have hq1_ := (blk_cell BK106.out 1).trans (show _ = some _ from rfl); have hf1_ := blk_frozen BK106.out 1; have hq2_ := (blk_cell BK106.out 2).trans (show _ = some _ from rfl); have hf2_ := blk_frozen BK106.out 2; have hq3_ := (blk_cell BK106.out 3).trans (show _ = some _ from rfl); have hf3_ := blk_frozen BK106.out 3; first | (go_simp; done) | (go_simp; rfl))); intro w74 hw; replace BK103 : Aside0 (w74.heap[gb103]? = some (.cells #[.int .i64 a0_0, .slice (some ad105) l0_1.length c0_1] 30 (0, 0))) := ⟨(by rw [hw]; exact (bG NB103_106 BK103))⟩; replace BK106 : Aside0 (w74.heap[gb106]? = some (.cells #[.int .i64 ((rd_T34 l0_1 x18_2).f0), .int .i64 ((rd_T34 l0_1 x18_2).f1), .int .i64 ((rd_T34 l0_1 x18_2).f2), .int .i64 ((rd_T34 l0_1 x18_2).f3)] 34 (0, 0))) := ⟨(by rw [hw]; exact (by refine bU ?_; refine blk_put (cs := #[.int .i64 ((rd_T34 l0_1 x18_2).f0), .int .i64 ((rd_T34 l0_1 x18_2).f1), .int .i64 ((rd_T34 l0_1 x18_2).f2), .int .i64 0]) ?_ 3 _ rfl; refine bU ?_; refine blk_put (cs := #[.int .i64 ((rd_T34 l0_1 x18_2).f0), .int .i64 ((rd_T34 l0_1 x18_2).f1), .int .i64 0, .int .i64 0]) ?_ 2 _ rfl; refine bU ?_; refine blk_put (cs := #[.int .i64 ((rd_T34 l0_1 x18_2).f0), .int .i64 0, .int .i64 0, .int .i64 0]) ?_ 1 _ rfl; refine bU ?_; refine blk_put (cs := #[.int .i64 0, .int .i64 0, .int .i64 0, .int .i64 0]) ?_ 0 _ rfl; refine bU ?_; exact BK106.out))⟩; replace HB : Aside0 (Below w.heap.size w w74) := ⟨(by rw [hw]; exact (lV2 GE103 GE106))⟩; clear hw))
                replace BK103 := Aside0.mk (blk_drew BK103.out)
                replace BK106 := Aside0.mk (blk_drew BK106.out)
                replace HB := Aside0.mk (below_drew1 HB.out)
                refine start_ (n := 51) (S := fun w' => w'.cell? ⟨gb106, 0, none⟩ = some (.int .i64 ((rd_T34 l0_1 x18_2).f0)) ∧ w'.cell? ⟨gb106, 1, none⟩ = some (.int .i64 ((rd_T34 l0_1 x18_2).f1)) ∧ w'.cell? ⟨gb106, 2, none⟩ = some (.int .i64 ((rd_T34 l0_1 x18_2).f2)) ∧ w'.cell? ⟨gb106, 3, none⟩ = some (.int .i64 ((rd_T34 l0_1 x18_2).f3)) ∧ w'.cell? ⟨gb103, 0, none⟩ = some (.int .i64 a0_0) ∧ w'.cell? ⟨gb103, 1, none⟩ = some (.slice (some ad105) l0_1.length c0_1)) (ds := []) #[false, false, false, false, false, false, false, false, false, false, false, false, false, false, false, false, false, false, false, false, false, false, false, false, false, false, false, false, false, false, false, false, false, false, false, false, false, false, false, false, false, false, false, false, false, false, false, false, false, false, false] (by kernel_rfl) rfl rfl ⟨cz BK106 0 _, cz BK106 1 _, cz BK106 2 _, cz BK106 3 _, cz BK103 0 _, cz BK103 1 _⟩ (fun hHeld => ?_); refine with_tabW spec_GoodClock.tab6 spec_GoodClock.bits6 (fun HT_ HW_ => ?_)
                generalize w74.drew = w75 at BK103 BK106 HB hHeld ⊢
                refine pureA 0 23 (bz 51 1) rfl rfl (any_of HT_.out (by kernel_rfl)) ?_
                refine takeA 1 24 (bz 51 3) rfl rfl (take_ofW HT_.out HW_.out (by kernel_rfl)) hHeld (by rintro w' ⟨s0, s1, s2, s3, s4, s5⟩; go_simp; with_reducible rfl) ?_
                refine one_ (i := 2) (N := some 25) (bz 51 7) rfl rfl (one_of HT_.out (by kernel_rfl)) (by decide) (fun K hK => ?_)
                refine goes_ Try.func51 (by kernel_rfl) rfl #[.int .i64 ((rd_T34 l0_1 x18_2).f0), .int .i64 0, .int .i64 999] (by rfl) rfl rfl aE ?_
                with_reducible refine (spec_l1In.calls ((rd_T34 l0_1 x18_2).f0) 0 999 true _ A13.out).mono ?_
                rintro e w' ⟨rfl, ⟨nd, rfl⟩⟩
                refine ⟨_, rfl, ?_⟩
                refine hK.out _ _ ⟨cz BK106 0 _, cz BK106 1 _, cz BK106 2 _, cz BK106 3 _, cz BK103 0 _, cz BK103 1 _⟩ (fun hHeld => ?_)
                clear hK K
                refine norm_ (a' := ?_) ?_ ?_
                rotate_left
                ·show Act.put _ (some 25) _ = _
                 simp only [Act.put, List.setIfInBounds_toArray, List.set_cons_zero, List.set_cons_succ, i64_w, i32_w]
                 rfl
                refine pureA 3 26 (bz 51 15) rfl rfl (any_of HT_.out (by kernel_rfl)) ?_
                refine pureA 4 27 (bz 51 31) rfl rfl (any_of HT_.out (by kernel_rfl)) ?_
                refine pureA 5 28 (bz 51 63) rfl rfl (any_of HT_.out (by kernel_rfl)) ?_
                refine pureA 6 29 (bz 51 127) rfl rfl (any_of HT_.out (by kernel_rfl)) ?_
                refine pureA 7 30 (bz 51 255) rfl rfl (any_of HT_.out (by kernel_rfl)) ?_
                refine pureU 8 31 (bz 51 511) rfl rfl (any_of HT_.out (by kernel_rfl)) ?_
                refine pureU 9 32 (bz 51 1023) rfl rfl (any_of HT_.out (by kernel_rfl)) ?_
                refine pureU 10 33 (bz 51 2047) rfl rfl (any_of HT_.out (by kernel_rfl)) ?_
                refine pureU 11 34 (bz 51 4095) rfl rfl (any_of HT_.out (by kernel_rfl)) ?_
                refine pureU 12 35 (bz 51 8191) rfl rfl (any_of HT_.out (by kernel_rfl)) ?_
                refine pureU 13 36 (bz 51 16383) rfl rfl (any_of HT_.out (by kernel_rfl)) ?_
                refine pureU 14 37 (bz 51 32767) rfl rfl (any_of HT_.out (by kernel_rfl)) ?_
                refine pureU 15 38 (bz 51 65535) rfl rfl (any_of HT_.out (by kernel_rfl)) ?_
                refine pureU 16 39 (bz 51 131071) rfl rfl (any_of HT_.out (by kernel_rfl)) ?_
                refine pureU 17 40 (bz 51 262143) rfl rfl (any_of HT_.out (by kernel_rfl)) ?_
                refine pureA 18 41 (bz 51 524287) rfl rfl (any_of HT_.out (by kernel_rfl)) ?_
                refine pureA 19 42 (bz 51 1048575) rfl rfl (any_of HT_.out (by kernel_rfl)) ?_
                refine pureA 20 43 (bz 51 2097151) rfl rfl (any_of HT_.out (by kernel_rfl)) ?_
                refine pureA 21 44 (bz 51 4194303) rfl rfl (any_of HT_.out (by kernel_rfl)) ?_
                refine pureA 23 46 (bz 51 12582911) rfl rfl (any_of HT_.out (by kernel_rfl)) ?_
                refine takeA 22 45 (bz 51 16777215) rfl rfl (take_ofW HT_.out HW_.out (by kernel_rfl)) hHeld (by rintro w' ⟨s0, s1, s2, s3, s4, s5⟩; go_simp; with_reducible rfl) ?_
                refine takeA 24 47 (bz 51 33554431) rfl rfl (take_ofW HT_.out HW_.out (by kernel_rfl)) hHeld (by rintro w' ⟨s0, s1, s2, s3, s4, s5⟩; go_simp; with_reducible rfl) ?_
                refine pureA 25 48 (bz 51 67108863) rfl rfl (any_of HT_.out (by kernel_rfl)) ?_
                refine one_ (i := 26) (N := some 49) (bz 51 134217727) rfl rfl (one_of HT_.out (by kernel_rfl)) (by decide) (fun K hK => ?_)
                refine goes_ Try.func51 (by kernel_rfl) rfl #[.int .i64 ((rd_T34 l0_1 x18_2).f1), .int .i64 (wrap64 (a0_0 + 1)), .int .i64 200000] (by rfl) rfl rfl aE ?_
                with_reducible refine (spec_l1In.calls ((rd_T34 l0_1 x18_2).f1) (wrap64 (a0_0 + 1)) 200000 true _ A63.out).mono ?_
                rintro e w' ⟨rfl, ⟨nd, rfl⟩⟩
                refine ⟨_, rfl, ?_⟩
                refine hK.out _ _ ⟨cz BK106 0 _, cz BK106 1 _, cz BK106 2 _, cz BK106 3 _, cz BK103 0 _, cz BK103 1 _⟩ (fun hHeld => ?_)
                clear hK K
                refine norm_ (a' := ?_) ?_ ?_
                rotate_left
                ·show Act.put _ (some 49) _ = _
                 simp only [Act.put, List.setIfInBounds_toArray, List.set_cons_zero, List.set_cons_succ, i64_w, i32_w]
                 rfl
                refine pureA 27 50 (bz 51 268435455) rfl rfl (any_of HT_.out (by kernel_rfl)) ?_
                refine pureA 28 51 (bz 51 536870911) rfl rfl (any_of HT_.out (by kernel_rfl)) ?_
                refine pureA 29 52 (bz 51 1073741823) rfl rfl (any_of HT_.out (by kernel_rfl)) ?_
                refine pureA 30 53 (bz 51 2147483647) rfl rfl (any_of HT_.out (by kernel_rfl)) ?_
                refine takeA 31 54 (bz 51 4294967295) rfl rfl (take_ofW HT_.out HW_.out (by kernel_rfl)) hHeld (by rintro w' ⟨s0, s1, s2, s3, s4, s5⟩; go_simp; with_reducible rfl) ?_
                refine one_ (i := 32) (N := some 55) (bz 51 8589934591) rfl rfl (one_of HT_.out (by kernel_rfl)) (by decide) (fun K hK => ?_)
                refine goes_ Try.func51 (by kernel_rfl) rfl #[.int .i64 ((rd_T34 l0_1 x18_2).f2), .int .i64 0, .int .i64 100000] (by rfl) rfl rfl aE ?_
                with_reducible refine (spec_l1In.calls ((rd_T34 l0_1 x18_2).f2) 0 100000 true _ A65.out).mono ?_
                rintro e w' ⟨rfl, ⟨nd, rfl⟩⟩
                refine ⟨_, rfl, ?_⟩
                refine hK.out _ _ ⟨cz BK106 0 _, cz BK106 1 _, cz BK106 2 _, cz BK106 3 _, cz BK103 0 _, cz BK103 1 _⟩ (fun hHeld => ?_)
                clear hK K
                refine norm_ (a' := ?_) ?_ ?_
                rotate_left
                ·show Act.put _ (some 55) _ = _
                 simp only [Act.put, List.setIfInBounds_toArray, List.set_cons_zero, List.set_cons_succ, i64_w, i32_w]
                 rfl
                refine pureA 33 56 (bz 51 17179869183) rfl rfl (any_of HT_.out (by kernel_rfl)) ?_
                refine pureA 34 57 (bz 51 34359738367) rfl rfl (any_of HT_.out (by kernel_rfl)) ?_
                refine pureA 35 58 (bz 51 68719476735) rfl rfl (any_of HT_.out (by kernel_rfl)) ?_
                refine pureA 36 59 (bz 51 137438953471) rfl rfl (any_of HT_.out (by kernel_rfl)) ?_
                refine takeA 37 60 (bz 51 274877906943) rfl rfl (take_ofW HT_.out HW_.out (by kernel_rfl)) hHeld (by rintro w' ⟨s0, s1, s2, s3, s4, s5⟩; go_simp; with_reducible rfl) ?_
                refine one_ (i := 38) (N := some 61) (bz 51 549755813887) rfl rfl (one_of HT_.out (by kernel_rfl)) (by decide) (fun K hK => ?_)
                refine goes_ Try.func51 (by kernel_rfl) rfl #[.int .i64 ((rd_T34 l0_1 x18_2).f3), .int .i64 1, .int .i64 1000] (by rfl) rfl rfl aE ?_
                with_reducible refine (spec_l1In.calls ((rd_T34 l0_1 x18_2).f3) 1 1000 true _ A67.out).mono ?_
                rintro e w' ⟨rfl, ⟨nd, rfl⟩⟩
                refine ⟨_, rfl, ?_⟩
                refine hK.out _ _ ⟨cz BK106 0 _, cz BK106 1 _, cz BK106 2 _, cz BK106 3 _, cz BK103 0 _, cz BK103 1 _⟩ (fun hHeld => ?_)
                clear hK K
                refine norm_ (a' := ?_) ?_ ?_
                rotate_left
                ·show Act.put _ (some 61) _ = _
                 simp only [Act.put, List.setIfInBounds_toArray, List.set_cons_zero, List.set_cons_succ, i64_w, i32_w]
                 rfl
                refine pureA 39 62 (bz 51 1099511627775) rfl rfl (any_of HT_.out (by kernel_rfl)) ?_
                refine pureA 40 63 (bz 51 2199023255551) rfl rfl (any_of HT_.out (by kernel_rfl)) ?_
                refine pureA 41 64 (bz 51 4398046511103) rfl rfl (any_of HT_.out (by kernel_rfl)) ?_
                refine pureA 42 65 (bz 51 8796093022207) rfl rfl (any_of HT_.out (by kernel_rfl)) ?_
                refine takeA 43 66 (bz 51 17592186044415) rfl rfl (take_ofW HT_.out HW_.out (by kernel_rfl)) hHeld (by rintro w' ⟨s0, s1, s2, s3, s4, s5⟩; go_simp; with_reducible rfl) ?_
                refine pureA 44 67 (bz 51 35184372088831) rfl rfl (any_of HT_.out (by kernel_rfl)) ?_
                refine pureA 45 68 (bz 51 70368744177663) rfl rfl (any_of HT_.out (by kernel_rfl)) ?_
                refine pureA 46 69 (bz 51 140737488355327) rfl rfl (any_of HT_.out (by kernel_rfl)) ?_
                refine takeA 47 70 (bz 51 281474976710655) rfl rfl (take_ofW HT_.out HW_.out (by kernel_rfl)) hHeld (by rintro w' ⟨s0, s1, s2, s3, s4, s5⟩; go_simp; with_reducible rfl) ?_
                refine pureA 48 71 (bz 51 562949953421311) rfl rfl (any_of HT_.out (by kernel_rfl)) ?_
                refine pureA 49 72 (bz 51 1125899906842623) rfl rfl (any_of HT_.out (by kernel_rfl)) ?_
                refine pureA 50 73 (bz 51 2251799813685247) rfl rfl (any_of HT_.out (by kernel_rfl)) ?_
                refine done_ (done_of HT_.out (by kernel_rfl)) ?_
                try go_wp2
                go_roundg k2
                case measure => have := HJ1.out; have := HK2.out; omega
                case rel => exact ⟨(wrap64 (x18_2 + 1)), tE, H', ⟨by have := HJ1.out; have := HK2.out; omega⟩, ⟨by refine bU ?_; exact BK103.out⟩, ⟨by repeat (first | (with_reducible first | exact HB.out | apply below_alloc | apply pw_below_drewN | apply below_drew1 | refine below_set ?_ GE103.out | refine below_set ?_ GE106.out) | exact HB.out)⟩⟩
               ·rw [if_neg c70] at H
                have c70b0 : (((rd_T34 l0_1 x18_2).f3) == 1) = false := beq_eq_false_iff_ne.mpr c70
                have c70b1 : (((rd_T34 l0_1 x18_2).f3) != 1) = true := bne_iff_ne.mpr c70
                obtain rfl := Option.some.inj H
                have p105 : 0 ≤ (x18_2 : Int) := of_decide_eq_true hE
                have q105 : x18_2 < (l0_1.length : Int) := of_decide_eq_true hE
                obtain ⟨ad105, e105, hx105_0, hx105_1, hx105_2, hx105_3⟩ := at_T34 HR0_1.out x18_2 p105 q105
                cases e105
                replace hx105_0 := (HB.out.cell (World.block_lt_of_cell? w _ hx105_0)).trans hx105_0
                replace hx105_1 := (HB.out.cell (World.block_lt_of_cell? w _ hx105_1)).trans hx105_1
                replace hx105_2 := (HB.out.cell (World.block_lt_of_cell? w _ hx105_2)).trans hx105_2
                replace hx105_3 := (HB.out.cell (World.block_lt_of_cell? w _ hx105_3)).trans hx105_3
                replace p105 := eq_true p105
                replace q105 := eq_true q105
                try go_wp2_with (first | ((with_reducible refine gate_dst (N := 4) rfl ?_); (try (refine gate_guard (by rfl) ?_; dsimp only)); refine box_event rfl (N := 4) rfl (cs := #[.int .i64 0, .int .i64 0, .int .i64 0, .int .i64 0]) (t := 34) sE ?_; intro gb106 hg w76 hbox hb; have BK106 := Aside0.mk hbox; have GW106 := gS w hg (lV1 GE103); have GE106 := gS w hg (lV1 GE103); replace HB := bH (lV1 GE103) hb; have NB103_106 := nL hg (bV BK103); have NB106_103 := nG hg (bV BK103); replace BK103 := bB (bV BK103) hb; clear hb hbox hg; have hnb77 := NB106_103.out; have hnc77 := NB103_106.out; have hcz78_0 := cz BK106 0 (.int .i64 0); have hcz78_1 := cz BK106 1 (.int .i64 0); have hcz78_2 := cz BK106 2 (.int .i64 0); have hcz78_3 := cz BK106 3 (.int .i64 0); have hfz78_0 := fz BK106 0; have hfz78_1 := fz BK106 1; have hfz78_2 := fz BK106 2; have hfz78_3 := fz BK106 3) | ((with_reducible refine gate_store (t := 34) (p := 4) rfl ?_); refine store_event (t := 34) (p := 4) (v := ?vo_w79) (w1 := ((((w76.setCell ⟨gb106, 0, none⟩ (.int .i64 ((rd_T34 l0_1 x18_2).f0))).setCell ⟨gb106, 1, none⟩ (.int .i64 ((rd_T34 l0_1 x18_2).f1))).setCell ⟨gb106, 2, none⟩ (.int .i64 ((rd_T34 l0_1 x18_2).f2))).setCell ⟨gb106, 3, none⟩ (.int .i64 ((rd_T34 l0_1 x18_2).f3)))) ?hg ?ho ?hn ?hr ?_; (case ho => rfl); (case hg => rfl); (case hn => rfl); (case hr => first | (go_simp; done) | (go_simp; rfl) | (have hq0_ := (blk_cell BK106.out 0).trans (show _ = some _ from rfl); have hf0_ := blk_frozen BK106.out 0; have hq1_ := (blk_cell BK106.out 1).trans (show _ = some _ from rfl); have hf1_ := blk_frozen BK106.out 1; have hq2_ := (blk_cell BK106.out 2).trans (show _ = some _ from rfl); have hf2_ := blk_frozen BK106.out 2; have hq3_ := (blk_cell BK106.out 3).trans (show _ = some _ from rfl); have hf3_ := blk_frozen BK106.out 3; first | (go_simp; done) | (go_simp; rfl))); intro w79 hw; replace BK103 : Aside0 (w79.heap[gb103]? = some (.cells #[.int .i64 a0_0, .slice (some ad105) l0_1.length c0_1] 30 (0, 0))) := ⟨(by rw [hw]; exact (bG NB103_106 BK103))⟩; replace BK106 : Aside0 (w79.heap[gb106]? = some (.cells #[.int .i64 ((rd_T34 l0_1 x18_2).f0), .int .i64 ((rd_T34 l0_1 x18_2).f1), .int .i64 ((rd_T34 l0_1 x18_2).f2), .int .i64 ((rd_T34 l0_1 x18_2).f3)] 34 (0, 0))) := ⟨(by rw [hw]; exact (by refine bU ?_; refine blk_put (cs := #[.int .i64 ((rd_T34 l0_1 x18_2).f0), .int .i64 ((rd_T34 l0_1 x18_2).f1), .int .i64 ((rd_T34 l0_1 x18_2).f2), .int .i64 0]) ?_ 3 _ rfl; refine bU ?_; refine blk_put (cs := #[.int .i64 ((rd_T34 l0_1 x18_2).f0), .int .i64 ((rd_T34 l0_1 x18_2).f1), .int .i64 0, .int .i64 0]) ?_ 2 _ rfl; refine bU ?_; refine blk_put (cs := #[.int .i64 ((rd_T34 l0_1 x18_2).f0), .int .i64 0, .int .i64 0, .int .i64 0]) ?_ 1 _ rfl; refine bU ?_; refine blk_put (cs := #[.int .i64 0, .int .i64 0, .int .i64 0, .int .i64 0]) ?_ 0 _ rfl; refine bU ?_; exact BK106.out))⟩; replace HB : Aside0 (Below w.heap.size w w79) := ⟨(by rw [hw]; exact (lV2 GE103 GE106))⟩; clear hw))
                replace BK103 := Aside0.mk (blk_drew BK103.out)
                replace BK106 := Aside0.mk (blk_drew BK106.out)
                replace HB := Aside0.mk (below_drew1 HB.out)
                refine start_ (n := 51) (S := fun w' => w'.cell? ⟨gb106, 0, none⟩ = some (.int .i64 ((rd_T34 l0_1 x18_2).f0)) ∧ w'.cell? ⟨gb106, 1, none⟩ = some (.int .i64 ((rd_T34 l0_1 x18_2).f1)) ∧ w'.cell? ⟨gb106, 2, none⟩ = some (.int .i64 ((rd_T34 l0_1 x18_2).f2)) ∧ w'.cell? ⟨gb106, 3, none⟩ = some (.int .i64 ((rd_T34 l0_1 x18_2).f3)) ∧ w'.cell? ⟨gb103, 0, none⟩ = some (.int .i64 a0_0) ∧ w'.cell? ⟨gb103, 1, none⟩ = some (.slice (some ad105) l0_1.length c0_1)) (ds := []) #[false, false, false, false, false, false, false, false, false, false, false, false, false, false, false, false, false, false, false, false, false, false, false, false, false, false, false, false, false, false, false, false, false, false, false, false, false, false, false, false, false, false, false, false, false, false, false, false, false, false, false] (by kernel_rfl) rfl rfl ⟨cz BK106 0 _, cz BK106 1 _, cz BK106 2 _, cz BK106 3 _, cz BK103 0 _, cz BK103 1 _⟩ (fun hHeld => ?_); refine with_tabW spec_GoodClock.tab6 spec_GoodClock.bits6 (fun HT_ HW_ => ?_)
                generalize w79.drew = w80 at BK103 BK106 HB hHeld ⊢
                refine pureA 0 23 (bz 51 1) rfl rfl (any_of HT_.out (by kernel_rfl)) ?_
                refine takeA 1 24 (bz 51 3) rfl rfl (take_ofW HT_.out HW_.out (by kernel_rfl)) hHeld (by rintro w' ⟨s0, s1, s2, s3, s4, s5⟩; go_simp; with_reducible rfl) ?_
                refine one_ (i := 2) (N := some 25) (bz 51 7) rfl rfl (one_of HT_.out (by kernel_rfl)) (by decide) (fun K hK => ?_)
                refine goes_ Try.func51 (by kernel_rfl) rfl #[.int .i64 ((rd_T34 l0_1 x18_2).f0), .int .i64 0, .int .i64 999] (by rfl) rfl rfl aE ?_
                with_reducible refine (spec_l1In.calls ((rd_T34 l0_1 x18_2).f0) 0 999 true _ A13.out).mono ?_
                rintro e w' ⟨rfl, ⟨nd, rfl⟩⟩
                refine ⟨_, rfl, ?_⟩
                refine hK.out _ _ ⟨cz BK106 0 _, cz BK106 1 _, cz BK106 2 _, cz BK106 3 _, cz BK103 0 _, cz BK103 1 _⟩ (fun hHeld => ?_)
                clear hK K
                refine norm_ (a' := ?_) ?_ ?_
                rotate_left
                ·show Act.put _ (some 25) _ = _
                 simp only [Act.put, List.setIfInBounds_toArray, List.set_cons_zero, List.set_cons_succ, i64_w, i32_w]
                 rfl
                refine pureA 3 26 (bz 51 15) rfl rfl (any_of HT_.out (by kernel_rfl)) ?_
                refine pureA 4 27 (bz 51 31) rfl rfl (any_of HT_.out (by kernel_rfl)) ?_
                refine pureA 5 28 (bz 51 63) rfl rfl (any_of HT_.out (by kernel_rfl)) ?_
                refine pureA 6 29 (bz 51 127) rfl rfl (any_of HT_.out (by kernel_rfl)) ?_
                refine pureA 7 30 (bz 51 255) rfl rfl (any_of HT_.out (by kernel_rfl)) ?_
                refine pureU 8 31 (bz 51 511) rfl rfl (any_of HT_.out (by kernel_rfl)) ?_
                refine pureU 9 32 (bz 51 1023) rfl rfl (any_of HT_.out (by kernel_rfl)) ?_
                refine pureU 10 33 (bz 51 2047) rfl rfl (any_of HT_.out (by kernel_rfl)) ?_
                refine pureU 11 34 (bz 51 4095) rfl rfl (any_of HT_.out (by kernel_rfl)) ?_
                refine pureU 12 35 (bz 51 8191) rfl rfl (any_of HT_.out (by kernel_rfl)) ?_
                refine pureU 13 36 (bz 51 16383) rfl rfl (any_of HT_.out (by kernel_rfl)) ?_
                refine pureU 14 37 (bz 51 32767) rfl rfl (any_of HT_.out (by kernel_rfl)) ?_
                refine pureU 15 38 (bz 51 65535) rfl rfl (any_of HT_.out (by kernel_rfl)) ?_
                refine pureU 16 39 (bz 51 131071) rfl rfl (any_of HT_.out (by kernel_rfl)) ?_
                refine pureU 17 40 (bz 51 262143) rfl rfl (any_of HT_.out (by kernel_rfl)) ?_
                refine pureA 18 41 (bz 51 524287) rfl rfl (any_of HT_.out (by kernel_rfl)) ?_
                refine pureA 19 42 (bz 51 1048575) rfl rfl (any_of HT_.out (by kernel_rfl)) ?_
                refine pureA 20 43 (bz 51 2097151) rfl rfl (any_of HT_.out (by kernel_rfl)) ?_
                refine pureA 21 44 (bz 51 4194303) rfl rfl (any_of HT_.out (by kernel_rfl)) ?_
                refine pureA 23 46 (bz 51 12582911) rfl rfl (any_of HT_.out (by kernel_rfl)) ?_
                refine takeA 22 45 (bz 51 16777215) rfl rfl (take_ofW HT_.out HW_.out (by kernel_rfl)) hHeld (by rintro w' ⟨s0, s1, s2, s3, s4, s5⟩; go_simp; with_reducible rfl) ?_
                refine takeA 24 47 (bz 51 33554431) rfl rfl (take_ofW HT_.out HW_.out (by kernel_rfl)) hHeld (by rintro w' ⟨s0, s1, s2, s3, s4, s5⟩; go_simp; with_reducible rfl) ?_
                refine pureA 25 48 (bz 51 67108863) rfl rfl (any_of HT_.out (by kernel_rfl)) ?_
                refine one_ (i := 26) (N := some 49) (bz 51 134217727) rfl rfl (one_of HT_.out (by kernel_rfl)) (by decide) (fun K hK => ?_)
                refine goes_ Try.func51 (by kernel_rfl) rfl #[.int .i64 ((rd_T34 l0_1 x18_2).f1), .int .i64 (wrap64 (a0_0 + 1)), .int .i64 200000] (by rfl) rfl rfl aE ?_
                with_reducible refine (spec_l1In.calls ((rd_T34 l0_1 x18_2).f1) (wrap64 (a0_0 + 1)) 200000 true _ A63.out).mono ?_
                rintro e w' ⟨rfl, ⟨nd, rfl⟩⟩
                refine ⟨_, rfl, ?_⟩
                refine hK.out _ _ ⟨cz BK106 0 _, cz BK106 1 _, cz BK106 2 _, cz BK106 3 _, cz BK103 0 _, cz BK103 1 _⟩ (fun hHeld => ?_)
                clear hK K
                refine norm_ (a' := ?_) ?_ ?_
                rotate_left
                ·show Act.put _ (some 49) _ = _
                 simp only [Act.put, List.setIfInBounds_toArray, List.set_cons_zero, List.set_cons_succ, i64_w, i32_w]
                 rfl
                refine pureA 27 50 (bz 51 268435455) rfl rfl (any_of HT_.out (by kernel_rfl)) ?_
                refine pureA 28 51 (bz 51 536870911) rfl rfl (any_of HT_.out (by kernel_rfl)) ?_
                refine pureA 29 52 (bz 51 1073741823) rfl rfl (any_of HT_.out (by kernel_rfl)) ?_
                refine pureA 30 53 (bz 51 2147483647) rfl rfl (any_of HT_.out (by kernel_rfl)) ?_
                refine takeA 31 54 (bz 51 4294967295) rfl rfl (take_ofW HT_.out HW_.out (by kernel_rfl)) hHeld (by rintro w' ⟨s0, s1, s2, s3, s4, s5⟩; go_simp; with_reducible rfl) ?_
                refine one_ (i := 32) (N := some 55) (bz 51 8589934591) rfl rfl (one_of HT_.out (by kernel_rfl)) (by decide) (fun K hK => ?_)
                refine goes_ Try.func51 (by kernel_rfl) rfl #[.int .i64 ((rd_T34 l0_1 x18_2).f2), .int .i64 0, .int .i64 100000] (by rfl) rfl rfl aE ?_
                with_reducible refine (spec_l1In.calls ((rd_T34 l0_1 x18_2).f2) 0 100000 true _ A65.out).mono ?_
                rintro e w' ⟨rfl, ⟨nd, rfl⟩⟩
                refine ⟨_, rfl, ?_⟩
                refine hK.out _ _ ⟨cz BK106 0 _, cz BK106 1 _, cz BK106 2 _, cz BK106 3 _, cz BK103 0 _, cz BK103 1 _⟩ (fun hHeld => ?_)
                clear hK K
                refine norm_ (a' := ?_) ?_ ?_
                rotate_left
                ·show Act.put _ (some 55) _ = _
                 simp only [Act.put, List.setIfInBounds_toArray, List.set_cons_zero, List.set_cons_succ, i64_w, i32_w]
                 rfl
                refine pureA 33 56 (bz 51 17179869183) rfl rfl (any_of HT_.out (by kernel_rfl)) ?_
                refine pureA 34 57 (bz 51 34359738367) rfl rfl (any_of HT_.out (by kernel_rfl)) ?_
                refine pureA 35 58 (bz 51 68719476735) rfl rfl (any_of HT_.out (by kernel_rfl)) ?_
                refine pureA 36 59 (bz 51 137438953471) rfl rfl (any_of HT_.out (by kernel_rfl)) ?_
                refine takeA 37 60 (bz 51 274877906943) rfl rfl (take_ofW HT_.out HW_.out (by kernel_rfl)) hHeld (by rintro w' ⟨s0, s1, s2, s3, s4, s5⟩; go_simp; with_reducible rfl) ?_
                refine one_ (i := 38) (N := some 61) (bz 51 549755813887) rfl rfl (one_of HT_.out (by kernel_rfl)) (by decide) (fun K hK => ?_)
                refine goes_ Try.func51 (by kernel_rfl) rfl #[.int .i64 ((rd_T34 l0_1 x18_2).f3), .int .i64 1, .int .i64 1000] (by rfl) rfl rfl aE ?_
                with_reducible refine (spec_l1In.calls ((rd_T34 l0_1 x18_2).f3) 1 1000 true _ A67.out).mono ?_
                rintro e w' ⟨rfl, ⟨nd, rfl⟩⟩
                refine ⟨_, rfl, ?_⟩
                refine hK.out _ _ ⟨cz BK106 0 _, cz BK106 1 _, cz BK106 2 _, cz BK106 3 _, cz BK103 0 _, cz BK103 1 _⟩ (fun hHeld => ?_)
                clear hK K
                refine norm_ (a' := ?_) ?_ ?_
                rotate_left
                ·show Act.put _ (some 61) _ = _
                 simp only [Act.put, List.setIfInBounds_toArray, List.set_cons_zero, List.set_cons_succ, i64_w, i32_w]
                 rfl
                refine pureA 39 62 (bz 51 1099511627775) rfl rfl (any_of HT_.out (by kernel_rfl)) ?_
                refine pureA 40 63 (bz 51 2199023255551) rfl rfl (any_of HT_.out (by kernel_rfl)) ?_
                refine pureA 41 64 (bz 51 4398046511103) rfl rfl (any_of HT_.out (by kernel_rfl)) ?_
                refine pureA 42 65 (bz 51 8796093022207) rfl rfl (any_of HT_.out (by kernel_rfl)) ?_
                refine takeA 43 66 (bz 51 17592186044415) rfl rfl (take_ofW HT_.out HW_.out (by kernel_rfl)) hHeld (by rintro w' ⟨s0, s1, s2, s3, s4, s5⟩; go_simp; with_reducible rfl) ?_
                refine pureA 44 67 (bz 51 35184372088831) rfl rfl (any_of HT_.out (by kernel_rfl)) ?_
                refine pureA 45 68 (bz 51 70368744177663) rfl rfl (any_of HT_.out (by kernel_rfl)) ?_
                refine pureA 46 69 (bz 51 140737488355327) rfl rfl (any_of HT_.out (by kernel_rfl)) ?_
                refine takeA 47 70 (bz 51 281474976710655) rfl rfl (take_ofW HT_.out HW_.out (by kernel_rfl)) hHeld (by rintro w' ⟨s0, s1, s2, s3, s4, s5⟩; go_simp; with_reducible rfl) ?_
                refine pureA 48 71 (bz 51 562949953421311) rfl rfl (any_of HT_.out (by kernel_rfl)) ?_
                refine pureA 49 72 (bz 51 1125899906842623) rfl rfl (any_of HT_.out (by kernel_rfl)) ?_
                refine pureA 50 73 (bz 51 2251799813685247) rfl rfl (any_of HT_.out (by kernel_rfl)) ?_
                refine done_ (done_of HT_.out (by kernel_rfl)) ?_
                try go_wp2
                go_ret
                exact ⟨eE, lV2 GE103 GE106⟩
              ·rw [if_neg c69] at H
               have c69b0 : (((rd_T34 l0_1 x18_2).f2) == 0) = false := beq_eq_false_iff_ne.mpr c69
               have c69b1 : (((rd_T34 l0_1 x18_2).f2) != 0) = true := bne_iff_ne.mpr c69
               have H' := Aside0.mk H
               clear H
               have p105 : 0 ≤ (x18_2 : Int) := of_decide_eq_true hE
               have q105 : x18_2 < (l0_1.length : Int) := of_decide_eq_true hE
               obtain ⟨ad105, e105, hx105_0, hx105_1, hx105_2, hx105_3⟩ := at_T34 HR0_1.out x18_2 p105 q105
               cases e105
               replace hx105_0 := (HB.out.cell (World.block_lt_of_cell? w _ hx105_0)).trans hx105_0
               replace hx105_1 := (HB.out.cell (World.block_lt_of_cell? w _ hx105_1)).trans hx105_1
               replace hx105_2 := (HB.out.cell (World.block_lt_of_cell? w _ hx105_2)).trans hx105_2
               replace hx105_3 := (HB.out.cell (World.block_lt_of_cell? w _ hx105_3)).trans hx105_3
               replace p105 := eq_true p105
               replace q105 := eq_true q105
               try go_wp2_with (first | ((with_reducible refine gate_dst (N := 4) rfl ?_); (try (refine gate_guard (by rfl) ?_; dsimp only)); refine box_event rfl (N := 4) rfl (cs := #[.int .i64 0, .int .i64 0, .int .i64 0, .int .i64 0]) (t := 34) sE ?_; intro gb106 hg w81 hbox hb; have BK106 := Aside0.mk hbox; have GW106 := gS w hg (lV1 GE103); have GE106 := gS w hg (lV1 GE103); replace HB := bH (lV1 GE103) hb; have NB103_106 := nL hg (bV BK103); have NB106_103 := nG hg (bV BK103); replace BK103 := bB (bV BK103) hb; clear hb hbox hg; have hnb82 := NB106_103.out; have hnc82 := NB103_106.out; have hcz83_0 := cz BK106 0 (.int .i64 0); have hcz83_1 := cz BK106 1 (.int .i64 0); have hcz83_2 := cz BK106 2 (.int .i64 0); have hcz83_3 := cz BK106 3 (.int .i64 0); have hfz83_0 := fz BK106 0; have hfz83_1 := fz BK106 1; have hfz83_2 := fz BK106 2; have hfz83_3 := fz BK106 3) | ((with_reducible refine gate_store (t := 34) (p := 4) rfl ?_); refine store_event (t := 34) (p := 4) (v := ?vo_w84) (w1 := ((((w81.setCell ⟨gb106, 0, none⟩ (.int .i64 ((rd_T34 l0_1 x18_2).f0))).setCell ⟨gb106, 1, none⟩ (.int .i64 ((rd_T34 l0_1 x18_2).f1))).setCell ⟨gb106, 2, none⟩ (.int .i64 ((rd_T34 l0_1 x18_2).f2))).setCell ⟨gb106, 3, none⟩ (.int .i64 ((rd_T34 l0_1 x18_2).f3)))) ?hg ?ho ?hn ?hr ?_; (case ho => rfl); (case hg => rfl); (case hn => rfl); (case hr => first | (go_simp; done) | (go_simp; rfl) | (have hq0_ := (blk_cell BK106.out 0).trans (show _ = some _ from rfl); have hf0_ := blk_frozen BK106.out 0; have hq1_ := (blk_cell BK106.out 1).trans (show _ = some _ from rfl); have hf1_ := blk_frozen BK106.out 1; have hq2_ := (blk_cell BK106.out 2).trans (show _ = some _ from rfl); have hf2_ := blk_frozen BK106.out 2; have hq3_ := (blk_cell BK106.out 3).trans (show _ = some _ from rfl); have hf3_ := blk_frozen BK106.out 3; first | (go_simp; done) | (go_simp; rfl))); intro w84 hw; replace BK103 : Aside0 (w84.heap[gb103]? = some (.cells #[.int .i64 a0_0, .slice (some ad105) l0_1.length c0_1] 30 (0, 0))) := ⟨(by rw [hw]; exact (bG NB103_106 BK103))⟩; replace BK106 : Aside0 (w84.heap[gb106]? = some (.cells #[.int .i64 ((rd_T34 l0_1 x18_2).f0), .int .i64 ((rd_T34 l0_1 x18_2).f1), .int .i64 ((rd_T34 l0_1 x18_2).f2), .int .i64 ((rd_T34 l0_1 x18_2).f3)] 34 (0, 0))) := ⟨(by rw [hw]; exact (by refine bU ?_; refine blk_put (cs := #[.int .i64 ((rd_T34 l0_1 x18_2).f0), .int .i64 ((rd_T34 l0_1 x18_2).f1), .int .i64 ((rd_T34 l0_1 x18_2).f2), .int .i64 0]) ?_ 3 _ rfl; refine bU ?_; refine blk_put (cs := #[.int .i64 ((rd_T34 l0_1 x18_2).f0), .int .i64 ((rd_T34 l0_1 x18_2).f1), .int .i64 0, .int .i64 0]) ?_ 2 _ rfl; refine bU ?_; refine blk_put (cs := #[.int .i64 ((rd_T34 l0_1 x18_2).f0), .int .i64 0, .int .i64 0, .int .i64 0]) ?_ 1 _ rfl; refine bU ?_; refine blk_put (cs := #[.int .i64 0, .int .i64 0, .int .i64 0, .int .i64 0]) ?_ 0 _ rfl; refine bU ?_; exact BK106.out))⟩; replace HB : Aside0 (Below w.heap.size w w84) := ⟨(by rw [hw]; exact (lV2 GE103 GE106))⟩; clear hw))
               replace BK103 := Aside0.mk (blk_drew BK103.out)
               replace BK106 := Aside0.mk (blk_drew BK106.out)
               replace HB := Aside0.mk (below_drew1 HB.out)
               refine start_ (n := 51) (S := fun w' => w'.cell? ⟨gb106, 0, none⟩ = some (.int .i64 ((rd_T34 l0_1 x18_2).f0)) ∧ w'.cell? ⟨gb106, 1, none⟩ = some (.int .i64 ((rd_T34 l0_1 x18_2).f1)) ∧ w'.cell? ⟨gb106, 2, none⟩ = some (.int .i64 ((rd_T34 l0_1 x18_2).f2)) ∧ w'.cell? ⟨gb106, 3, none⟩ = some (.int .i64 ((rd_T34 l0_1 x18_2).f3)) ∧ w'.cell? ⟨gb103, 0, none⟩ = some (.int .i64 a0_0) ∧ w'.cell? ⟨gb103, 1, none⟩ = some (.slice (some ad105) l0_1.length c0_1)) (ds := []) #[false, false, false, false, false, false, false, false, false, false, false, false, false, false, false, false, false, false, false, false, false, false, false, false, false, false, false, false, false, false, false, false, false, false, false, false, false, false, false, false, false, false, false, false, false, false, false, false, false, false, false] (by kernel_rfl) rfl rfl ⟨cz BK106 0 _, cz BK106 1 _, cz BK106 2 _, cz BK106 3 _, cz BK103 0 _, cz BK103 1 _⟩ (fun hHeld => ?_); refine with_tabW spec_GoodClock.tab6 spec_GoodClock.bits6 (fun HT_ HW_ => ?_)
               generalize w84.drew = w85 at BK103 BK106 HB hHeld ⊢
               refine pureA 0 23 (bz 51 1) rfl rfl (any_of HT_.out (by kernel_rfl)) ?_
               refine takeA 1 24 (bz 51 3) rfl rfl (take_ofW HT_.out HW_.out (by kernel_rfl)) hHeld (by rintro w' ⟨s0, s1, s2, s3, s4, s5⟩; go_simp; with_reducible rfl) ?_
               refine one_ (i := 2) (N := some 25) (bz 51 7) rfl rfl (one_of HT_.out (by kernel_rfl)) (by decide) (fun K hK => ?_)
               refine goes_ Try.func51 (by kernel_rfl) rfl #[.int .i64 ((rd_T34 l0_1 x18_2).f0), .int .i64 0, .int .i64 999] (by rfl) rfl rfl aE ?_
               with_reducible refine (spec_l1In.calls ((rd_T34 l0_1 x18_2).f0) 0 999 true _ A13.out).mono ?_
               rintro e w' ⟨rfl, ⟨nd, rfl⟩⟩
               refine ⟨_, rfl, ?_⟩
               refine hK.out _ _ ⟨cz BK106 0 _, cz BK106 1 _, cz BK106 2 _, cz BK106 3 _, cz BK103 0 _, cz BK103 1 _⟩ (fun hHeld => ?_)
               clear hK K
               refine norm_ (a' := ?_) ?_ ?_
               rotate_left
               ·show Act.put _ (some 25) _ = _
                simp only [Act.put, List.setIfInBounds_toArray, List.set_cons_zero, List.set_cons_succ, i64_w, i32_w]
                rfl
               refine pureA 3 26 (bz 51 15) rfl rfl (any_of HT_.out (by kernel_rfl)) ?_
               refine pureA 4 27 (bz 51 31) rfl rfl (any_of HT_.out (by kernel_rfl)) ?_
               refine pureA 5 28 (bz 51 63) rfl rfl (any_of HT_.out (by kernel_rfl)) ?_
               refine pureA 6 29 (bz 51 127) rfl rfl (any_of HT_.out (by kernel_rfl)) ?_
               refine pureA 7 30 (bz 51 255) rfl rfl (any_of HT_.out (by kernel_rfl)) ?_
               refine pureU 8 31 (bz 51 511) rfl rfl (any_of HT_.out (by kernel_rfl)) ?_
               refine pureU 9 32 (bz 51 1023) rfl rfl (any_of HT_.out (by kernel_rfl)) ?_
               refine pureU 10 33 (bz 51 2047) rfl rfl (any_of HT_.out (by kernel_rfl)) ?_
               refine pureU 11 34 (bz 51 4095) rfl rfl (any_of HT_.out (by kernel_rfl)) ?_
               refine pureU 12 35 (bz 51 8191) rfl rfl (any_of HT_.out (by kernel_rfl)) ?_
               refine pureU 13 36 (bz 51 16383) rfl rfl (any_of HT_.out (by kernel_rfl)) ?_
               refine pureU 14 37 (bz 51 32767) rfl rfl (any_of HT_.out (by kernel_rfl)) ?_
               refine pureU 15 38 (bz 51 65535) rfl rfl (any_of HT_.out (by kernel_rfl)) ?_
               refine pureU 16 39 (bz 51 131071) rfl rfl (any_of HT_.out (by kernel_rfl)) ?_
               refine pureU 17 40 (bz 51 262143) rfl rfl (any_of HT_.out (by kernel_rfl)) ?_
               refine pureA 18 41 (bz 51 524287) rfl rfl (any_of HT_.out (by kernel_rfl)) ?_
               refine pureA 19 42 (bz 51 1048575) rfl rfl (any_of HT_.out (by kernel_rfl)) ?_
               refine pureA 20 43 (bz 51 2097151) rfl rfl (any_of HT_.out (by kernel_rfl)) ?_
               refine pureA 21 44 (bz 51 4194303) rfl rfl (any_of HT_.out (by kernel_rfl)) ?_
               refine pureA 23 46 (bz 51 12582911) rfl rfl (any_of HT_.out (by kernel_rfl)) ?_
               refine takeA 22 45 (bz 51 16777215) rfl rfl (take_ofW HT_.out HW_.out (by kernel_rfl)) hHeld (by rintro w' ⟨s0, s1, s2, s3, s4, s5⟩; go_simp; with_reducible rfl) ?_
               refine takeA 24 47 (bz 51 33554431) rfl rfl (take_ofW HT_.out HW_.out (by kernel_rfl)) hHeld (by rintro w' ⟨s0, s1, s2, s3, s4, s5⟩; go_simp; with_reducible rfl) ?_
               refine pureA 25 48 (bz 51 67108863) rfl rfl (any_of HT_.out (by kernel_rfl)) ?_
               refine one_ (i := 26) (N := some 49) (bz 51 134217727) rfl rfl (one_of HT_.out (by kernel_rfl)) (by decide) (fun K hK => ?_)
               refine goes_ Try.func51 (by kernel_rfl) rfl #[.int .i64 ((rd_T34 l0_1 x18_2).f1), .int .i64 (wrap64 (a0_0 + 1)), .int .i64 200000] (by rfl) rfl rfl aE ?_
               with_reducible refine (spec_l1In.calls ((rd_T34 l0_1 x18_2).f1) (wrap64 (a0_0 + 1)) 200000 true _ A63.out).mono ?_
               rintro e w' ⟨rfl, ⟨nd, rfl⟩⟩
               refine ⟨_, rfl, ?_⟩
               refine hK.out _ _ ⟨cz BK106 0 _, cz BK106 1 _, cz BK106 2 _, cz BK106 3 _, cz BK103 0 _, cz BK103 1 _⟩ (fun hHeld => ?_)
               clear hK K
               refine norm_ (a' := ?_) ?_ ?_
               rotate_left
               ·show Act.put _ (some 49) _ = _
                simp only [Act.put, List.setIfInBounds_toArray, List.set_cons_zero, List.set_cons_succ, i64_w, i32_w]
                rfl
               refine pureA 27 50 (bz 51 268435455) rfl rfl (any_of HT_.out (by kernel_rfl)) ?_
               refine pureA 28 51 (bz 51 536870911) rfl rfl (any_of HT_.out (by kernel_rfl)) ?_
               refine pureA 29 52 (bz 51 1073741823) rfl rfl (any_of HT_.out (by kernel_rfl)) ?_
               refine pureA 30 53 (bz 51 2147483647) rfl rfl (any_of HT_.out (by kernel_rfl)) ?_
               refine takeA 31 54 (bz 51 4294967295) rfl rfl (take_ofW HT_.out HW_.out (by kernel_rfl)) hHeld (by rintro w' ⟨s0, s1, s2, s3, s4, s5⟩; go_simp; with_reducible rfl) ?_
               refine one_ (i := 32) (N := some 55) (bz 51 8589934591) rfl rfl (one_of HT_.out (by kernel_rfl)) (by decide) (fun K hK => ?_)
               refine goes_ Try.func51 (by kernel_rfl) rfl #[.int .i64 ((rd_T34 l0_1 x18_2).f2), .int .i64 0, .int .i64 100000] (by rfl) rfl rfl aE ?_
               with_reducible refine (spec_l1In.calls ((rd_T34 l0_1 x18_2).f2) 0 100000 true _ A65.out).mono ?_
               rintro e w' ⟨rfl, ⟨nd, rfl⟩⟩
               refine ⟨_, rfl, ?_⟩
               refine hK.out _ _ ⟨cz BK106 0 _, cz BK106 1 _, cz BK106 2 _, cz BK106 3 _, cz BK103 0 _, cz BK103 1 _⟩ (fun hHeld => ?_)
               clear hK K
               refine norm_ (a' := ?_) ?_ ?_
               rotate_left
               ·show Act.put _ (some 55) _ = _
                simp only [Act.put, List.setIfInBounds_toArray, List.set_cons_zero, List.set_cons_succ, i64_w, i32_w]
                rfl
               refine pureA 33 56 (bz 51 17179869183) rfl rfl (any_of HT_.out (by kernel_rfl)) ?_
               refine pureA 34 57 (bz 51 34359738367) rfl rfl (any_of HT_.out (by kernel_rfl)) ?_
               refine pureA 35 58 (bz 51 68719476735) rfl rfl (any_of HT_.out (by kernel_rfl)) ?_
               refine pureA 36 59 (bz 51 137438953471) rfl rfl (any_of HT_.out (by kernel_rfl)) ?_
               refine takeA 37 60 (bz 51 274877906943) rfl rfl (take_ofW HT_.out HW_.out (by kernel_rfl)) hHeld (by rintro w' ⟨s0, s1, s2, s3, s4, s5⟩; go_simp; with_reducible rfl) ?_
               refine one_ (i := 38) (N := some 61) (bz 51 549755813887) rfl rfl (one_of HT_.out (by kernel_rfl)) (by decide) (fun K hK => ?_)
               refine goes_ Try.func51 (by kernel_rfl) rfl #[.int .i64 ((rd_T34 l0_1 x18_2).f3), .int .i64 1, .int .i64 1000] (by rfl) rfl rfl aE ?_
               with_reducible refine (spec_l1In.calls ((rd_T34 l0_1 x18_2).f3) 1 1000 true _ A67.out).mono ?_
               rintro e w' ⟨rfl, ⟨nd, rfl⟩⟩
               refine ⟨_, rfl, ?_⟩
               refine hK.out _ _ ⟨cz BK106 0 _, cz BK106 1 _, cz BK106 2 _, cz BK106 3 _, cz BK103 0 _, cz BK103 1 _⟩ (fun hHeld => ?_)
               clear hK K
               refine norm_ (a' := ?_) ?_ ?_
               rotate_left
               ·show Act.put _ (some 61) _ = _
                simp only [Act.put, List.setIfInBounds_toArray, List.set_cons_zero, List.set_cons_succ, i64_w, i32_w]
                rfl
               refine pureA 39 62 (bz 51 1099511627775) rfl rfl (any_of HT_.out (by kernel_rfl)) ?_
               refine pureA 40 63 (bz 51 2199023255551) rfl rfl (any_of HT_.out (by kernel_rfl)) ?_
               refine pureA 41 64 (bz 51 4398046511103) rfl rfl (any_of HT_.out (by kernel_rfl)) ?_
               refine pureA 42 65 (bz 51 8796093022207) rfl rfl (any_of HT_.out (by kernel_rfl)) ?_
               refine takeA 43 66 (bz 51 17592186044415) rfl rfl (take_ofW HT_.out HW_.out (by kernel_rfl)) hHeld (by rintro w' ⟨s0, s1, s2, s3, s4, s5⟩; go_simp; with_reducible rfl) ?_
               refine pureA 44 67 (bz 51 35184372088831) rfl rfl (any_of HT_.out (by kernel_rfl)) ?_
               refine pureA 45 68 (bz 51 70368744177663) rfl rfl (any_of HT_.out (by kernel_rfl)) ?_
               refine pureU 46 69 (bz 51 140737488355327) rfl rfl (any_of HT_.out (by kernel_rfl)) ?_
               refine pureU 47 70 (bz 51 281474976710655) rfl rfl (any_of HT_.out (by kernel_rfl)) ?_
               refine pureU 48 71 (bz 51 562949953421311) rfl rfl (any_of HT_.out (by kernel_rfl)) ?_
               refine pureA 49 72 (bz 51 1125899906842623) rfl rfl (any_of HT_.out (by kernel_rfl)) ?_
               refine pureA 50 73 (bz 51 2251799813685247) rfl rfl (any_of HT_.out (by kernel_rfl)) ?_
               refine done_ (done_of HT_.out (by kernel_rfl)) ?_
               try go_wp2
               go_roundg k2
               case measure => have := HJ1.out; have := HK2.out; omega
               case rel => exact ⟨(wrap64 (x18_2 + 1)), tE, H', ⟨by have := HJ1.out; have := HK2.out; omega⟩, ⟨by refine bU ?_; exact BK103.out⟩, ⟨by repeat (first | (with_reducible first | exact HB.out | apply below_alloc | apply pw_below_drewN | apply below_drew1 | refine below_set ?_ GE103.out | refine below_set ?_ GE106.out) | exact HB.out)⟩⟩
             ·replace c68 := Bool.eq_false_iff.mpr c68
              subst c68
              have H1 : (some false) = some r := by rw [if_neg (show ¬ (false = true) by decide)] at H; exact H
              clear H
              have H := H1
              clear H1
              obtain rfl := Option.some.inj H
              have p105 : 0 ≤ (x18_2 : Int) := of_decide_eq_true hE
              have q105 : x18_2 < (l0_1.length : Int) := of_decide_eq_true hE
              obtain ⟨ad105, e105, hx105_0, hx105_1, hx105_2, hx105_3⟩ := at_T34 HR0_1.out x18_2 p105 q105
              cases e105
              replace hx105_0 := (HB.out.cell (World.block_lt_of_cell? w _ hx105_0)).trans hx105_0
              replace hx105_1 := (HB.out.cell (World.block_lt_of_cell? w _ hx105_1)).trans hx105_1
              replace hx105_2 := (HB.out.cell (World.block_lt_of_cell? w _ hx105_2)).trans hx105_2
              replace hx105_3 := (HB.out.cell (World.block_lt_of_cell? w _ hx105_3)).trans hx105_3
              replace p105 := eq_true p105
              replace q105 := eq_true q105
              try go_wp2_with (first | ((with_reducible refine gate_dst (N := 4) rfl ?_); (try (refine gate_guard (by rfl) ?_; dsimp only)); refine box_event rfl (N := 4) rfl (cs := #[.int .i64 0, .int .i64 0, .int .i64 0, .int .i64 0]) (t := 34) sE ?_; intro gb106 hg w86 hbox hb; have BK106 := Aside0.mk hbox; have GW106 := gS w hg (lV1 GE103); have GE106 := gS w hg (lV1 GE103); replace HB := bH (lV1 GE103) hb; have NB103_106 := nL hg (bV BK103); have NB106_103 := nG hg (bV BK103); replace BK103 := bB (bV BK103) hb; clear hb hbox hg; have hnb87 := NB106_103.out; have hnc87 := NB103_106.out; have hcz88_0 := cz BK106 0 (.int .i64 0); have hcz88_1 := cz BK106 1 (.int .i64 0); have hcz88_2 := cz BK106 2 (.int .i64 0); have hcz88_3 := cz BK106 3 (.int .i64 0); have hfz88_0 := fz BK106 0; have hfz88_1 := fz BK106 1; have hfz88_2 := fz BK106 2; have hfz88_3 := fz BK106 3) | ((with_reducible refine gate_store (t := 34) (p := 4) rfl ?_); refine store_event (t := 34) (p := 4) (v := ?vo_w89) (w1 := ((((w86.setCell ⟨gb106, 0, none⟩ (.int .i64 ((rd_T34 l0_1 x18_2).f0))).setCell ⟨gb106, 1, none⟩ (.int .i64 ((rd_T34 l0_1 x18_2).f1))).setCell ⟨gb106, 2, none⟩ (.int .i64 ((rd_T34 l0_1 x18_2).f2))).setCell ⟨gb106, 3, none⟩ (.int .i64 ((rd_T34 l0_1 x18_2).f3)))) ?hg ?ho ?hn ?hr ?_; (case ho => rfl); (case hg => rfl); (case hn => rfl); (case hr => first | (go_simp; done) | (go_simp; rfl) | (have hq0_ := (blk_cell BK106.out 0).trans (show _ = some _ from rfl); have hf0_ := blk_frozen BK106.out 0; have hq1_ := (blk_cell BK106.out 1).trans (show _ = some _ from rfl); have hf1_ := blk_frozen BK106.out 1; have hq2_ := (blk_cell BK106.out 2).trans (show _ = some _ from rfl); have hf2_ := blk_frozen BK106.out 2; have hq3_ := (blk_cell BK106.out 3).trans (show _ = some _ from rfl); have hf3_ := blk_frozen BK106.out 3; first | (go_simp; done) | (go_simp; rfl))); intro w89 hw; replace BK103 : Aside0 (w89.heap[gb103]? = some (.cells #[.int .i64 a0_0, .slice (some ad105) l0_1.length c0_1] 30 (0, 0))) := ⟨(by rw [hw]; exact (bG NB103_106 BK103))⟩; replace BK106 : Aside0 (w89.heap[gb106]? = some (.cells #[.int .i64 ((rd_T34 l0_1 x18_2).f0), .int .i64 ((rd_T34 l0_1 x18_2).f1), .int .i64 ((rd_T34 l0_1 x18_2).f2), .int .i64 ((rd_T34 l0_1 x18_2).f3)] 34 (0, 0))) := ⟨(by rw [hw]; exact (by refine bU ?_; refine blk_put (cs := #[.int .i64 ((rd_T34 l0_1 x18_2).f0), .int .i64 ((rd_T34 l0_1 x18_2).f1), .int .i64 ((rd_T34 l0_1 x18_2).f2), .int .i64 0]) ?_ 3 _ rfl; refine bU ?_; refine blk_put (cs := #[.int .i64 ((rd_T34 l0_1 x18_2).f0), .int .i64 ((rd_T34 l0_1 x18_2).f1), .int .i64 0, .int .i64 0]) ?_ 2 _ rfl; refine bU ?_; refine blk_put (cs := #[.int .i64 ((rd_T34 l0_1 x18_2).f0), .int .i64 0, .int .i64 0, .int .i64 0]) ?_ 1 _ rfl; refine bU ?_; refine blk_put (cs := #[.int .i64 0, .int .i64 0, .int .i64 0, .int .i64 0]) ?_ 0 _ rfl; refine bU ?_; exact BK106.out))⟩; replace HB : Aside0 (Below w.heap.size w w89) := ⟨(by rw [hw]; exact (lV2 GE103 GE106))⟩; clear hw))
              replace BK103 := Aside0.mk (blk_drew BK103.out)
              replace BK106 := Aside0.mk (blk_drew BK106.out)
              replace HB := Aside0.mk (below_drew1 HB.out)
              refine start_ (n := 51) (S := fun w' => w'.cell? ⟨gb106, 0, none⟩ = some (.int .i64 ((rd_T34 l0_1 x18_2).f0)) ∧ w'.cell? ⟨gb106, 1, none⟩ = some (.int .i64 ((rd_T34 l0_1 x18_2).f1)) ∧ w'.cell? ⟨gb106, 2, none⟩ = some (.int .i64 ((rd_T34 l0_1 x18_2).f2)) ∧ w'.cell? ⟨gb106, 3, none⟩ = some (.int .i64 ((rd_T34 l0_1 x18_2).f3)) ∧ w'.cell? ⟨gb103, 0, none⟩ = some (.int .i64 a0_0) ∧ w'.cell? ⟨gb103, 1, none⟩ = some (.slice (some ad105) l0_1.length c0_1)) (ds := []) #[false, false, false, false, false, false, false, false, false, false, false, false, false, false, false, false, false, false, false, false, false, false, false, false, false, false, false, false, false, false, false, false, false, false, false, false, false, false, false, false, false, false, false, false, false, false, false, false, false, false, false] (by kernel_rfl) rfl rfl ⟨cz BK106 0 _, cz BK106 1 _, cz BK106 2 _, cz BK106 3 _, cz BK103 0 _, cz BK103 1 _⟩ (fun hHeld => ?_); refine with_tabW spec_GoodClock.tab6 spec_GoodClock.bits6 (fun HT_ HW_ => ?_)
              generalize w89.drew = w90 at BK103 BK106 HB hHeld ⊢
              refine pureA 0 23 (bz 51 1) rfl rfl (any_of HT_.out (by kernel_rfl)) ?_
              refine takeA 1 24 (bz 51 3) rfl rfl (take_ofW HT_.out HW_.out (by kernel_rfl)) hHeld (by rintro w' ⟨s0, s1, s2, s3, s4, s5⟩; go_simp; with_reducible rfl) ?_
              refine one_ (i := 2) (N := some 25) (bz 51 7) rfl rfl (one_of HT_.out (by kernel_rfl)) (by decide) (fun K hK => ?_)
              refine goes_ Try.func51 (by kernel_rfl) rfl #[.int .i64 ((rd_T34 l0_1 x18_2).f0), .int .i64 0, .int .i64 999] (by rfl) rfl rfl aE ?_
              with_reducible refine (spec_l1In.calls ((rd_T34 l0_1 x18_2).f0) 0 999 true _ A13.out).mono ?_
              rintro e w' ⟨rfl, ⟨nd, rfl⟩⟩
              refine ⟨_, rfl, ?_⟩
              refine hK.out _ _ ⟨cz BK106 0 _, cz BK106 1 _, cz BK106 2 _, cz BK106 3 _, cz BK103 0 _, cz BK103 1 _⟩ (fun hHeld => ?_)
              clear hK K
              refine norm_ (a' := ?_) ?_ ?_
              rotate_left
              ·show Act.put _ (some 25) _ = _
               simp only [Act.put, List.setIfInBounds_toArray, List.set_cons_zero, List.set_cons_succ, i64_w, i32_w]
               rfl
              refine pureA 3 26 (bz 51 15) rfl rfl (any_of HT_.out (by kernel_rfl)) ?_
              refine pureA 4 27 (bz 51 31) rfl rfl (any_of HT_.out (by kernel_rfl)) ?_
              refine pureA 5 28 (bz 51 63) rfl rfl (any_of HT_.out (by kernel_rfl)) ?_
              refine pureA 6 29 (bz 51 127) rfl rfl (any_of HT_.out (by kernel_rfl)) ?_
              refine pureA 7 30 (bz 51 255) rfl rfl (any_of HT_.out (by kernel_rfl)) ?_
              refine pureU 8 31 (bz 51 511) rfl rfl (any_of HT_.out (by kernel_rfl)) ?_
              refine pureU 9 32 (bz 51 1023) rfl rfl (any_of HT_.out (by kernel_rfl)) ?_
              refine pureU 10 33 (bz 51 2047) rfl rfl (any_of HT_.out (by kernel_rfl)) ?_
              refine pureU 11 34 (bz 51 4095) rfl rfl (any_of HT_.out (by kernel_rfl)) ?_
              refine pureU 12 35 (bz 51 8191) rfl rfl (any_of HT_.out (by kernel_rfl)) ?_
              refine pureU 13 36 (bz 51 16383) rfl rfl (any_of HT_.out (by kernel_rfl)) ?_
              refine pureU 14 37 (bz 51 32767) rfl rfl (any_of HT_.out (by kernel_rfl)) ?_
              refine pureU 15 38 (bz 51 65535) rfl rfl (any_of HT_.out (by kernel_rfl)) ?_
              refine pureU 16 39 (bz 51 131071) rfl rfl (any_of HT_.out (by kernel_rfl)) ?_
              refine pureU 17 40 (bz 51 262143) rfl rfl (any_of HT_.out (by kernel_rfl)) ?_
              refine pureA 18 41 (bz 51 524287) rfl rfl (any_of HT_.out (by kernel_rfl)) ?_
              refine pureA 19 42 (bz 51 1048575) rfl rfl (any_of HT_.out (by kernel_rfl)) ?_
              refine pureA 20 43 (bz 51 2097151) rfl rfl (any_of HT_.out (by kernel_rfl)) ?_
              refine pureA 21 44 (bz 51 4194303) rfl rfl (any_of HT_.out (by kernel_rfl)) ?_
              refine pureA 23 46 (bz 51 12582911) rfl rfl (any_of HT_.out (by kernel_rfl)) ?_
              refine takeA 22 45 (bz 51 16777215) rfl rfl (take_ofW HT_.out HW_.out (by kernel_rfl)) hHeld (by rintro w' ⟨s0, s1, s2, s3, s4, s5⟩; go_simp; with_reducible rfl) ?_
              refine takeA 24 47 (bz 51 33554431) rfl rfl (take_ofW HT_.out HW_.out (by kernel_rfl)) hHeld (by rintro w' ⟨s0, s1, s2, s3, s4, s5⟩; go_simp; with_reducible rfl) ?_
              refine pureA 25 48 (bz 51 67108863) rfl rfl (any_of HT_.out (by kernel_rfl)) ?_
              refine one_ (i := 26) (N := some 49) (bz 51 134217727) rfl rfl (one_of HT_.out (by kernel_rfl)) (by decide) (fun K hK => ?_)
              refine goes_ Try.func51 (by kernel_rfl) rfl #[.int .i64 ((rd_T34 l0_1 x18_2).f1), .int .i64 (wrap64 (a0_0 + 1)), .int .i64 200000] (by rfl) rfl rfl aE ?_
              with_reducible refine (spec_l1In.calls ((rd_T34 l0_1 x18_2).f1) (wrap64 (a0_0 + 1)) 200000 true _ A63.out).mono ?_
              rintro e w' ⟨rfl, ⟨nd, rfl⟩⟩
              refine ⟨_, rfl, ?_⟩
              refine hK.out _ _ ⟨cz BK106 0 _, cz BK106 1 _, cz BK106 2 _, cz BK106 3 _, cz BK103 0 _, cz BK103 1 _⟩ (fun hHeld => ?_)
              clear hK K
              refine norm_ (a' := ?_) ?_ ?_
              rotate_left
              ·show Act.put _ (some 49) _ = _
               simp only [Act.put, List.setIfInBounds_toArray, List.set_cons_zero, List.set_cons_succ, i64_w, i32_w]
               rfl
              refine pureA 27 50 (bz 51 268435455) rfl rfl (any_of HT_.out (by kernel_rfl)) ?_
              refine pureA 28 51 (bz 51 536870911) rfl rfl (any_of HT_.out (by kernel_rfl)) ?_
              refine pureA 29 52 (bz 51 1073741823) rfl rfl (any_of HT_.out (by kernel_rfl)) ?_
              refine pureA 30 53 (bz 51 2147483647) rfl rfl (any_of HT_.out (by kernel_rfl)) ?_
              refine takeA 31 54 (bz 51 4294967295) rfl rfl (take_ofW HT_.out HW_.out (by kernel_rfl)) hHeld (by rintro w' ⟨s0, s1, s2, s3, s4, s5⟩; go_simp; with_reducible rfl) ?_
              refine one_ (i := 32) (N := some 55) (bz 51 8589934591) rfl rfl (one_of HT_.out (by kernel_rfl)) (by decide) (fun K hK => ?_)
              refine goes_ Try.func51 (by kernel_rfl) rfl #[.int .i64 ((rd_T34 l0_1 x18_2).f2), .int .i64 0, .int .i64 100000] (by rfl) rfl rfl aE ?_
              with_reducible refine (spec_l1In.calls ((rd_T34 l0_1 x18_2).f2) 0 100000 true _ A65.out).mono ?_
              rintro e w' ⟨rfl, ⟨nd, rfl⟩⟩
              refine ⟨_, rfl, ?_⟩
              refine hK.out _ _ ⟨cz BK106 0 _, cz BK106 1 _, cz BK106 2 _, cz BK106 3 _, cz BK103 0 _, cz BK103 1 _⟩ (fun hHeld => ?_)
              clear hK K
              refine norm_ (a' := ?_) ?_ ?_
              rotate_left
              ·show Act.put _ (some 55) _ = _
               simp only [Act.put, List.setIfInBounds_toArray, List.set_cons_zero, List.set_cons_succ, i64_w, i32_w]
               rfl
              refine pureA 33 56 (bz 51 17179869183) rfl rfl (any_of HT_.out (by kernel_rfl)) ?_
              refine pureA 34 57 (bz 51 34359738367) rfl rfl (any_of HT_.out (by kernel_rfl)) ?_
              refine pureA 35 58 (bz 51 68719476735) rfl rfl (any_of HT_.out (by kernel_rfl)) ?_
              refine pureA 36 59 (bz 51 137438953471) rfl rfl (any_of HT_.out (by kernel_rfl)) ?_
              refine takeA 37 60 (bz 51 274877906943) rfl rfl (take_ofW HT_.out HW_.out (by kernel_rfl)) hHeld (by rintro w' ⟨s0, s1, s2, s3, s4, s5⟩; go_simp; with_reducible rfl) ?_
              refine one_ (i := 38) (N := some 61) (bz 51 549755813887) rfl rfl (one_of HT_.out (by kernel_rfl)) (by decide) (fun K hK => ?_)
              refine goes_ Try.func51 (by kernel_rfl) rfl #[.int .i64 ((rd_T34 l0_1 x18_2).f3), .int .i64 1, .int .i64 1000] (by rfl) rfl rfl aE ?_
              with_reducible refine (spec_l1In.calls ((rd_T34 l0_1 x18_2).f3) 1 1000 false _ A67.out).mono ?_
              rintro e w' ⟨rfl, ⟨nd, rfl⟩⟩
              refine ⟨_, rfl, ?_⟩
              refine hK.out _ _ ⟨cz BK106 0 _, cz BK106 1 _, cz BK106 2 _, cz BK106 3 _, cz BK103 0 _, cz BK103 1 _⟩ (fun hHeld => ?_)
              clear hK K
              refine norm_ (a' := ?_) ?_ ?_
              rotate_left
              ·show Act.put _ (some 61) _ = _
               simp only [Act.put, List.setIfInBounds_toArray, List.set_cons_zero, List.set_cons_succ, i64_w, i32_w]
               rfl
              refine pureA 39 62 (bz 51 1099511627775) rfl rfl (any_of HT_.out (by kernel_rfl)) ?_
              refine pureA 40 63 (bz 51 2199023255551) rfl rfl (any_of HT_.out (by kernel_rfl)) ?_
              refine pureA 41 64 (bz 51 4398046511103) rfl rfl (any_of HT_.out (by kernel_rfl)) ?_
              refine pureU 42 65 (bz 51 8796093022207) rfl rfl (any_of HT_.out (by kernel_rfl)) ?_
              refine pureU 43 66 (bz 51 17592186044415) rfl rfl (any_of HT_.out (by kernel_rfl)) ?_
              refine pureU 44 67 (bz 51 35184372088831) rfl rfl (any_of HT_.out (by kernel_rfl)) ?_
              refine pureU 45 68 (bz 51 70368744177663) rfl rfl (any_of HT_.out (by kernel_rfl)) ?_
              refine pureU 46 69 (bz 51 140737488355327) rfl rfl (any_of HT_.out (by kernel_rfl)) ?_
              refine pureU 47 70 (bz 51 281474976710655) rfl rfl (any_of HT_.out (by kernel_rfl)) ?_
              refine pureU 48 71 (bz 51 562949953421311) rfl rfl (any_of HT_.out (by kernel_rfl)) ?_
              refine pureU 49 72 (bz 51 1125899906842623) rfl rfl (any_of HT_.out (by kernel_rfl)) ?_
              refine pureA 50 73 (bz 51 2251799813685247) rfl rfl (any_of HT_.out (by kernel_rfl)) ?_
              refine done_ (done_of HT_.out (by kernel_rfl)) ?_
              try go_wp2
              go_ret
              exact ⟨eE, lV2 GE103 GE106⟩
            ·replace c66 := Bool.eq_false_iff.mpr c66
             subst c66
             have H1 : (some false) = some r := by rw [if_neg (show ¬ (false = true) by decide)] at H; exact H
             clear H
             have H := H1
             clear H1
             obtain rfl := Option.some.inj H
             have p105 : 0 ≤ (x18_2 : Int) := of_decide_eq_true hE
             have q105 : x18_2 < (l0_1.length : Int) := of_decide_eq_true hE
             obtain ⟨ad105, e105, hx105_0, hx105_1, hx105_2, hx105_3⟩ := at_T34 HR0_1.out x18_2 p105 q105
             cases e105
             replace hx105_0 := (HB.out.cell (World.block_lt_of_cell? w _ hx105_0)).trans hx105_0
             replace hx105_1 := (HB.out.cell (World.block_lt_of_cell? w _ hx105_1)).trans hx105_1
             replace hx105_2 := (HB.out.cell (World.block_lt_of_cell? w _ hx105_2)).trans hx105_2
             replace hx105_3 := (HB.out.cell (World.block_lt_of_cell? w _ hx105_3)).trans hx105_3
             replace p105 := eq_true p105
             replace q105 := eq_true q105
             try go_wp2_with (first | ((with_reducible refine gate_dst (N := 4) rfl ?_); (try (refine gate_guard (by rfl) ?_; dsimp only)); refine box_event rfl (N := 4) rfl (cs := #[.int .i64 0, .int .i64 0, .int .i64 0, .int .i64 0]) (t := 34) sE ?_; intro gb106 hg w91 hbox hb; have BK106 := Aside0.mk hbox; have GW106 := gS w hg (lV1 GE103); have GE106 := gS w hg (lV1 GE103); replace HB := bH (lV1 GE103) hb; have NB103_106 := nL hg (bV BK103); have NB106_103 := nG hg (bV BK103); replace BK103 := bB (bV BK103) hb; clear hb hbox hg; have hnb92 := NB106_103.out; have hnc92 := NB103_106.out; have hcz93_0 := cz BK106 0 (.int .i64 0); have hcz93_1 := cz BK106 1 (.int .i64 0); have hcz93_2 := cz BK106 2 (.int .i64 0); have hcz93_3 := cz BK106 3 (.int .i64 0); have hfz93_0 := fz BK106 0; have hfz93_1 := fz BK106 1; have hfz93_2 := fz BK106 2; have hfz93_3 := fz BK106 3) | ((with_reducible refine gate_store (t := 34) (p := 4) rfl ?_); refine store_event (t := 34) (p := 4) (v := ?vo_w94) (w1 := ((((w91.setCell ⟨gb106, 0, none⟩ (.int .i64 ((rd_T34 l0_1 x18_2).f0))).setCell ⟨gb106, 1, none⟩ (.int .i64 ((rd_T34 l0_1 x18_2).f1))).setCell ⟨gb106, 2, none⟩ (.int .i64 ((rd_T34 l0_1 x18_2).f2))).setCell ⟨gb106, 3, none⟩ (.int .i64 ((rd_T34 l0_1 x18_2).f3)))) ?hg ?ho ?hn ?hr ?_; (case ho => rfl); (case hg => rfl); (case hn => rfl); (case hr => first | (go_simp; done) | (go_simp; rfl) | (have hq0_ := (blk_cell BK106.out 0).trans (show _ = some _ from rfl); have hf0_ := blk_frozen BK106.out 0; have hq1_ := (blk_cell BK106.out 1).trans (show _ = some _ from rfl); have hf1_ := blk_frozen BK106.out 1; have hq2_ := (blk_cell BK106.out 2).trans (show _ = some _ from rfl); have hf2_ := blk_frozen BK106.out 2; have hq3_ := (blk_cell BK106.out 3).trans (show _ = some _ from rfl); have hf3_ := blk_frozen BK106.out 3; first | (go_simp; done) | (go_simp; rfl))); intro w94 hw; replace BK103 : Aside0 (w94.heap[gb103]? = some (.cells #[.int .i64 a0_0, .slice (some ad105) l0_1.length c0_1] 30 (0, 0))) := ⟨(by rw [hw]; exact (bG NB103_106 BK103))⟩; replace BK106 : Aside0 (w94.heap[gb106]? = some (.cells #[.int .i64 ((rd_T34 l0_1 x18_2).f0), .int .i64 ((rd_T34 l0_1 x18_2).f1), .int .i64 ((rd_T34 l0_1 x18_2).f2), .int .i64 ((rd_T34 l0_1 x18_2).f3)] 34 (0, 0))) := ⟨(by rw [hw]; exact (by refine bU ?_; refine blk_put (cs := #[.int .i64 ((rd_T34 l0_1 x18_2).f0), .int .i64 ((rd_T34 l0_1 x18_2).f1), .int .i64 ((rd_T34 l0_1 x18_2).f2), .int .i64 0]) ?_ 3 _ rfl; refine bU ?_; refine blk_put (cs := #[.int .i64 ((rd_T34 l0_1 x18_2).f0), .int .i64 ((rd_T34 l0_1 x18_2).f1), .int .i64 0, .int .i64 0]) ?_ 2 _ rfl; refine bU ?_; refine blk_put (cs := #[.int .i64 ((rd_T34 l0_1 x18_2).f0), .int .i64 0, .int .i64 0, .int .i64 0]) ?_ 1 _ rfl; refine bU ?_; refine blk_put (cs := #[.int .i64 0, .int .i64 0, .int .i64 0, .int .i64 0]) ?_ 0 _ rfl; refine bU ?_; exact BK106.out))⟩; replace HB : Aside0 (Below w.heap.size w w94) := ⟨(by rw [hw]; exact (lV2 GE103 GE106))⟩; clear hw))
             replace BK103 := Aside0.mk (blk_drew BK103.out)
             replace BK106 := Aside0.mk (blk_drew BK106.out)
             replace HB := Aside0.mk (below_drew1 HB.out)
             refine start_ (n := 51) (S := fun w' => w'.cell? ⟨gb106, 0, none⟩ = some (.int .i64 ((rd_T34 l0_1 x18_2).f0)) ∧ w'.cell? ⟨gb106, 1, none⟩ = some (.int .i64 ((rd_T34 l0_1 x18_2).f1)) ∧ w'.cell? ⟨gb106, 2, none⟩ = some (.int .i64 ((rd_T34 l0_1 x18_2).f2)) ∧ w'.cell? ⟨gb106, 3, none⟩ = some (.int .i64 ((rd_T34 l0_1 x18_2).f3)) ∧ w'.cell? ⟨gb103, 0, none⟩ = some (.int .i64 a0_0) ∧ w'.cell? ⟨gb103, 1, none⟩ = some (.slice (some ad105) l0_1.length c0_1)) (ds := []) #[false, false, false, false, false, false, false, false, false, false, false, false, false, false, false, false, false, false, false, false, false, false, false, false, false, false, false, false, false, false, false, false, false, false, false, false, false, false, false, false, false, false, false, false, false, false, false, false, false, false, false] (by kernel_rfl) rfl rfl ⟨cz BK106 0 _, cz BK106 1 _, cz BK106 2 _, cz BK106 3 _, cz BK103 0 _, cz BK103 1 _⟩ (fun hHeld => ?_); refine with_tabW spec_GoodClock.tab6 spec_GoodClock.bits6 (fun HT_ HW_ => ?_)
             generalize w94.drew = w95 at BK103 BK106 HB hHeld ⊢
             refine pureA 0 23 (bz 51 1) rfl rfl (any_of HT_.out (by kernel_rfl)) ?_
             refine takeA 1 24 (bz 51 3) rfl rfl (take_ofW HT_.out HW_.out (by kernel_rfl)) hHeld (by rintro w' ⟨s0, s1, s2, s3, s4, s5⟩; go_simp; with_reducible rfl) ?_
             refine one_ (i := 2) (N := some 25) (bz 51 7) rfl rfl (one_of HT_.out (by kernel_rfl)) (by decide) (fun K hK => ?_)
             refine goes_ Try.func51 (by kernel_rfl) rfl #[.int .i64 ((rd_T34 l0_1 x18_2).f0), .int .i64 0, .int .i64 999] (by rfl) rfl rfl aE ?_
             with_reducible refine (spec_l1In.calls ((rd_T34 l0_1 x18_2).f0) 0 999 true _ A13.out).mono ?_
             rintro e w' ⟨rfl, ⟨nd, rfl⟩⟩
             refine ⟨_, rfl, ?_⟩
             refine hK.out _ _ ⟨cz BK106 0 _, cz BK106 1 _, cz BK106 2 _, cz BK106 3 _, cz BK103 0 _, cz BK103 1 _⟩ (fun hHeld => ?_)
             clear hK K
             refine norm_ (a' := ?_) ?_ ?_
             rotate_left
             ·show Act.put _ (some 25) _ = _
              simp only [Act.put, List.setIfInBounds_toArray, List.set_cons_zero, List.set_cons_succ, i64_w, i32_w]
              rfl
             refine pureA 3 26 (bz 51 15) rfl rfl (any_of HT_.out (by kernel_rfl)) ?_
             refine pureA 4 27 (bz 51 31) rfl rfl (any_of HT_.out (by kernel_rfl)) ?_
             refine pureA 5 28 (bz 51 63) rfl rfl (any_of HT_.out (by kernel_rfl)) ?_
             refine pureA 6 29 (bz 51 127) rfl rfl (any_of HT_.out (by kernel_rfl)) ?_
             refine pureA 7 30 (bz 51 255) rfl rfl (any_of HT_.out (by kernel_rfl)) ?_
             refine pureU 8 31 (bz 51 511) rfl rfl (any_of HT_.out (by kernel_rfl)) ?_
             refine pureU 9 32 (bz 51 1023) rfl rfl (any_of HT_.out (by kernel_rfl)) ?_
             refine pureU 10 33 (bz 51 2047) rfl rfl (any_of HT_.out (by kernel_rfl)) ?_
             refine pureU 11 34 (bz 51 4095) rfl rfl (any_of HT_.out (by kernel_rfl)) ?_
             refine pureU 12 35 (bz 51 8191) rfl rfl (any_of HT_.out (by kernel_rfl)) ?_
             refine pureU 13 36 (bz 51 16383) rfl rfl (any_of HT_.out (by kernel_rfl)) ?_
             refine pureU 14 37 (bz 51 32767) rfl rfl (any_of HT_.out (by kernel_rfl)) ?_
             refine pureU 15 38 (bz 51 65535) rfl rfl (any_of HT_.out (by kernel_rfl)) ?_
             refine pureU 16 39 (bz 51 131071) rfl rfl (any_of HT_.out (by kernel_rfl)) ?_
             refine pureU 17 40 (bz 51 262143) rfl rfl (any_of HT_.out (by kernel_rfl)) ?_
             refine pureA 18 41 (bz 51 524287) rfl rfl (any_of HT_.out (by kernel_rfl)) ?_
             refine pureA 19 42 (bz 51 1048575) rfl rfl (any_of HT_.out (by kernel_rfl)) ?_
             refine pureA 20 43 (bz 51 2097151) rfl rfl (any_of HT_.out (by kernel_rfl)) ?_
             refine pureA 21 44 (bz 51 4194303) rfl rfl (any_of HT_.out (by kernel_rfl)) ?_
             refine pureA 23 46 (bz 51 12582911) rfl rfl (any_of HT_.out (by kernel_rfl)) ?_
             refine takeA 22 45 (bz 51 16777215) rfl rfl (take_ofW HT_.out HW_.out (by kernel_rfl)) hHeld (by rintro w' ⟨s0, s1, s2, s3, s4, s5⟩; go_simp; with_reducible rfl) ?_
             refine takeA 24 47 (bz 51 33554431) rfl rfl (take_ofW HT_.out HW_.out (by kernel_rfl)) hHeld (by rintro w' ⟨s0, s1, s2, s3, s4, s5⟩; go_simp; with_reducible rfl) ?_
             refine pureA 25 48 (bz 51 67108863) rfl rfl (any_of HT_.out (by kernel_rfl)) ?_
             refine one_ (i := 26) (N := some 49) (bz 51 134217727) rfl rfl (one_of HT_.out (by kernel_rfl)) (by decide) (fun K hK => ?_)
             refine goes_ Try.func51 (by kernel_rfl) rfl #[.int .i64 ((rd_T34 l0_1 x18_2).f1), .int .i64 (wrap64 (a0_0 + 1)), .int .i64 200000] (by rfl) rfl rfl aE ?_
             with_reducible refine (spec_l1In.calls ((rd_T34 l0_1 x18_2).f1) (wrap64 (a0_0 + 1)) 200000 true _ A63.out).mono ?_
             rintro e w' ⟨rfl, ⟨nd, rfl⟩⟩
             refine ⟨_, rfl, ?_⟩
             refine hK.out _ _ ⟨cz BK106 0 _, cz BK106 1 _, cz BK106 2 _, cz BK106 3 _, cz BK103 0 _, cz BK103 1 _⟩ (fun hHeld => ?_)
             clear hK K
             refine norm_ (a' := ?_) ?_ ?_
             rotate_left
             ·show Act.put _ (some 49) _ = _
              simp only [Act.put, List.setIfInBounds_toArray, List.set_cons_zero, List.set_cons_succ, i64_w, i32_w]
              rfl
             refine pureA 27 50 (bz 51 268435455) rfl rfl (any_of HT_.out (by kernel_rfl)) ?_
             refine pureA 28 51 (bz 51 536870911) rfl rfl (any_of HT_.out (by kernel_rfl)) ?_
             refine pureA 29 52 (bz 51 1073741823) rfl rfl (any_of HT_.out (by kernel_rfl)) ?_
             refine pureA 30 53 (bz 51 2147483647) rfl rfl (any_of HT_.out (by kernel_rfl)) ?_
             refine takeA 31 54 (bz 51 4294967295) rfl rfl (take_ofW HT_.out HW_.out (by kernel_rfl)) hHeld (by rintro w' ⟨s0, s1, s2, s3, s4, s5⟩; go_simp; with_reducible rfl) ?_
             refine one_ (i := 32) (N := some 55) (bz 51 8589934591) rfl rfl (one_of HT_.out (by kernel_rfl)) (by decide) (fun K hK => ?_)
             refine goes_ Try.func51 (by kernel_rfl) rfl #[.int .i64 ((rd_T34 l0_1 x18_2).f2), .int .i64 0, .int .i64 100000] (by rfl) rfl rfl aE ?_
             with_reducible refine (spec_l1In.calls ((rd_T34 l0_1 x18_2).f2) 0 100000 false _ A65.out).mono ?_
             rintro e w' ⟨rfl, ⟨nd, rfl⟩⟩
             refine ⟨_, rfl, ?_⟩
             refine hK.out _ _ ⟨cz BK106 0 _, cz BK106 1 _, cz BK106 2 _, cz BK106 3 _, cz BK103 0 _, cz BK103 1 _⟩ (fun hHeld => ?_)
             clear hK K
             refine norm_ (a' := ?_) ?_ ?_
             rotate_left
             ·show Act.put _ (some 55) _ = _
              simp only [Act.put, List.setIfInBounds_toArray, List.set_cons_zero, List.set_cons_succ, i64_w, i32_w]
              rfl
             refine pureA 33 56 (bz 51 17179869183) rfl rfl (any_of HT_.out (by kernel_rfl)) ?_
             refine pureA 34 57 (bz 51 34359738367) rfl rfl (any_of HT_.out (by kernel_rfl)) ?_
             refine pureA 35 58 (bz 51 68719476735) rfl rfl (any_of HT_.out (by kernel_rfl)) ?_
             refine pureU 36 59 (bz 51 137438953471) rfl rfl (any_of HT_.out (by kernel_rfl)) ?_
             refine pureU 37 60 (bz 51 274877906943) rfl rfl (any_of HT_.out (by kernel_rfl)) ?_
             refine pureU 38 61 (bz 51 549755813887) rfl rfl (any_of HT_.out (by kernel_rfl)) ?_
             refine pureU 39 62 (bz 51 1099511627775) rfl rfl (any_of HT_.out (by kernel_rfl)) ?_
             refine pureA 40 63 (bz 51 2199023255551) rfl rfl (any_of HT_.out (by kernel_rfl)) ?_
             refine pureA 41 64 (bz 51 4398046511103) rfl rfl (any_of HT_.out (by kernel_rfl)) ?_
             refine pureU 42 65 (bz 51 8796093022207) rfl rfl (any_of HT_.out (by kernel_rfl)) ?_
             refine pureU 43 66 (bz 51 17592186044415) rfl rfl (any_of HT_.out (by kernel_rfl)) ?_
             refine pureU 44 67 (bz 51 35184372088831) rfl rfl (any_of HT_.out (by kernel_rfl)) ?_
             refine pureU 45 68 (bz 51 70368744177663) rfl rfl (any_of HT_.out (by kernel_rfl)) ?_
             refine pureU 46 69 (bz 51 140737488355327) rfl rfl (any_of HT_.out (by kernel_rfl)) ?_
             refine pureU 47 70 (bz 51 281474976710655) rfl rfl (any_of HT_.out (by kernel_rfl)) ?_
             refine pureU 48 71 (bz 51 562949953421311) rfl rfl (any_of HT_.out (by kernel_rfl)) ?_
             refine pureU 49 72 (bz 51 1125899906842623) rfl rfl (any_of HT_.out (by kernel_rfl)) ?_
             refine pureA 50 73 (bz 51 2251799813685247) rfl rfl (any_of HT_.out (by kernel_rfl)) ?_
             refine done_ (done_of HT_.out (by kernel_rfl)) ?_
             try go_wp2
             go_ret
             exact ⟨eE, lV2 GE103 GE106⟩
           ·replace c64 := Bool.eq_false_iff.mpr c64
            subst c64
            have H1 : (some false) = some r := by rw [if_neg (show ¬ (false = true) by decide)] at H; exact H
            clear H
            have H := H1
            clear H1
            obtain rfl := Option.some.inj H
            have p105 : 0 ≤ (x18_2 : Int) := of_decide_eq_true hE
            have q105 : x18_2 < (l0_1.length : Int) := of_decide_eq_true hE
            obtain ⟨ad105, e105, hx105_0, hx105_1, hx105_2, hx105_3⟩ := at_T34 HR0_1.out x18_2 p105 q105
            cases e105
            replace hx105_0 := (HB.out.cell (World.block_lt_of_cell? w _ hx105_0)).trans hx105_0
            replace hx105_1 := (HB.out.cell (World.block_lt_of_cell? w _ hx105_1)).trans hx105_1
            replace hx105_2 := (HB.out.cell (World.block_lt_of_cell? w _ hx105_2)).trans hx105_2
            replace hx105_3 := (HB.out.cell (World.block_lt_of_cell? w _ hx105_3)).trans hx105_3
            replace p105 := eq_true p105
            replace q105 := eq_true q105
            try go_wp2_with (first | ((with_reducible refine gate_dst (N := 4) rfl ?_); (try (refine gate_guard (by rfl) ?_; dsimp only)); refine box_event rfl (N := 4) rfl (cs := #[.int .i64 0, .int .i64 0, .int .i64 0, .int .i64 0]) (t := 34) sE ?_; intro gb106 hg w96 hbox hb; have BK106 := Aside0.mk hbox; have GW106 := gS w hg (lV1 GE103); have GE106 := gS w hg (lV1 GE103); replace HB := bH (lV1 GE103) hb; have NB103_106 := nL hg (bV BK103); have NB106_103 := nG hg (bV BK103); replace BK103 := bB (bV BK103) hb; clear hb hbox hg; have hnb97 := NB106_103.out; have hnc97 := NB103_106.out; have hcz98_0 := cz BK106 0 (.int .i64 0); have hcz98_1 := cz BK106 1 (.int .i64 0); have hcz98_2 := cz BK106 2 (.int .i64 0); have hcz98_3 := cz BK106 3 (.int .i64 0); have hfz98_0 := fz BK106 0; have hfz98_1 := fz BK106 1; have hfz98_2 := fz BK106 2; have hfz98_3 := fz BK106 3) | ((with_reducible refine gate_store (t := 34) (p := 4) rfl ?_); refine store_event (t := 34) (p := 4) (v := ?vo_w99) (w1 := ((((w96.setCell ⟨gb106, 0, none⟩ (.int .i64 ((rd_T34 l0_1 x18_2).f0))).setCell ⟨gb106, 1, none⟩ (.int .i64 ((rd_T34 l0_1 x18_2).f1))).setCell ⟨gb106, 2, none⟩ (.int .i64 ((rd_T34 l0_1 x18_2).f2))).setCell ⟨gb106, 3, none⟩ (.int .i64 ((rd_T34 l0_1 x18_2).f3)))) ?hg ?ho ?hn ?hr ?_; (case ho => rfl); (case hg => rfl); (case hn => rfl); (case hr => first | (go_simp; done) | (go_simp; rfl) | (have hq0_ := (blk_cell BK106.out 0).trans (show _ = some _ from rfl); have hf0_ := blk_frozen BK106.out 0; have hq1_ := (blk_cell BK106.out 1).trans (show _ = some _ from rfl); have hf1_ := blk_frozen BK106.out 1; have hq2_ := (blk_cell BK106.out 2).trans (show _ = some _ from rfl); have hf2_ := blk_frozen BK106.out 2; have hq3_ := (blk_cell BK106.out 3).trans (show _ = some _ from rfl); have hf3_ := blk_frozen BK106.out 3; first | (go_simp; done) | (go_simp; rfl))); intro w99 hw; replace BK103 : Aside0 (w99.heap[gb103]? = some (.cells #[.int .i64 a0_0, .slice (some ad105) l0_1.length c0_1] 30 (0, 0))) := ⟨(by rw [hw]; exact (bG NB103_106 BK103))⟩; replace BK106 : Aside0 (w99.heap[gb106]? = some (.cells #[.int .i64 ((rd_T34 l0_1 x18_2).f0), .int .i64 ((rd_T34 l0_1 x18_2).f1), .int .i64 ((rd_T34 l0_1 x18_2).f2), .int .i64 ((rd_T34 l0_1 x18_2).f3)] 34 (0, 0))) := ⟨(by rw [hw]; exact (by refine bU ?_; refine blk_put (cs := #[.int .i64 ((rd_T34 l0_1 x18_2).f0), .int .i64 ((rd_T34 l0_1 x18_2).f1), .int .i64 ((rd_T34 l0_1 x18_2).f2), .int .i64 0]) ?_ 3 _ rfl; refine bU ?_; refine blk_put (cs := #[.int .i64 ((rd_T34 l0_1 x18_2).f0), .int .i64 ((rd_T34 l0_1 x18_2).f1), .int .i64 0, .int .i64 0]) ?_ 2 _ rfl; refine bU ?_; refine blk_put (cs := #[.int .i64 ((rd_T34 l0_1 x18_2).f0), .int .i64 0, .int .i64 0, .int .i64 0]) ?_ 1 _ rfl; refine bU ?_; refine blk_put (cs := #[.int .i64 0, .int .i64 0, .int .i64 0, .int .i64 0]) ?_ 0 _ rfl; refine bU ?_; exact BK106.out))⟩; replace HB : Aside0 (Below w.heap.size w w99) := ⟨(by rw [hw]; exact (lV2 GE103 GE106))⟩; clear hw))
            replace BK103 := Aside0.mk (blk_drew BK103.out)
            replace BK106 := Aside0.mk (blk_drew BK106.out)
            replace HB := Aside0.mk (below_drew1 HB.out)
            refine start_ (n := 51) (S := fun w' => w'.cell? ⟨gb106, 0, none⟩ = some (.int .i64 ((rd_T34 l0_1 x18_2).f0)) ∧ w'.cell? ⟨gb106, 1, none⟩ = some (.int .i64 ((rd_T34 l0_1 x18_2).f1)) ∧ w'.cell? ⟨gb106, 2, none⟩ = some (.int .i64 ((rd_T34 l0_1 x18_2).f2)) ∧ w'.cell? ⟨gb106, 3, none⟩ = some (.int .i64 ((rd_T34 l0_1 x18_2).f3)) ∧ w'.cell? ⟨gb103, 0, none⟩ = some (.int .i64 a0_0) ∧ w'.cell? ⟨gb103, 1, none⟩ = some (.slice (some ad105) l0_1.length c0_1)) (ds := []) #[false, false, false, false, false, false, false, false, false, false, false, false, false, false, false, false, false, false, false, false, false, false, false, false, false, false, false, false, false, false, false, false, false, false, false, false, false, false, false, false, false, false, false, false, false, false, false, false, false, false, false] (by kernel_rfl) rfl rfl ⟨cz BK106 0 _, cz BK106 1 _, cz BK106 2 _, cz BK106 3 _, cz BK103 0 _, cz BK103 1 _⟩ (fun hHeld => ?_); refine with_tabW spec_GoodClock.tab6 spec_GoodClock.bits6 (fun HT_ HW_ => ?_)
            generalize w99.drew = w100 at BK103 BK106 HB hHeld ⊢
            refine pureA 0 23 (bz 51 1) rfl rfl (any_of HT_.out (by kernel_rfl)) ?_
            refine takeA 1 24 (bz 51 3) rfl rfl (take_ofW HT_.out HW_.out (by kernel_rfl)) hHeld (by rintro w' ⟨s0, s1, s2, s3, s4, s5⟩; go_simp; with_reducible rfl) ?_
            refine one_ (i := 2) (N := some 25) (bz 51 7) rfl rfl (one_of HT_.out (by kernel_rfl)) (by decide) (fun K hK => ?_)
            refine goes_ Try.func51 (by kernel_rfl) rfl #[.int .i64 ((rd_T34 l0_1 x18_2).f0), .int .i64 0, .int .i64 999] (by rfl) rfl rfl aE ?_
            with_reducible refine (spec_l1In.calls ((rd_T34 l0_1 x18_2).f0) 0 999 true _ A13.out).mono ?_
            rintro e w' ⟨rfl, ⟨nd, rfl⟩⟩
            refine ⟨_, rfl, ?_⟩
            refine hK.out _ _ ⟨cz BK106 0 _, cz BK106 1 _, cz BK106 2 _, cz BK106 3 _, cz BK103 0 _, cz BK103 1 _⟩ (fun hHeld => ?_)
            clear hK K
            refine norm_ (a' := ?_) ?_ ?_
            rotate_left
            ·show Act.put _ (some 25) _ = _
             simp only [Act.put, List.setIfInBounds_toArray, List.set_cons_zero, List.set_cons_succ, i64_w, i32_w]
             rfl
            refine pureA 3 26 (bz 51 15) rfl rfl (any_of HT_.out (by kernel_rfl)) ?_
            refine pureA 4 27 (bz 51 31) rfl rfl (any_of HT_.out (by kernel_rfl)) ?_
            refine pureA 5 28 (bz 51 63) rfl rfl (any_of HT_.out (by kernel_rfl)) ?_
            refine pureA 6 29 (bz 51 127) rfl rfl (any_of HT_.out (by kernel_rfl)) ?_
            refine pureA 7 30 (bz 51 255) rfl rfl (any_of HT_.out (by kernel_rfl)) ?_
            refine pureU 8 31 (bz 51 511) rfl rfl (any_of HT_.out (by kernel_rfl)) ?_
            refine pureU 9 32 (bz 51 1023) rfl rfl (any_of HT_.out (by kernel_rfl)) ?_
            refine pureU 10 33 (bz 51 2047) rfl rfl (any_of HT_.out (by kernel_rfl)) ?_
            refine pureU 11 34 (bz 51 4095) rfl rfl (any_of HT_.out (by kernel_rfl)) ?_
            refine pureU 12 35 (bz 51 8191) rfl rfl (any_of HT_.out (by kernel_rfl)) ?_
            refine pureU 13 36 (bz 51 16383) rfl rfl (any_of HT_.out (by kernel_rfl)) ?_
            refine pureU 14 37 (bz 51 32767) rfl rfl (any_of HT_.out (by kernel_rfl)) ?_
            refine pureU 15 38 (bz 51 65535) rfl rfl (any_of HT_.out (by kernel_rfl)) ?_
            refine pureU 16 39 (bz 51 131071) rfl rfl (any_of HT_.out (by kernel_rfl)) ?_
            refine pureU 17 40 (bz 51 262143) rfl rfl (any_of HT_.out (by kernel_rfl)) ?_
            refine pureA 18 41 (bz 51 524287) rfl rfl (any_of HT_.out (by kernel_rfl)) ?_
            refine pureA 19 42 (bz 51 1048575) rfl rfl (any_of HT_.out (by kernel_rfl)) ?_
            refine pureA 20 43 (bz 51 2097151) rfl rfl (any_of HT_.out (by kernel_rfl)) ?_
            refine pureA 21 44 (bz 51 4194303) rfl rfl (any_of HT_.out (by kernel_rfl)) ?_
            refine pureA 23 46 (bz 51 12582911) rfl rfl (any_of HT_.out (by kernel_rfl)) ?_
            refine takeA 22 45 (bz 51 16777215) rfl rfl (take_ofW HT_.out HW_.out (by kernel_rfl)) hHeld (by rintro w' ⟨s0, s1, s2, s3, s4, s5⟩; go_simp; with_reducible rfl) ?_
            refine takeA 24 47 (bz 51 33554431) rfl rfl (take_ofW HT_.out HW_.out (by kernel_rfl)) hHeld (by rintro w' ⟨s0, s1, s2, s3, s4, s5⟩; go_simp; with_reducible rfl) ?_
            refine pureA 25 48 (bz 51 67108863) rfl rfl (any_of HT_.out (by kernel_rfl)) ?_
            refine one_ (i := 26) (N := some 49) (bz 51 134217727) rfl rfl (one_of HT_.out (by kernel_rfl)) (by decide) (fun K hK => ?_)
            refine goes_ Try.func51 (by kernel_rfl) rfl #[.int .i64 ((rd_T34 l0_1 x18_2).f1), .int .i64 (wrap64 (a0_0 + 1)), .int .i64 200000] (by rfl) rfl rfl aE ?_
            with_reducible refine (spec_l1In.calls ((rd_T34 l0_1 x18_2).f1) (wrap64 (a0_0 + 1)) 200000 false _ A63.out).mono ?_
            rintro e w' ⟨rfl, ⟨nd, rfl⟩⟩
            refine ⟨_, rfl, ?_⟩
            refine hK.out _ _ ⟨cz BK106 0 _, cz BK106 1 _, cz BK106 2 _, cz BK106 3 _, cz BK103 0 _, cz BK103 1 _⟩ (fun hHeld => ?_)
            clear hK K
            refine norm_ (a' := ?_) ?_ ?_
            rotate_left
            ·show Act.put _ (some 49) _ = _
             simp only [Act.put, List.setIfInBounds_toArray, List.set_cons_zero, List.set_cons_succ, i64_w, i32_w]
             rfl
            refine pureA 27 50 (bz 51 268435455) rfl rfl (any_of HT_.out (by kernel_rfl)) ?_
            refine pureA 28 51 (bz 51 536870911) rfl rfl (any_of HT_.out (by kernel_rfl)) ?_
            refine pureA 29 52 (bz 51 1073741823) rfl rfl (any_of HT_.out (by kernel_rfl)) ?_
            refine pureU 30 53 (bz 51 2147483647) rfl rfl (any_of HT_.out (by kernel_rfl)) ?_
            refine pureU 31 54 (bz 51 4294967295) rfl rfl (any_of HT_.out (by kernel_rfl)) ?_
            refine pureU 32 55 (bz 51 8589934591) rfl rfl (any_of HT_.out (by kernel_rfl)) ?_
            refine pureU 33 56 (bz 51 17179869183) rfl rfl (any_of HT_.out (by kernel_rfl)) ?_
            refine pureA 34 57 (bz 51 34359738367) rfl rfl (any_of HT_.out (by kernel_rfl)) ?_
            refine pureA 35 58 (bz 51 68719476735) rfl rfl (any_of HT_.out (by kernel_rfl)) ?_
            refine pureU 36 59 (bz 51 137438953471) rfl rfl (any_of HT_.out (by kernel_rfl)) ?_
            refine pureU 37 60 (bz 51 274877906943) rfl rfl (any_of HT_.out (by kernel_rfl)) ?_
            refine pureU 38 61 (bz 51 549755813887) rfl rfl (any_of HT_.out (by kernel_rfl)) ?_
            refine pureU 39 62 (bz 51 1099511627775) rfl rfl (any_of HT_.out (by kernel_rfl)) ?_
            refine pureA 40 63 (bz 51 2199023255551) rfl rfl (any_of HT_.out (by kernel_rfl)) ?_
            refine pureA 41 64 (bz 51 4398046511103) rfl rfl (any_of HT_.out (by kernel_rfl)) ?_
            refine pureU 42 65 (bz 51 8796093022207) rfl rfl (any_of HT_.out (by kernel_rfl)) ?_
            refine pureU 43 66 (bz 51 17592186044415) rfl rfl (any_of HT_.out (by kernel_rfl)) ?_
            refine pureU 44 67 (bz 51 35184372088831) rfl rfl (any_of HT_.out (by kernel_rfl)) ?_
            refine pureU 45 68 (bz 51 70368744177663) rfl rfl (any_of HT_.out (by kernel_rfl)) ?_
            refine pureU 46 69 (bz 51 140737488355327) rfl rfl (any_of HT_.out (by kernel_rfl)) ?_
            refine pureU 47 70 (bz 51 281474976710655) rfl rfl (any_of HT_.out (by kernel_rfl)) ?_
            refine pureU 48 71 (bz 51 562949953421311) rfl rfl (any_of HT_.out (by kernel_rfl)) ?_
            refine pureU 49 72 (bz 51 1125899906842623) rfl rfl (any_of HT_.out (by kernel_rfl)) ?_
            refine pureA 50 73 (bz 51 2251799813685247) rfl rfl (any_of HT_.out (by kernel_rfl)) ?_
            refine done_ (done_of HT_.out (by kernel_rfl)) ?_
            try go_wp2
            go_ret
            exact ⟨eE, lV2 GE103 GE106⟩
         ·replace c14 := Bool.eq_false_iff.mpr c14
          subst c14
          have H1 : (some false) = some r := by rw [if_neg (show ¬ (false = true) by decide)] at H; exact H
          clear H
          have H := H1
          clear H1
          obtain rfl := Option.some.inj H
          have p105 : 0 ≤ (x18_2 : Int) := of_decide_eq_true hE
          have q105 : x18_2 < (l0_1.length : Int) := of_decide_eq_true hE
          obtain ⟨ad105, e105, hx105_0, hx105_1, hx105_2, hx105_3⟩ := at_T34 HR0_1.out x18_2 p105 q105
          cases e105
          replace hx105_0 := (HB.out.cell (World.block_lt_of_cell? w _ hx105_0)).trans hx105_0
          replace hx105_1 := (HB.out.cell (World.block_lt_of_cell? w _ hx105_1)).trans hx105_1
          replace hx105_2 := (HB.out.cell (World.block_lt_of_cell? w _ hx105_2)).trans hx105_2
          replace hx105_3 := (HB.out.cell (World.block_lt_of_cell? w _ hx105_3)).trans hx105_3
          replace p105 := eq_true p105
          replace q105 := eq_true q105
          try go_wp2_with (first | ((with_reducible refine gate_dst (N := 4) rfl ?_); (try (refine gate_guard (by rfl) ?_; dsimp only)); refine box_event rfl (N := 4) rfl (cs := #[.int .i64 0, .int .i64 0, .int .i64 0, .int .i64 0]) (t := 34) sE ?_; intro gb106 hg w101 hbox hb; have BK106 := Aside0.mk hbox; have GW106 := gS w hg (lV1 GE103); have GE106 := gS w hg (lV1 GE103); replace HB := bH (lV1 GE103) hb; have NB103_106 := nL hg (bV BK103); have NB106_103 := nG hg (bV BK103); replace BK103 := bB (bV BK103) hb; clear hb hbox hg; have hnb102 := NB106_103.out; have hnc102 := NB103_106.out; have hcz103_0 := cz BK106 0 (.int .i64 0); have hcz103_1 := cz BK106 1 (.int .i64 0); have hcz103_2 := cz BK106 2 (.int .i64 0); have hcz103_3 := cz BK106 3 (.int .i64 0); have hfz103_0 := fz BK106 0; have hfz103_1 := fz BK106 1; have hfz103_2 := fz BK106 2; have hfz103_3 := fz BK106 3) | ((with_reducible refine gate_store (t := 34) (p := 4) rfl ?_); refine store_event (t := 34) (p := 4) (v := ?vo_w104) (w1 := ((((w101.setCell ⟨gb106, 0, none⟩ (.int .i64 ((rd_T34 l0_1 x18_2).f0))).setCell ⟨gb106, 1, none⟩ (.int .i64 ((rd_T34 l0_1 x18_2).f1))).setCell ⟨gb106, 2, none⟩ (.int .i64 ((rd_T34 l0_1 x18_2).f2))).setCell ⟨gb106, 3, none⟩ (.int .i64 ((rd_T34 l0_1 x18_2).f3)))) ?hg ?ho ?hn ?hr ?_; (case ho => rfl); (case hg => rfl); (case hn => rfl); (case hr => first | (go_simp; done) | (go_simp; rfl) | (have hq0_ := (blk_cell BK106.out 0).trans (show _ = some _ from rfl); have hf0_ := blk_frozen BK106.out 0; have hq1_ := (blk_cell BK106.out 1).trans (show _ = some _ from rfl); have hf1_ := blk_frozen BK106.out 1; have hq2_ := (blk_cell BK106.out 2).trans (show _ = some _ from rfl); have hf2_ := blk_frozen BK106.out 2; have hq3_ := (blk_cell BK106.out 3).trans (show _ = some _ from rfl); have hf3_ := blk_frozen BK106.out 3; first | (go_simp; done) | (go_simp; rfl))); intro w104 hw; replace BK103 : Aside0 (w104.heap[gb103]? = some (.cells #[.int .i64 a0_0, .slice (some ad105) l0_1.length c0_1] 30 (0, 0))) := ⟨(by rw [hw]; exact (bG NB103_106 BK103))⟩; replace BK106 : Aside0 (w104.heap[gb106]? = some (.cells #[.int .i64 ((rd_T34 l0_1 x18_2).f0), .int .i64 ((rd_T34 l0_1 x18_2).f1), .int .i64 ((rd_T34 l0_1 x18_2).f2), .int .i64 ((rd_T34 l0_1 x18_2).f3)] 34 (0, 0))) := ⟨(by rw [hw]; exact (by refine bU ?_; refine blk_put (cs := #[.int .i64 ((rd_T34 l0_1 x18_2).f0), .int .i64 ((rd_T34 l0_1 x18_2).f1), .int .i64 ((rd_T34 l0_1 x18_2).f2), .int .i64 0]) ?_ 3 _ rfl; refine bU ?_; refine blk_put (cs := #[.int .i64 ((rd_T34 l0_1 x18_2).f0), .int .i64 ((rd_T34 l0_1 x18_2).f1), .int .i64 0, .int .i64 0]) ?_ 2 _ rfl; refine bU ?_; refine blk_put (cs := #[.int .i64 ((rd_T34 l0_1 x18_2).f0), .int .i64 0, .int .i64 0, .int .i64 0]) ?_ 1 _ rfl; refine bU ?_; refine blk_put (cs := #[.int .i64 0, .int .i64 0, .int .i64 0, .int .i64 0]) ?_ 0 _ rfl; refine bU ?_; exact BK106.out))⟩; replace HB : Aside0 (Below w.heap.size w w104) := ⟨(by rw [hw]; exact (lV2 GE103 GE106))⟩; clear hw))
          replace BK103 := Aside0.mk (blk_drew BK103.out)
          replace BK106 := Aside0.mk (blk_drew BK106.out)
          replace HB := Aside0.mk (below_drew1 HB.out)
          refine start_ (n := 51) (S := fun w' => w'.cell? ⟨gb106, 0, none⟩ = some (.int .i64 ((rd_T34 l0_1 x18_2).f0)) ∧ w'.cell? ⟨gb106, 1, none⟩ = some (.int .i64 ((rd_T34 l0_1 x18_2).f1)) ∧ w'.cell? ⟨gb106, 2, none⟩ = some (.int .i64 ((rd_T34 l0_1 x18_2).f2)) ∧ w'.cell? ⟨gb106, 3, none⟩ = some (.int .i64 ((rd_T34 l0_1 x18_2).f3))) (ds := []) #[false, false, false, false, false, false, false, false, false, false, false, false, false, false, false, false, false, false, false, false, false, false, false, false, false, false, false, false, false, false, false, false, false, false, false, false, false, false, false, false, false, false, false, false, false, false, false, false, false, false, false] (by kernel_rfl) rfl rfl ⟨cz BK106 0 _, cz BK106 1 _, cz BK106 2 _, cz BK106 3 _⟩ (fun hHeld => ?_); refine with_tabW spec_GoodClock.tab6 spec_GoodClock.bits6 (fun HT_ HW_ => ?_)
          generalize w104.drew = w105 at BK103 BK106 HB hHeld ⊢
          refine pureA 0 23 (bz 51 1) rfl rfl (any_of HT_.out (by kernel_rfl)) ?_
          refine takeA 1 24 (bz 51 3) rfl rfl (take_ofW HT_.out HW_.out (by kernel_rfl)) hHeld (by rintro w' ⟨s0, s1, s2, s3⟩; go_simp; with_reducible rfl) ?_
          refine one_ (i := 2) (N := some 25) (bz 51 7) rfl rfl (one_of HT_.out (by kernel_rfl)) (by decide) (fun K hK => ?_)
          refine goes_ Try.func51 (by kernel_rfl) rfl #[.int .i64 ((rd_T34 l0_1 x18_2).f0), .int .i64 0, .int .i64 999] (by rfl) rfl rfl aE ?_
          with_reducible refine (spec_l1In.calls ((rd_T34 l0_1 x18_2).f0) 0 999 false _ A13.out).mono ?_
          rintro e w' ⟨rfl, ⟨nd, rfl⟩⟩
          refine ⟨_, rfl, ?_⟩
          refine hK.out _ _ ⟨cz BK106 0 _, cz BK106 1 _, cz BK106 2 _, cz BK106 3 _⟩ (fun hHeld => ?_)
          clear hK K
          refine norm_ (a' := ?_) ?_ ?_
          rotate_left
          ·show Act.put _ (some 25) _ = _
           simp only [Act.put, List.setIfInBounds_toArray, List.set_cons_zero, List.set_cons_succ, i64_w, i32_w]
           rfl
          refine pureA 3 26 (bz 51 15) rfl rfl (any_of HT_.out (by kernel_rfl)) ?_
          refine pureA 4 27 (bz 51 31) rfl rfl (any_of HT_.out (by kernel_rfl)) ?_
          refine pureU 5 28 (bz 51 63) rfl rfl (any_of HT_.out (by kernel_rfl)) ?_
          refine pureU 6 29 (bz 51 127) rfl rfl (any_of HT_.out (by kernel_rfl)) ?_
          refine pureU 7 30 (bz 51 255) rfl rfl (any_of HT_.out (by kernel_rfl)) ?_
          refine pureU 8 31 (bz 51 511) rfl rfl (any_of HT_.out (by kernel_rfl)) ?_
          refine pureU 9 32 (bz 51 1023) rfl rfl (any_of HT_.out (by kernel_rfl)) ?_
          refine pureU 10 33 (bz 51 2047) rfl rfl (any_of HT_.out (by kernel_rfl)) ?_
          refine pureU 11 34 (bz 51 4095) rfl rfl (any_of HT_.out (by kernel_rfl)) ?_
          refine pureU 12 35 (bz 51 8191) rfl rfl (any_of HT_.out (by kernel_rfl)) ?_
          refine pureU 13 36 (bz 51 16383) rfl rfl (any_of HT_.out (by kernel_rfl)) ?_
          refine pureU 14 37 (bz 51 32767) rfl rfl (any_of HT_.out (by kernel_rfl)) ?_
          refine pureU 15 38 (bz 51 65535) rfl rfl (any_of HT_.out (by kernel_rfl)) ?_
          refine pureU 16 39 (bz 51 131071) rfl rfl (any_of HT_.out (by kernel_rfl)) ?_
          refine pureU 17 40 (bz 51 262143) rfl rfl (any_of HT_.out (by kernel_rfl)) ?_
          refine pureU 18 41 (bz 51 524287) rfl rfl (any_of HT_.out (by kernel_rfl)) ?_
          refine pureA 19 42 (bz 51 1048575) rfl rfl (any_of HT_.out (by kernel_rfl)) ?_
          refine pureA 20 43 (bz 51 2097151) rfl rfl (any_of HT_.out (by kernel_rfl)) ?_
          refine pureU 21 44 (bz 51 4194303) rfl rfl (any_of HT_.out (by kernel_rfl)) ?_
          refine pureU 22 45 (bz 51 8388607) rfl rfl (any_of HT_.out (by kernel_rfl)) ?_
          refine pureU 23 46 (bz 51 16777215) rfl rfl (any_of HT_.out (by kernel_rfl)) ?_
          refine pureU 24 47 (bz 51 33554431) rfl rfl (any_of HT_.out (by kernel_rfl)) ?_
          refine pureU 25 48 (bz 51 67108863) rfl rfl (any_of HT_.out (by kernel_rfl)) ?_
          refine pureU 26 49 (bz 51 134217727) rfl rfl (any_of HT_.out (by kernel_rfl)) ?_
          refine pureU 27 50 (bz 51 268435455) rfl rfl (any_of HT_.out (by kernel_rfl)) ?_
          refine pureA 28 51 (bz 51 536870911) rfl rfl (any_of HT_.out (by kernel_rfl)) ?_
          refine pureA 29 52 (bz 51 1073741823) rfl rfl (any_of HT_.out (by kernel_rfl)) ?_
          refine pureU 30 53 (bz 51 2147483647) rfl rfl (any_of HT_.out (by kernel_rfl)) ?_
          refine pureU 31 54 (bz 51 4294967295) rfl rfl (any_of HT_.out (by kernel_rfl)) ?_
          refine pureU 32 55 (bz 51 8589934591) rfl rfl (any_of HT_.out (by kernel_rfl)) ?_
          refine pureU 33 56 (bz 51 17179869183) rfl rfl (any_of HT_.out (by kernel_rfl)) ?_
          refine pureA 34 57 (bz 51 34359738367) rfl rfl (any_of HT_.out (by kernel_rfl)) ?_
          refine pureA 35 58 (bz 51 68719476735) rfl rfl (any_of HT_.out (by kernel_rfl)) ?_
          refine pureU 36 59 (bz 51 137438953471) rfl rfl (any_of HT_.out (by kernel_rfl)) ?_
          refine pureU 37 60 (bz 51 274877906943) rfl rfl (any_of HT_.out (by kernel_rfl)) ?_
          refine pureU 38 61 (bz 51 549755813887) rfl rfl (any_of HT_.out (by kernel_rfl)) ?_
          refine pureU 39 62 (bz 51 1099511627775) rfl rfl (any_of HT_.out (by kernel_rfl)) ?_
          refine pureA 40 63 (bz 51 2199023255551) rfl rfl (any_of HT_.out (by kernel_rfl)) ?_
          refine pureA 41 64 (bz 51 4398046511103) rfl rfl (any_of HT_.out (by kernel_rfl)) ?_
          refine pureU 42 65 (bz 51 8796093022207) rfl rfl (any_of HT_.out (by kernel_rfl)) ?_
          refine pureU 43 66 (bz 51 17592186044415) rfl rfl (any_of HT_.out (by kernel_rfl)) ?_
          refine pureU 44 67 (bz 51 35184372088831) rfl rfl (any_of HT_.out (by kernel_rfl)) ?_
          refine pureU 45 68 (bz 51 70368744177663) rfl rfl (any_of HT_.out (by kernel_rfl)) ?_
          refine pureU 46 69 (bz 51 140737488355327) rfl rfl (any_of HT_.out (by kernel_rfl)) ?_
          refine pureU 47 70 (bz 51 281474976710655) rfl rfl (any_of HT_.out (by kernel_rfl)) ?_
          refine pureU 48 71 (bz 51 562949953421311) rfl rfl (any_of HT_.out (by kernel_rfl)) ?_
          refine pureU 49 72 (bz 51 1125899906842623) rfl rfl (any_of HT_.out (by kernel_rfl)) ?_
          refine pureA 50 73 (bz 51 2251799813685247) rfl rfl (any_of HT_.out (by kernel_rfl)) ?_
          refine done_ (done_of HT_.out (by kernel_rfl)) ?_
          try go_wp2
          go_ret
          exact ⟨eE, lV2 GE103 GE106⟩
        ·rw [if_neg c12] at H
         exact absurd H (by simp)
       ·rw [if_neg c11] at H
        exact absurd H (by simp)
      ·rw [if_neg c10] at H
       have c10b0 : decide (x18_2 < (l0_1.length : Int)) = false := decide_eq_false c10
       clear c10
       obtain rfl := Option.some.inj H
       go_wp2
       go_ret
       exact ⟨eE, lV1 GE103⟩
end Go.Proofs.Ytjmcahjcgfflgaa.PFnExactAddTimer
