/- Texts of a row. -/
import Derived.Test.YtehkpnnidbghhabZFnExactStaleBetween0
import Derived.Deep.RegionLaw
import Derived.Lib.SliceRun
import Derived.Laws.Externs
import Derived.Lib.Bytealg
import Derived.Laws.CopyOwn
import Derived.Lib.Overlaps
import Derived.Lib.AppendZerosOnto
import Derived.Laws.AppendOwn
import Derived.Maps.Own
import Derived.Lib.ConvBytes
import Derived.Test.YtehkpnnidbghhabProg
import Derived.Below
import Derived.Deep.Draws
import Derived.Deep.AppendLies
import Derived.Maps.AppendAt
import Derived.OwnWalk
import Derived.Laws.BytesArg
import Derived.Laws.MakeOwn
import Derived.Laws.OwnMore
import Derived.Deep.OwnRows
import Derived.Tactics
import Derived.Laws.Slices
import Derived.WalkKit
import Derived.KernelRfl
import Derived.RowKit3
import Derived.Deep.LoopGhost
import Derived.Deep.QuietTactic
import Derived.BigQuiet
import Derived.WideLaws
import Derived.Deep.DeepCutAuto
import Derived.Deep.CutBlock
import Derived.Deep.RegionHeld3
import Derived.Laws.Rows
import Derived.Lib.AppendStr
import Derived.ArgAppend
import Derived.Laws.IdiomCopy
import Derived.OrdersHeld
import Derived.Laws.BitsLemmas
import Derived.RowKit
import Derived.Laws.Cover1
namespace Go.Proofs.YtehkpnnidbghhabW.PrintWords
open Go.RowKit
namespace Kd
section
variable {P : Program} {α : Type}
end
end Kd
end Go.Proofs.YtehkpnnidbghhabW.PrintWords
namespace Go.Proofs.YtehkpnnidbghhabW.PrintLast
open Go.RowKit Go.Proofs.YtehkpnnidbghhabW.PrintWords
def bz (n m : Nat) : Array Bool := ((List.range n).map fun i => m.testBit i).toArray
section
variable {P : Program} {ops : Array Oper} {Q : Exit → Act → World → Prop} {md : Region.Mode} {S : World → Prop} {ds : List Nat}
theorem pureA (i : Nat) (N : Tmp) {oi : Oper} {v : Value} {fuel : Nat} {l : Array Bool} {a : Act} {w : World} (l' : Array Bool) {a' : Act} (hi : ops[i]? = some oi) (hN : oi.dst = some N) (hc : anyB md ops l l' i = true) (h : wpAnyLast P md ops Q S ds fuel l' a' w)
  (hQ : ∀ c a w, Q (.panic c) (a.put oi.dst v) w → Q (.panic c) a w := by exact fun _ _ _ h => h) (hw : Region.wanted oi (yielded ops a.tmps) = true := by rfl)
  (hy : ∀ w, (execOp a.eval oi).run P w = .ok (.value v) w := by intro w'; go_simp; with_reducible rfl) (ha : a.put (some N) v = a' := by simp only [Act.put, List.setIfInBounds_toArray, List.set_cons_zero, List.set_cons_succ, i64_w, i32_w]; rfl) : wpAnyLast P md ops Q S ds (fuel + 1) l a w :=
 pure_ l' hi hN hc hQ (Or.inl ⟨hw, hy⟩) ha h
theorem pureU (i : Nat) (N : Tmp) {oi : Oper} {fuel : Nat} {l : Array Bool} {a : Act} {w : World} (l' : Array Bool) {a' : Act} (hi : ops[i]? = some oi) (hN : oi.dst = some N) (hc : anyB md ops l l' i = true) (h : wpAnyLast P md ops Q S ds fuel l' a' w)
  (hQ : ∀ c a w, Q (.panic c) (a.put oi.dst undef) w → Q (.panic c) a w := by exact fun _ _ _ h => h) (hw : Region.wanted oi (yielded ops a.tmps) = false := by rfl)
  (ha : a.put (some N) undef = a' := by simp only [Act.put, List.setIfInBounds_toArray, List.set_cons_zero, List.set_cons_succ, i64_w, i32_w]; rfl) : wpAnyLast P md ops Q S ds (fuel + 1) l a w :=
 pure_ l' hi hN hc hQ (Or.inr ⟨hw, rfl⟩) ha h
theorem takeA (i : Nat) (N : Tmp) {oi : Oper} {v : Value} {fuel : Nat} {l : Array Bool} {a : Act} {w : World} (l' : Array Bool) {a' : Act} (hi : ops[i]? = some oi) (hN : oi.dst = some N) (hc : takeB md ops ds l l' i = true) (hS : S w) (hy : ∀ w, S w → (execOp a.eval oi).run P w = .ok (.value v) w) (h : wpAnyLast P md ops Q S ds fuel l' a' w)
  (hQ : ∀ c a w, Q (.panic c) (a.put oi.dst v) w → Q (.panic c) a w := by exact fun _ _ _ h => h) (hw : Region.wanted oi (yielded ops a.tmps) = true := by rfl)
  (ha : a.put (some N) v = a' := by simp only [Act.put, List.setIfInBounds_toArray, List.set_cons_zero, List.set_cons_succ, i64_w, i32_w]; rfl) : wpAnyLast P md ops Q S ds (fuel + 1) l a w :=
 take_ l' hi hN hc hQ (Or.inl ⟨hw, hy⟩) hS ha h
end
end Go.Proofs.YtehkpnnidbghhabW.PrintLast
namespace Go.Proofs.YtehkpnnidbghhabW.PrintWords
open Go.RowKit
end Go.Proofs.YtehkpnnidbghhabW.PrintWords
namespace Go.Proofs.YtehkpnnidbghhabW.PrintWords
open Go.RowKit
section
variable {P : Program} {ops : Array Oper} {o : Oper} {a : Act} {Q : Exit → Act → World → Prop} {Kc : Act → World → Prop}
end
end Go.Proofs.YtehkpnnidbghhabW.PrintWords
namespace Go.Proofs.YtehkpnnidbghhabW.PrintWords
open Go.RowKit
theorem grown_of_kept {B : Nat} {w0 W W2 : World} {row : Option Nat} (hB : Below B w0 W) (hb : Below B w0 W2) (hk : Kept W W2 (fun k => some k = row)) : W.grownBy W2 row :=
 ⟨hb.os.trans hB.os.symm, hb.tape.trans hB.tape.symm, hb.output.trans hB.output.symm, hk.1, fun k h hn => hk.2 k h hn⟩
namespace Kd
section
variable {α : Type} {d : Kd α} {e base : Nat} {ok : Nat → Prop} {W : World} {u : Value} {xs : List α} {PS : Nat → Prop} {L : List Nat}
end
end Kd
end Go.Proofs.YtehkpnnidbghhabW.PrintWords
namespace Go.Proofs.YtehkpnnidbghhabW.PrintWords
open Go.RowKit
end Go.Proofs.YtehkpnnidbghhabW.PrintWords
set_option linter.unusedSimpArgs false
set_option linter.unusedVariables false
namespace Go
end Go
namespace Go.Proofs.YtehkpnnidbghhabW.PrintWords
open Go.RowKit
namespace Kd
section
variable {P : Program} {α : Type}
def T (d : Kd α) (e : Nat) (W : World) (base : Nat) (ok : Nat → Prop) (g c : Nat) (pre : List α) : Prop :=
 ok g ∧ ∃ inner cur, base ≤ g ∧ W.heap[g]? = some (.cells cur e (0, 0)) ∧ cur.size = c * d.sz ∧ pre.length ≤ c ∧ c ≤ maxLen ∧ cur.toList.take (pre.length * d.sz) = inner ∧ Reps (d.M W base (fun k' => ok k' ∧ some k' ≠ some g)) d.sz pre inner
end
end Kd
end Go.Proofs.YtehkpnnidbghhabW.PrintWords
namespace Go.Proofs.YtehkpnnidbghhabW.PrintLast
section
variable {P : Program} {ops : Array Oper} {Q : Exit → Act → World → Prop} {md : Region.Mode} {S T : World → Prop} {ds : List Nat}
end
end Go.Proofs.YtehkpnnidbghhabW.PrintLast
namespace Go.Proofs.YtehkpnnidbghhabW.PrintWords
open Go Go.RowKit
namespace Mp
def get : List (ByteArray × Int) → ByteArray → Option Int
  | [], _ => none
  | p :: r, k => if p.1 = k then some p.2 else get r k
def put : List (ByteArray × Int) → ByteArray → Int → List (ByteArray × Int)
  | [], k, v => [(k, v)]
  | p :: r, k, v => if p.1 = k then (k, v) :: r else p :: put r k v
def enc (p : ByteArray × Int) : Value × Value := (.string p.1, .int .u32 p.2)
def kv (e : MapEntry) : Value × Value := (e.key, e.val)
def Is (w : World) (g : Nat) (l : List (ByteArray × Int)) : Prop := ∃ es clock, w.heap[g]? = some (.map es clock) ∧ es.toList.map kv = l.map enc
section
variable {w w1 : World} {g : Nat} {l : List (ByteArray × Int)}
theorem Is.lt (h : Is w g l) : g < w.heap.size := by obtain ⟨es, c, h, _⟩ := h; exact blk_lt h
theorem Is.kept (h : Is w g l) (hb : w1.heap[g]? = w.heap[g]?) : Is w1 g l := by obtain ⟨es, c, h, k⟩ := h; exact ⟨es, c, hb.trans h, k⟩
theorem Is.below (h : Is w g l) (hb : Below w.heap.size w w1) : Is w1 g l := h.kept (hb.block g h.lt)
theorem Is.grown (h : Is w g l) {row : Option Nat} (hg : w.grownBy w1 row) (hne : some g ≠ row) : Is w1 g l := h.kept (hg.block g h.lt hne)
theorem Is.alloc (h : Is w g l) (o : Obj) : Is (w.alloc o) g l := h.below (below_alloc (Below.refl _ _) o)
theorem Is.drew (h : Is w g l) : Is w.drew g l := h
theorem Is.drewN (h : Is w g l) (n : Nat) : Is (w.drewN n) g l := h
theorem Is.made (w : World) : Is (w.alloc (.map #[] 0)) w.heap.size [] := ⟨#[], 0, heap_alloc_new w _, rfl⟩
end
theorem bytes_eq (a b : ByteArray) : (a == b) = decide (a = b) := by
  by_cases h : a = b
  · subst h
    rw [decide_eq_true rfl]
    exact (Go.MapKept.bytes_beq a a).2 rfl
  · rw [decide_eq_false h]
    exact Bool.eq_false_iff.2 fun h' => h ((Go.MapKept.bytes_beq a b).1 h')
theorem find (k : ByteArray) : ∀ (es : List MapEntry) (l : List (ByteArray × Int)) (i : Nat), es.map kv = l.map enc →
    (Instr.findNow .string (.string k) es i = some none ∧ get l k = none ∧ ∀ v, put l k v = l ++ [(k, v)]) ∨
    ∃ j x e, Instr.findNow .string (.string k) es i = some (some (i + j, .int .u32 x)) ∧ get l k = some x ∧ es[j]? = some e ∧ e.key = .string k ∧ ∀ v, (es.set j { e with key := .string k, val := .int .u32 v }).map kv = (put l k v).map enc
  | [], [], i, _ => .inl ⟨rfl, rfl, fun _ => rfl⟩
  | e :: es, [], i, h => by cases h
  | [], p :: l, i, h => by cases h
  | e :: es, p :: l, i, h => by
    have h1 : kv e = enc p := by injection h
    have h2 : es.map kv = l.map enc := by injection h
    have hk : e.key = .string p.1 := congrArg Prod.fst h1
    have hv : e.val = .int .u32 p.2 := congrArg Prod.snd h1
    by_cases hp : p.1 = k
    · refine .inr ⟨0, p.2, e, ?_, by simp [get, hp], rfl, by rw [hk, hp], fun v => ?_⟩
      · have hs : Instr.sameNow .string (.string k) e.key = some true := by rw [hk]; simp [Instr.sameNow, hp, bytes_eq]
        simp [Instr.findNow, hs, hv]
      · simp [put, hp, kv, enc, h2]
    · have hs : Instr.sameNow .string (.string k) e.key = some false := by
        rw [hk]
        have : ¬ k = p.1 := fun h => hp h.symm
        simp [Instr.sameNow, bytes_eq, this]
      rcases find k es l (i + 1) h2 with ⟨a1, a2, a3⟩ | ⟨j, x, e', a1, a2, a3, a4, a5⟩
      · exact .inl ⟨by simp [Instr.findNow, hs, a1], by simp [get, hp, a2], fun v => by simp [put, hp, a3]⟩
      · refine .inr ⟨j + 1, x, e', ?_, by simp [get, hp, a2], by simpa using a3, a4, fun v => ?_⟩
        · have e1 : i + 1 + j = i + (j + 1) := by omega
          simp [Instr.findNow, hs, a1, e1]
        · simp [put, hp, a5, h1]
section
variable {P : Program} {w : World} {g : Nat} {l : List (ByteArray × Int)} {t k e : TypeId}
theorem lookup_run (h : Is w g l) (ht : P.underlying t = some (.map k e)) (hk : P.underlying k = some .string) (hz : (zeroValue e).run P w = .ok (.int .u32 0) w) (key : ByteArray) (c : Bool) :
    (Instr.lookup t (.map (some g)) (.string key) c).run P w = .ok (if c then .tuple #[.int .u32 ((get l key).getD 0), .bool (get l key).isSome] else .int .u32 ((get l key).getD 0)) w := by
  obtain ⟨es, clock, hb, hl⟩ := h
  have hc : ∀ b, (Instr.checkKey b 10000 k (.string key)).run P w = .ok () w := by
    intro b
    rw [show (10000 : Nat) = 9999 + 1 from rfl, Instr.checkKey]
    simp [run_underlying hk]
  rcases find key es.toList l 0 hl with ⟨a1, a2, _⟩ | ⟨j, x, e', a1, a2, _⟩
  · cases c <;> simp [Instr.lookup, Instr.findKey, run_underlying ht, run_underlying hk, MapKept.run_getObj_map hb, hc, a1, a2, hz, Result.andThen]
  · cases c <;> simp [Instr.lookup, Instr.findKey, run_underlying ht, run_underlying hk, MapKept.run_getObj_map hb, hc, a1, a2, Result.andThen]
theorem update_run (h : Is w g l) (ht : P.underlying t = some (.map k e)) (hk : P.underlying k = some .string) (key : ByteArray) (v : Int) :
    ∃ w1, (Instr.mapUpdate t (.map (some g)) (.string key) (.int .u32 v)).run P w = .ok () w1 ∧ Is w1 g (put l key v) ∧ w.grownBy w1 (some g) := by
  have hlt := h.lt
  obtain ⟨es, clock, hb, hl⟩ := h
  have hc : ∀ b, (Instr.checkKey b 10000 k (.string key)).run P w = .ok () w := by
    intro b
    rw [show (10000 : Nat) = 9999 + 1 from rfl, Instr.checkKey]
    simp [run_underlying hk]
  have grow : ∀ o, w.grownBy { w with heap := w.heap.setIfInBounds g o } (some g) := fun o => ⟨rfl, rfl, rfl, by simp, fun i _ hne => by
    have : g ≠ i := fun e => hne (by rw [e])
    simp [this]⟩
  rcases find key es.toList l 0 hl with ⟨a1, a2, a3⟩ | ⟨j, x, e', a1, a2, a4, a5, a6⟩
  · refine ⟨{ w with heap := w.heap.setIfInBounds g (.map (es.push { key := .string key, val := .int .u32 v, born := clock }) (clock + 1)) }, ?_, ?_, grow _⟩
    · simp [Instr.mapUpdate, Instr.findKey, run_underlying ht, run_underlying hk, MapKept.run_getObj_map hb, hc, a1, setObj, Sem.run, hb, Result.andThen]
    · refine ⟨es.push { key := .string key, val := .int .u32 v, born := clock }, clock + 1, by simp [hlt], ?_⟩
      rw [a3]
      simp [hl, kv, enc]
  · rw [Nat.zero_add] at a1
    have hkey : (Instr.keyThatStays (((es[j]?).map (·.key)).getD (.string key)) (.string key)).run P w = .ok (.string key) w := by
      have : es[j]? = some e' := by simpa using a4
      rw [this]
      simp [a5, Instr.keyThatStays, Instr.sameBits, bytes_eq]
    refine ⟨{ w with heap := w.heap.setIfInBounds g (.map (es.modify j fun e => { e with key := .string key, val := .int .u32 v }) clock) }, ?_, ?_, grow _⟩
    · simp [Instr.mapUpdate, Instr.findKey, run_underlying ht, run_underlying hk, MapKept.run_getObj_map hb, hc, a1, hkey, setObj, Sem.run, hb, Result.andThen]
    · refine ⟨es.modify j fun e => { e with key := .string key, val := .int .u32 v }, clock, by simp [hlt], ?_⟩
      rw [← a6 v]
      congr 1
      apply List.ext_getElem?
      intro i
      rw [Array.getElem?_toList, Array.getElem?_modify]
      by_cases hij : j = i
      · subst hij
        have a7 : es[j]? = some e' := by simpa using a4
        have hjl : j < es.toList.length := (List.getElem?_eq_some_iff.1 a4).1
        rw [if_pos rfl, a7, List.getElem?_set_self hjl]
        rfl
      · rw [if_neg hij, List.getElem?_set_ne hij, Array.getElem?_toList]
end
section
variable {P : Program} {ops : Array Oper} {rest : List Oper} {o : Oper} {a : Act} {Q : Exit → Act → World → Prop}
theorem gate_update {t : TypeId} {m x v : Operand} {W : World} (_ho : o.op = .mapUpdate t m x v) (h : wpList P ops Q (o :: rest) a W) : wpList P ops Q (o :: rest) a W := h
theorem update_event {W : World} (hgd : o.guard = none) (m x v : Operand) (t k e : TypeId) (hop : o.op = .mapUpdate t m x v) (ht : P.underlying t = some (.map k e)) (hk : P.underlying k = some .string)
    (g : Nat) (l : List (ByteArray × Int)) (key : ByteArray) (val : Int) (hm : a.eval m = .map (some g)) (hx : a.eval x = .string key) (hv : a.eval v = .int .u32 val) (h : Is W g l)
    (hK : ∀ w', Is w' g (put l key val) → W.grownBy w' (some g) → wpList P ops Q rest (a.put o.dst undef) w') : wpList P ops Q (o :: rest) a W := by
  obtain ⟨w', hrun, h1, h2⟩ := update_run (P := P) h ht hk key val
  refine wpList_plain hgd fun K' hK' => ?_
  unfold Oper.wp
  simp [execOp, hop, hm, hx, hv, hrun, Result.andThen]
  exact hK' _ _ (hK w' h1 h2)
end
end Mp
end Go.Proofs.YtehkpnnidbghhabW.PrintWords
namespace Go.Proofs.YtehkpnnidbghhabW.PrintWords
open Go Go.RowKit
namespace Mk
def R (_d : Kd Int) (e : Nat) (w : World) (base : Nat) (ok : Nat → Prop) (v : Value) (xs : List Int) : Prop :=
 (∀ k, v.ownBlock = some k → ok k) ∧ ∃ g cap cur z, v = .slice (some ⟨g, 0, none⟩) xs.length cap ∧ base ≤ g ∧ w.heap[g]? = some (.cells cur e (z, z + 1)) ∧ cur.size ≤ z ∧ xs.length ≤ cap ∧ (xs.length ≤ cur.size ∧ xs.length ≤ 9223372036854775807) ∧ ∀ i, i < xs.length → cur[i]? = some (.int .u8 (xs.getD i 0))
section
variable {d : Kd Int} {e : Nat} {w w1 : World} {base : Nat} {ok : Nat → Prop} {v : Value} {xs : List Int}
theorem R_below (h : R d e w base ok v xs) (hb : Below w.heap.size w w1) : R d e w1 base ok v xs := by
 obtain ⟨h0, g, cap, cur, z, h1, h2, h3, h4⟩ := h
 exact ⟨h0, g, cap, cur, z, h1, h2, (hb.block g (blk_lt h3)).trans h3, h4⟩
theorem R_alloc (h : R d e w base ok v xs) (o : Obj) : R d e (w.alloc o) base ok v xs := R_below h (below_alloc (Below.refl _ _) o)
theorem R_drew (h : R d e w base ok v xs) : R d e w.drew base ok v xs := R_below h (below_drew (Below.refl _ _))
theorem R_drewN (h : R d e w base ok v xs) (m : Nat) : R d e (w.drewN m) base ok v xs := R_below h (pw_below_drewN (Below.refl _ _) m)
theorem R_slice (h : R d e w base ok v xs) : ∃ A c, v = .slice A xs.length c := by
 obtain ⟨_, g, cap, cur, z, h1, _⟩ := h
 exact ⟨_, _, h1⟩
theorem cellAt {g : Nat} {cur : Array Value} {z : Nat} (h : w.heap[g]? = some (.cells cur e (z, z + 1))) (i : Nat) : w.cell? ⟨g, i, none⟩ = cur[i]? := cell_of_row w g i cur e (z, z + 1) h
theorem R_reads' {A : Option Addr} {n c : Nat} (h : R d e w base ok (.slice A n c) xs) : n = xs.length ∧ n ≤ c ∧ (Kd.int .u8).C w A xs.length xs := by
 obtain ⟨_, g, cap, cur, z, h1, _, h3, h4, h5, h6, h7⟩ := h
 injection h1 with h1 h2 h3'
 subst h1 h2 h3'
 refine ⟨rfl, h5, rfl, h6.2, fun _ => ⟨_, rfl, fun j p hj => ⟨[.int .u8 p], rfl, rfl, fun i u hu => ?_⟩⟩⟩
 obtain ⟨hl, hp⟩ := List.getElem?_eq_some_iff.1 hj
 have hi : i = 0 := by
  rcases Nat.eq_zero_or_pos i with h | h
  ·exact h
  ·rw [List.getElem?_eq_none (by simp only [List.length_singleton]; omega)] at hu; cases hu
 subst hi
 have hu : Value.int .u8 p = u := Option.some.inj hu
 have e1 : ((⟨g, 0, none⟩ : Addr).add (j * (Kd.int IntKind.u8).sz + 0)) = ⟨g, j, none⟩ := by
  have : (Kd.int IntKind.u8).sz = 1 := rfl
  simp [Addr.add_lit, this]
 rw [e1, cellAt h3, h7 j hl, ← hu]
 simp [List.getD_eq_getElem?_getD, hj]
theorem R_form (h : R d e w base ok v xs) (_hp : 0 < xs.length) : ∃ g cap, v = .slice (some ⟨g, 0, none⟩) xs.length cap ∧ base ≤ g ∧ g < w.heap.size ∧ ∃ cells, ∃ z, w.heap[g]? = some (.cells cells e (z, z + 1)) := by
 obtain ⟨_, g, cap, cur, z, h1, h2, h3, _⟩ := h
 exact ⟨g, cap, h1, h2, blk_lt h3, cur, z, h3⟩
theorem R_celln {g n cap : Nat} (_x : Int) (h : R d e w base ok (.slice (some ⟨g, 0, none⟩) n cap) xs) (i : Int) (h0 : 0 ≤ i) (hi : i < n) : w.cell? ⟨g, i.toNat, none⟩ = some (.int .u8 (rd xs i)) ∧ w.frozen? ⟨g, i.toNat, none⟩ = false := by
 obtain ⟨_, g', cap', cur, z, h1, _, h3, h4, h5, h6, h7⟩ := h
 injection h1 with h1 h2 h3'
 injection h1 with h1
 injection h1 with h1
 subst h1 h2 h3'
 refine ⟨(cellAt h3 _).trans (h7 _ (by omega)), ?_⟩
 have hlt : i.toNat < z := by omega
 simp [World.frozen?, h3]
 omega
theorem R_putg {g n cap : Nat} (h : R d e w base ok (.slice (some ⟨g, 0, none⟩) n cap) xs) (i : Int) (x : Int) : R d e (w.setCell ⟨g, i.toNat, none⟩ (.int .u8 x)) base ok (.slice (some ⟨g, 0, none⟩) n cap) (xs.set i.toNat x) ∧ w.grownBy (w.setCell ⟨g, i.toNat, none⟩ (.int .u8 x)) (some g) := by
 obtain ⟨h0, g', cap', cur, z, h1, h2, h3, h4, h5, h6, h7⟩ := h
 injection h1 with h1 h2' h3'
 injection h1 with h1
 injection h1 with h1
 subst h1 h2' h3'
 refine ⟨⟨h0, g, cap, cur.setIfInBounds i.toNat (.int .u8 x), z, by rw [List.length_set], h2, ?_, by simpa using h4, by simpa using h5, by simpa using h6, ?_⟩, ?_⟩
 ·rw [setCell_eq_setRow w g i.toNat cur e (z, z + 1) _ h3]
  exact setRow_heap w g _ _ e _ h3
 ·intro j hj
  rw [List.length_set] at hj
  by_cases hji : i.toNat = j
  ·subst hji
   rw [Array.getElem?_setIfInBounds_self_of_lt (by omega)]
   simp [List.getD_eq_getElem?_getD, hj]
  ·rw [Array.getElem?_setIfInBounds_ne hji, h7 j hj]
   simp [List.getD_eq_getElem?_getD, List.getElem?_set_ne hji]
 ·exact ⟨rfl, rfl, rfl, by simp [World.setCell], fun k _ hk => Below.heap_setCell w _ _ k (fun e => hk (by rw [e]))⟩
theorem own_string {P : Program} {src dst e1 : TypeId} (hs : P.underlying src = some (.slice e1)) (he : P.underlying e1 = some (.int .u8)) (hd : P.underlying dst = some .string) (h : R d e w base ok v xs) : (convert src dst v).run P w = .ok (.string (strOfNums xs)) w := by
 obtain ⟨_, g, cap, cur, z, rfl, _, h3, h4, h5, h6, h7⟩ := h
 refine run_convert_bytes_arg w src e1 hs he g 0 xs.length cap xs rfl (fun i hi => ?_) dst hd
 rw [Nat.zero_add, cellAt h3, h7 i hi]
end
section
variable {P : Program} {ops : Array Oper} {rest : List Oper} {o : Oper} {a : Act} {Q : Exit → Act → World → Prop}
theorem bytes_event {w0 W : World} (base : Nat) (hgd : o.guard = none) (src dst e : TypeId) (x : Operand) (s : ByteArray) (ho : o.op = .convert src dst x) (hs : P.underlying src = some .string) (hd : P.underlying dst = some (.slice e)) (he : P.underlying e = some (.int .u8))
  (hx : a.eval x = .string s) (HB : Below base w0 W) (hbase : base ≤ W.heap.size) (hl : s.size < 140737488355328)
  (h : ∀ v1 w1, R (Kd.int .u8) e w1 base (fun _ => True) v1 (bytesOf s) → Below base w0 w1 → W.grownBy w1 none → wpList P ops Q rest (a.put o.dst v1) w1) : wpList P ops Q (o :: rest) a W := by
 have hr := Lib.run_convert_string_bytes (P := P) W src dst e s hs hd he
 have hrun : (execOp a.eval o).run P W = .ok (.value (.slice (some ⟨W.heap.size, 0, none⟩) s.size (grownCap W s.size 0 e))) (Lib.bytesWorld W e s) := by
  unfold execOp
  simp only [ho, hx, Sem.run_bind, hr, Result.andThen_ok, Sem.run_pure]
 have hg : W.grownBy (Lib.bytesWorld W e s) none := ⟨rfl, rfl, rfl, by rw [Lib.bytesWorld_size]; omega, fun k hk _ => Lib.bytesWorld_at_old W e s k hk⟩
 refine Kd.event_run hgd hrun (h _ _ ?_ (HB.grown hg hbase (fun _ hh => by cases hh)) hg)
 have hge := grownCap_ge W s.size 0 e
 refine ⟨fun _ _ => trivial, W.heap.size, _, Lib.bytesCells W e s, _, by rw [bytesOf_length], hbase, Lib.bytesWorld_at_new W e s, Nat.le_refl _, by rw [bytesOf_length]; exact hge, ?_, ?_⟩
 ·rw [bytesOf_length]
  refine ⟨?_, by omega⟩
  have : s.data.size = s.size := rfl
  simp [Lib.bytesCells, this]
 ·intro i hi
  rw [bytesOf_length] at hi
  have hi' : i < s.data.size := hi
  have hi2 : i < (bytesOf s).length := by rw [bytesOf_length]; exact hi
  simp [Lib.bytesCells, bytesOf, Array.getElem?_append, hi, List.getD_eq_getElem?_getD]
end
end Mk
theorem gate_convert_ {P : Program} {ops : Array Oper} {rest : List Oper} {o : Oper} {a : Act} {Q : Exit → Act → World → Prop} {src dst : TypeId} {x : Operand} {W : World} (_ho : o.op = .convert src dst x) (h : wpList P ops Q (o :: rest) a W) : wpList P ops Q (o :: rest) a W := h
end Go.Proofs.YtehkpnnidbghhabW.PrintWords
namespace Go.Proofs.YtehkpnnidbghhabW.PrintWords
open Go.RowKit
theorem bU {w W : World} {g : Nat} {o : Obj} (h : w.heap[g]? = some o) (k : w.heap[g]? = some o → W.heap[g]? = some o := by intro h_; (with_reducible repeat (first | refine blk_drewN ?_ _ | refine blk_drew ?_ | refine blk_alloc ?_ _)); exact h_) : W.heap[g]? = some o := k h
theorem rU {A B : Prop} (h : A) (k : A → B := by intro h_; (with_reducible repeat (first | apply Kd.R_alloc | apply Kd.R_drewN | apply Kd.R_drew)); exact h_) : B := k h
theorem lU {B : Prop} (k : B := by repeat (first | (with_reducible first | exact HB.out | apply below_alloc | apply pw_below_drewN | apply below_drew1) | exact HB.out)) : B := k
theorem gS (w : World) {W : World} {g : Nat} (hg : g = W.heap.size) (k : Below w.heap.size w W) : Aside0 (w.heap.size ≤ g) := ⟨by rw [hg]; exact below_size k⟩
theorem nL {W : World} {g g' : Nat} {o : Obj} (hg : g' = W.heap.size) (k : W.heap[g]? = some o) : Aside0 (g ≠ g') := ⟨by rw [hg]; exact Nat.ne_of_lt (blk_lt k)⟩
theorem nG {W : World} {g g' : Nat} {o : Obj} (hg : g' = W.heap.size) (k : W.heap[g]? = some o) : Aside0 (g' ≠ g) := ⟨by rw [hg]; exact Nat.ne_of_gt (blk_lt k)⟩
theorem aE {B : Prop} (k : B := by (try simp only [List.map_toArray, List.map_cons, List.map_nil]); first | done | rfl | (simp only [List.length_drop, List.length_take]; rfl)) : B := k
theorem tE {B : Prop} (k : B := by first | rfl | (simp; done) | (simp [*]; done) | exact not_isEmpty _ | exact (not_isEmpty _).symm | exact is_empty _ | exact (is_empty _).symm) : B := k
theorem hE {B : Prop} (k : B := by first | (with_reducible assumption) | assumption) : B := k
theorem cU {A B : Prop} (h : A) (k : A → B := by intro h_; repeat (first | exact h_ | (with_reducible refine Kd.C_alloc ?_ _) | (with_reducible refine Kd.C_drewN ?_ _) | (with_reducible refine Kd.C_drew ?_))) : B := k h
theorem sE {B : Prop} (k : B := by first | (go_simp; done) | (go_simp; rfl)) : B := k
theorem eE {B : Prop} (k : B := by first | rfl | (simp [errW_none, errW_some] <;> rfl) | (simp [*, errW_none, errW_some] <;> rfl)) : B := k
theorem bV {w W : World} {g : Nat} {o : Obj} (h : Aside0 (w.heap[g]? = some o)) (k : w.heap[g]? = some o → W.heap[g]? = some o := by intro h_; (with_reducible repeat (first | refine blk_drewN ?_ _ | refine blk_drew ?_ | refine blk_alloc ?_ _)); exact h_) : W.heap[g]? = some o := k h.out
theorem bG {w W : World} {g : Nat} {o : Obj} {C : Prop} (n : Aside0 C) (h : Aside0 (w.heap[g]? = some o)) (k : w.heap[g]? = some o → C → W.heap[g]? = some o := by intro h_ n_; (repeat (first | (with_reducible first | refine blk_drewN ?_ _ | refine blk_drew ?_ | refine blk_alloc ?_ _) | refine blk_far ?_ n_ _)); exact h_) : W.heap[g]? = some o := k h.out n.out
theorem bB {w w1 : World} {g : Nat} {o : Obj} (h : w.heap[g]? = some o) (hb : Below w.heap.size w w1) : Aside0 (w1.heap[g]? = some o) := ⟨blk_below h hb⟩
theorem bH {w W w2 : World} (h : Below w.heap.size w W) (k : Below W.heap.size W w2) : Aside0 (Below w.heap.size w w2) := ⟨below_step h k⟩
theorem cz {w : World} {g : Nat} {t : TypeId} {cs : Array Value} (h : Aside0 (w.heap[g]? = some (.cells cs t (0, 0)))) (i : Nat) (v : Value) (e : cs[i]? = some v := by rfl) : w.cell? ⟨g, i, none⟩ = some v := (blk_cell h.out i).trans e
theorem fz {w : World} {g : Nat} {t : TypeId} {cs : Array Value} (h : Aside0 (w.heap[g]? = some (.cells cs t (0, 0)))) (i : Nat) : w.frozen? ⟨g, i, none⟩ = false := blk_frozen h.out i
theorem lV1 {A0 B : Prop} (g0_ : Aside0 A0) (k : A0 → B := by intro g0_; repeat (first | (with_reducible first | exact HB.out | apply below_alloc | apply pw_below_drewN | apply below_drew1 | refine below_set ?_ g0_) | exact HB.out)) : B := k g0_.out
theorem lV2 {A0 A1 B : Prop} (g0_ : Aside0 A0) (g1_ : Aside0 A1) (k : A0 → A1 → B := by intro g0_ g1_; repeat (first | (with_reducible first | exact HB.out | apply below_alloc | apply pw_below_drewN | apply below_drew1 | refine below_set ?_ g0_ | refine below_set ?_ g1_) | exact HB.out)) : B := k g0_.out g1_.out
theorem lV3 {A0 A1 A2 B : Prop} (g0_ : Aside0 A0) (g1_ : Aside0 A1) (g2_ : Aside0 A2) (k : A0 → A1 → A2 → B := by intro g0_ g1_ g2_; repeat (first | (with_reducible first | exact HB.out | apply below_alloc | apply pw_below_drewN | apply below_drew1 | refine below_set ?_ g0_ | refine below_set ?_ g1_ | refine below_set ?_ g2_) | exact HB.out)) : B := k g0_.out g1_.out g2_.out
end Go.Proofs.YtehkpnnidbghhabW.PrintWords
namespace Go.Proofs.Ytehkpnnidbghhab.PFnExactStaleBetween
open Go.RowKit Go.Proofs.YtehkpnnidbghhabW.PrintWords Go.Proofs.YtehkpnnidbghhabW.PrintLast Go.Proofs.YtehkpnnidbghhabW.PrintMore
attribute [local go_sem] max2_int min2_int max_two min_two max_three min_three max_four min_four   -- for this text's walks alone
set_option linter.unusedVariables false
set_option linter.unusedSimpArgs false
def errW : Option Int → Value
 | none => .nilIface
 | some c => .iface 0 (.int .i64 c)
theorem errW_none : errW none = .nilIface := rfl
theorem errW_some (c : Int) : errW (some c) = .iface 0 (.int .i64 c) := rfl
theorem info5 : (Try.prog.info? 5).map (fun i => (i.zero, i.size, i.bytes)) = some (some (.int .u8 0), 1, 1) := by kernel_rfl
theorem info9 : (Try.prog.info? 9).map (fun i => (i.zero, i.size, i.bytes)) = some (some (.string ⟨#[]⟩), 1, 16) := by kernel_rfl
theorem info41 : (Try.prog.info? 41).map (fun i => (i.zero, i.size, i.bytes)) = some (some (.agg #[(.string ⟨#[]⟩), (.slice none 0 0), (.slice none 0 0)]), 3, 64) := by kernel_rfl
theorem info43 : (Try.prog.info? 43).map (fun i => (i.zero, i.size, i.bytes)) = some (some (.int .u32 0), 1, 4) := by kernel_rfl
structure S37 where
 f0 : ByteArray
 f1 : (List ByteArray)
 f2 : (List Int)
def z37 : S37 := ⟨(⟨#[]⟩ : ByteArray), ([] : List ByteArray), ([] : List Int)⟩
def k37 : Kd S37 := Kd.iso (Kd.pair Kd.string (Kd.pair (Kd.slice 9 Kd.string) (Kd.slice 5 (Kd.int .u8)))) (fun x : S37 => (x.f0, x.f1, x.f2))
theorem k37_open {w : World} {x : S37} {cs : List Value} (h : k37.K w x cs) : ∃ A1 c1 A2 c2, cs = [.string x.f0, .slice A1 x.f1.length c1, .slice A2 x.f2.length c2] ∧ x.f1.length ≤ c1 ∧ Kd.string.C w A1 x.f1.length x.f1 ∧ x.f2.length ≤ c2 ∧ (Kd.int .u8).C w A2 x.f2.length x.f2 := by
 obtain ⟨_, _, rfl, rfl, ⟨_, _, rfl, ⟨A1, c1, rfl, l1, g1⟩, ⟨A2, c2, rfl, l2, g2⟩⟩⟩ := h
 exact ⟨A1, c1, A2, c2, rfl, l1, g1, l2, g2⟩
def rd_T37 (xs : List S37) (i : Int) : S37 := xs.getD i.toNat z37
theorem at_T37 {w : World} {A : Option Addr} {n : Nat} {xs : List S37} (h : Kd.C k37 w A n xs) (i : Int) (h0 : 0 ≤ i) (h1 : i < n) : ∃ ad A1 c1 A2 c2, A = some ad ∧ w.cell? (ad.add (i.toNat * 3)) = some (.string (rd_T37 xs i).f0) ∧ w.cell? ⟨(ad.add (i.toNat * 3)).block, (ad.add (i.toNat * 3)).off + 1, none⟩ = some (.slice A1 (rd_T37 xs i).f1.length c1) ∧ w.cell? ⟨(ad.add (i.toNat * 3)).block, (ad.add (i.toNat * 3)).off + 2, none⟩ = some (.slice A2 (rd_T37 xs i).f2.length c2) ∧ (rd_T37 xs i).f1.length ≤ c1 ∧ Kd.string.C w A1 (rd_T37 xs i).f1.length (rd_T37 xs i).f1 ∧ (rd_T37 xs i).f2.length ≤ c2 ∧ (Kd.int .u8).C w A2 (rd_T37 xs i).f2.length (rd_T37 xs i).f2 := by
 obtain ⟨ad, c, e, _, hK, hc0⟩ := Kd.C_get h z37 i h0 h1
 have hc : ∀ j u, c[j]? = some u → w.cell? (ad.add (i.toNat * 3 + j)) = some u := hc0
 obtain ⟨A1, c1, A2, c2, rfl, l1, g1, l2, g2⟩ := k37_open hK
 exact ⟨ad, A1, c1, A2, c2, e, hc 0 _ rfl, by rw [← add_field _ _ 1 (by omega)]; exact hc 1 _ rfl, by rw [← add_field _ _ 2 (by omega)]; exact hc 2 _ rfl, l1, g1, l2, g2⟩
structure S41 where
 f0 : ByteArray
 f1 : (List ByteArray)
 f2 : (List Int)
def z41 : S41 := ⟨(⟨#[]⟩ : ByteArray), ([] : List ByteArray), ([] : List Int)⟩
def k41 : Kd S41 := Kd.iso (Kd.pair Kd.string (Kd.pair (Kd.slice 9 Kd.string) (Kd.slice 5 (Kd.int .u8)))) (fun x : S41 => (x.f0, x.f1, x.f2))
theorem k41_open {w : World} {x : S41} {cs : List Value} (h : k41.K w x cs) : ∃ A1 c1 A2 c2, cs = [.string x.f0, .slice A1 x.f1.length c1, .slice A2 x.f2.length c2] ∧ x.f1.length ≤ c1 ∧ Kd.string.C w A1 x.f1.length x.f1 ∧ x.f2.length ≤ c2 ∧ (Kd.int .u8).C w A2 x.f2.length x.f2 := by
 obtain ⟨_, _, rfl, rfl, ⟨_, _, rfl, ⟨A1, c1, rfl, l1, g1⟩, ⟨A2, c2, rfl, l2, g2⟩⟩⟩ := h
 exact ⟨A1, c1, A2, c2, rfl, l1, g1, l2, g2⟩
theorem k41_openM {w : World} {base : Nat} {ok : Nat → Prop} {x : S41} {cs : List Value} (h : k41.M w base ok x cs) : ∃ v1 v2, cs = [.string x.f0, v1, v2] ∧ Kd.string.R 9 w base ok v1 x.f1 ∧ (Kd.int .u8).R 5 w base ok v2 x.f2 := by
 obtain ⟨_, _, rfl, rfl, ⟨_, _, rfl, ⟨v1, rfl, g1⟩, ⟨v2, rfl, g2⟩⟩⟩ := h
 exact ⟨v1, v2, rfl, g1, g2⟩
theorem k41_mkM (w : World) (base : Nat) (ok : Nat → Prop) (x : S41) {v1 : Value} (g1 : Kd.string.R 9 w base ok v1 x.f1) {v2 : Value} (g2 : (Kd.int .u8).R 5 w base ok v2 x.f2) : k41.M w base ok x [.string x.f0, v1, v2] := ⟨[.string x.f0], [v1, v2], rfl, rfl, ⟨[v1], [v2], rfl, ⟨v1, rfl, g1⟩, ⟨v2, rfl, g2⟩⟩⟩
def rd_T41 (xs : List S41) (i : Int) : S41 := xs.getD i.toNat z41
theorem at_T41 {w : World} {A : Option Addr} {n : Nat} {xs : List S41} (h : Kd.C k41 w A n xs) (i : Int) (h0 : 0 ≤ i) (h1 : i < n) : ∃ ad A1 c1 A2 c2, A = some ad ∧ w.cell? (ad.add (i.toNat * 3)) = some (.string (rd_T41 xs i).f0) ∧ w.cell? ⟨(ad.add (i.toNat * 3)).block, (ad.add (i.toNat * 3)).off + 1, none⟩ = some (.slice A1 (rd_T41 xs i).f1.length c1) ∧ w.cell? ⟨(ad.add (i.toNat * 3)).block, (ad.add (i.toNat * 3)).off + 2, none⟩ = some (.slice A2 (rd_T41 xs i).f2.length c2) ∧ (rd_T41 xs i).f1.length ≤ c1 ∧ Kd.string.C w A1 (rd_T41 xs i).f1.length (rd_T41 xs i).f1 ∧ (rd_T41 xs i).f2.length ≤ c2 ∧ (Kd.int .u8).C w A2 (rd_T41 xs i).f2.length (rd_T41 xs i).f2 := by
 obtain ⟨ad, c, e, _, hK, hc0⟩ := Kd.C_get h z41 i h0 h1
 have hc : ∀ j u, c[j]? = some u → w.cell? (ad.add (i.toNat * 3 + j)) = some u := hc0
 obtain ⟨A1, c1, A2, c2, rfl, l1, g1, l2, g2⟩ := k41_open hK
 exact ⟨ad, A1, c1, A2, c2, e, hc 0 _ rfl, by rw [← add_field _ _ 1 (by omega)]; exact hc 1 _ rfl, by rw [← add_field _ _ 2 (by omega)]; exact hc 2 _ rfl, l1, g1, l2, g2⟩
end Go.Proofs.Ytehkpnnidbghhab.PFnExactStaleBetween
namespace Go.Proofs.Ytehkpnnidbghhab.PFnExactStaleBetween
open Go.RowKit Go.Proofs.YtehkpnnidbghhabW.PrintWords Go.Proofs.YtehkpnnidbghhabW.PrintLast Go.Proofs.YtehkpnnidbghhabW.PrintMore
attribute [local go_sem] max2_int min2_int max_two min_two max_three min_three max_four min_four   -- for this text's walks alone
set_option linter.unusedVariables false
set_option linter.unusedSimpArgs false
def laws_szStringS.l0 : Nat → List ByteArray → Int → Int → Option (Int)
 | 0, _, _, _ => none
 | k + 1, x0, x1, x5 => if x5 < (x0.length : Int) then (if 0 ≤ x5 then (if (wrap64 (x1 - ((rdOf ByteArray.empty x0 x5).size : Int))) < 0 then (some (-1)) else (laws_szStringS.l0 k x0 (wrap64 (x1 - ((rdOf ByteArray.empty x0 x5).size : Int))) (wrap64 (x5 + 1)))) else (none)) else (some x1)
def laws_szStringS.f (k : Nat) (l0 : List ByteArray) (a1 : Int) : Option (Int) := if (wrap64 (a1 - (l0.length : Int))) < 0 then (some (-1)) else (laws_szStringS.l0 k l0 (wrap64 (a1 - (l0.length : Int))) 0)
theorem laws_szStringS.mono_l : ∀ k, (∀ y0 y1 y2, LeO (laws_szStringS.l0 k y0 y1 y2) (laws_szStringS.l0 (k + 1) y0 y1 y2))
 | 0 => fun _ _ _ r h => by simp [laws_szStringS.l0] at h
 | k + 1 => by
  have ih0 := laws_szStringS.mono_l k
  ·intro y0 y1 y2
   unfold laws_szStringS.l0
   repeat' first
   | (with_reducible exact ih0 _ _ _)
   | (with_reducible first | exact LeO.refl _ | exact LeO.none _ | refine LeO.ite ?_ ?_ | refine LeO.bind ?_ (fun _ => ?_))
   | exact ih0 _ _ _ | exact LeO.none _ | refine LeO.ite ?_ ?_ | refine LeO.bind ?_ (fun _ => ?_)
theorem laws_szStringS.mono : ∀ a0 a1 k, LeO (laws_szStringS.f k a0 a1) (laws_szStringS.f (k + 1) a0 a1) := by
 intro a0 a1 k
 have ih0 := laws_szStringS.mono_l k
 unfold laws_szStringS.f
 repeat' first
   | (with_reducible exact ih0 _ _ _)
   | (with_reducible first | exact LeO.refl _ | exact LeO.none _ | refine LeO.ite ?_ ?_ | refine LeO.bind ?_ (fun _ => ?_))
   | exact ih0 _ _ _ | exact LeO.none _ | refine LeO.ite ?_ ?_ | refine LeO.bind ?_ (fun _ => ?_)
set_option maxHeartbeats 8000000 in
set_option maxRecDepth 100000 in
theorem laws_szStringS.calls (k : Nat) (A0 : Option Addr) (c0 : Nat) (l0 : List ByteArray) (a1 : Int) (r : Int) (w : World) (hr0 : Kd.C Kd.string w A0 l0.length l0) (hc0 : l0.length ≤ c0) (h : laws_szStringS.f k l0 a1 = some r) :
  Calls Try.prog 23 #[.slice A0 l0.length c0, .int .i64 a1] w fun e w' => e = .returned (.int .i64 r) ∧ Drawn0 w w' := by
 have HR0 := Aside0.mk hr0
 have HC0 := Aside0.mk hc0
 clear hr0 hc0
 have H : (if (wrap64 (a1 - (l0.length : Int))) < 0 then (some (-1)) else (laws_szStringS.l0 k l0 (wrap64 (a1 - (l0.length : Int))) 0)) = some r := h
 clear h
 by_cases c3 : (wrap64 (a1 - (l0.length : Int))) < 0
 ·rw [if_pos c3] at H
  have c3b0 : decide ((wrap64 (a1 - (l0.length : Int))) < 0) = true := decide_eq_true c3
  clear c3
  obtain rfl := Option.some.inj H
  go_enter Try.func23, Try.ntmps23
  go_wp2
  go_ret
  exact ⟨by first | rfl | (simp; done) | (simp [*]; done) | exact not_isEmpty _ | exact (not_isEmpty _).symm | exact is_empty _ | exact (is_empty _).symm, by repeat (first | exact Drawn0.refl _ | apply Drawn0.step)⟩
 ·rw [if_neg c3] at H
  have c3b0 : decide ((wrap64 (a1 - (l0.length : Int))) < 0) = false := decide_eq_false c3
  clear c3
  have H' := Aside0.mk H
  clear H
  go_enter Try.func23, Try.ntmps23
  go_wp2
  go_loopg [1, 5] k (fun kq v1 v5 w' => ∃ (x1_1 : Int) (x5_1 : Int), v1 = .int .i64 x1_1 ∧ v5 = .int .i64 x5_1 ∧ Aside0 (laws_szStringS.l0 kq l0 x1_1 x5_1 = some r) ∧ Aside0 (kq ≤ k) ∧ Drawn0 w w')
  case atStart => exact ⟨(wrap64 (a1 - (l0.length : Int))), (0), tE, tE, H', ⟨Nat.le_refl _⟩, by repeat (first | exact Drawn0.refl _ | apply Drawn0.step)⟩
  case round =>
   clear H'
   try clear c2
   try clear p2
   try clear c3
   try clear c3b0
   obtain ⟨x1_1, x5_1, rfl, rfl, HA, HK1, ⟨m1, rfl⟩⟩ := hrel
   cases gk with
   | zero => exact absurd HA.out (by simp [laws_szStringS.l0])
   | succ k1 =>
    have H := HA.out
    clear HA
    simp only [laws_szStringS.l0] at H
    by_cases c4 : x5_1 < (l0.length : Int)
    ·rw [if_pos c4] at H
     have c4b0 : decide (x5_1 < (l0.length : Int)) = true := decide_eq_true c4
     clear c4
     by_cases c5 : 0 ≤ x5_1
     ·rw [if_pos c5] at H
      have c5b0 : decide (0 ≤ x5_1) = true := decide_eq_true c5
      clear c5
      by_cases c6 : (wrap64 (x1_1 - ((rdOf ByteArray.empty l0 x5_1).size : Int))) < 0
      ·rw [if_pos c6] at H
       have c6b0 : decide ((wrap64 (x1_1 - ((rdOf ByteArray.empty l0 x5_1).size : Int))) < 0) = true := decide_eq_true c6
       clear c6
       obtain rfl := Option.some.inj H
       have p101 : 0 ≤ (x5_1 : Int) := of_decide_eq_true hE
       have q101 : x5_1 < (l0.length : Int) := of_decide_eq_true hE
       obtain ⟨ad101, e101, hx101_0⟩ := Kd.at_string HR0.out x5_1 p101 q101
       cases e101
       replace p101 := eq_true p101
       replace q101 := eq_true q101
       go_wp2
       go_ret
       exact ⟨by first | rfl | (simp; done) | (simp [*]; done) | exact not_isEmpty _ | exact (not_isEmpty _).symm | exact is_empty _ | exact (is_empty _).symm, by repeat (first | exact Drawn0.refl _ | apply Drawn0.step)⟩
      ·rw [if_neg c6] at H
       have c6b0 : decide ((wrap64 (x1_1 - ((rdOf ByteArray.empty l0 x5_1).size : Int))) < 0) = false := decide_eq_false c6
       clear c6
       have H' := Aside0.mk H
       clear H
       have p101 : 0 ≤ (x5_1 : Int) := of_decide_eq_true hE
       have q101 : x5_1 < (l0.length : Int) := of_decide_eq_true hE
       obtain ⟨ad101, e101, hx101_0⟩ := Kd.at_string HR0.out x5_1 p101 q101
       cases e101
       replace p101 := eq_true p101
       replace q101 := eq_true q101
       go_wp2
       go_roundg k1
       case measure => have := HK1.out; omega
       case rel => exact ⟨(wrap64 (x1_1 - ((rdOf ByteArray.empty l0 x5_1).size : Int))), (wrap64 (x5_1 + 1)), tE, tE, H', ⟨by have := HK1.out; omega⟩, by repeat (first | exact Drawn0.refl _ | apply Drawn0.step)⟩
     ·rw [if_neg c5] at H
      exact absurd H (by simp)
    ·rw [if_neg c4] at H
     have c4b0 : decide (x5_1 < (l0.length : Int)) = false := decide_eq_false c4
     clear c4
     obtain rfl := Option.some.inj H
     go_wp2
     go_ret
     exact ⟨by first | rfl | (simp; done) | (simp [*]; done) | exact not_isEmpty _ | exact (not_isEmpty _).symm | exact is_empty _ | exact (is_empty _).symm, by repeat (first | exact Drawn0.refl _ | apply Drawn0.step)⟩
def laws_szByteS.f (l0 : List Int) (a1 : Int) : Option (Int) := if (wrap64 (a1 - (l0.length : Int))) < 0 then (some (-1)) else (some (wrap64 (a1 - (l0.length : Int))))
set_option maxHeartbeats 8000000 in
set_option maxRecDepth 100000 in
theorem laws_szByteS.calls (A0 : Option Addr) (c0 : Nat) (l0 : List Int) (a1 : Int) (r : Int) (w : World) (hr0 : Kd.C (Kd.int .u8) w A0 l0.length l0) (hc0 : l0.length ≤ c0) (h : laws_szByteS.f l0 a1 = some r) :
  Calls Try.prog 24 #[.slice A0 l0.length c0, .int .i64 a1] w fun e w' => e = .returned (.int .i64 r) ∧ Drawn0 w w' := by
 have HR0 := Aside0.mk hr0
 have HC0 := Aside0.mk hc0
 clear hr0 hc0
 have H : (if (wrap64 (a1 - (l0.length : Int))) < 0 then (some (-1)) else (some (wrap64 (a1 - (l0.length : Int))))) = some r := h
 clear h
 by_cases c3 : (wrap64 (a1 - (l0.length : Int))) < 0
 ·rw [if_pos c3] at H
  have c3b0 : decide ((wrap64 (a1 - (l0.length : Int))) < 0) = true := decide_eq_true c3
  clear c3
  obtain rfl := Option.some.inj H
  go_enter Try.func24, Try.ntmps24
  go_wp2
  go_ret
  exact ⟨by first | rfl | (simp; done) | (simp [*]; done) | exact not_isEmpty _ | exact (not_isEmpty _).symm | exact is_empty _ | exact (is_empty _).symm, by repeat (first | exact Drawn0.refl _ | apply Drawn0.step)⟩
 ·rw [if_neg c3] at H
  have c3b0 : decide ((wrap64 (a1 - (l0.length : Int))) < 0) = false := decide_eq_false c3
  clear c3
  obtain rfl := Option.some.inj H
  go_enter Try.func24, Try.ntmps24
  go_wp2
  go_ret
  exact ⟨by first | rfl | (simp; done) | (simp [*]; done) | exact not_isEmpty _ | exact (not_isEmpty _).symm | exact is_empty _ | exact (is_empty _).symm, by repeat (first | exact Drawn0.refl _ | apply Drawn0.step)⟩
def laws_szAsset.f (k : Nat) (a0_0 : ByteArray) (l0_1 : List ByteArray) (l0_2 : List Int) (a1 : Int) : Option (Int) := if (wrap64 (a1 - (a0_0.size : Int))) < 0 then (some (-1)) else ((laws_szStringS.f k l0_1 (wrap64 (a1 - (a0_0.size : Int)))).bind fun t103 => (if t103 < 0 then (some (-1)) else ((laws_szByteS.f l0_2 t103).bind fun t104 => (if t104 < 0 then (some (-1)) else (some t104)))))
theorem laws_szAsset.mono : ∀ a0 a1 a2 a3 k, LeO (laws_szAsset.f k a0 a1 a2 a3) (laws_szAsset.f (k + 1) a0 a1 a2 a3) := by
 intro a0 a1 a2 a3 k
 unfold laws_szAsset.f
 repeat' first
   | (with_reducible exact laws_szStringS.mono _ _ _)
   | (with_reducible first | exact LeO.refl _ | exact LeO.none _ | refine LeO.ite ?_ ?_ | refine LeO.bind ?_ (fun _ => ?_))
   | exact laws_szStringS.mono _ _ _ | exact LeO.none _ | refine LeO.ite ?_ ?_ | refine LeO.bind ?_ (fun _ => ?_)
set_option maxHeartbeats 8000000 in
set_option maxRecDepth 100000 in
theorem laws_szAsset.calls (k : Nat) (a0_0 : ByteArray) (A0_1 : Option Addr) (c0_1 : Nat) (l0_1 : List ByteArray) (A0_2 : Option Addr) (c0_2 : Nat) (l0_2 : List Int) (a1 : Int) (r : Int) (w : World) (hr0_1 : Kd.C Kd.string w A0_1 l0_1.length l0_1) (hc0_1 : l0_1.length ≤ c0_1) (hr0_2 : Kd.C (Kd.int .u8) w A0_2 l0_2.length l0_2) (hc0_2 : l0_2.length ≤ c0_2) (h : laws_szAsset.f k a0_0 l0_1 l0_2 a1 = some r) :
  Calls Try.prog 13 #[.agg #[.string a0_0, .slice A0_1 l0_1.length c0_1, .slice A0_2 l0_2.length c0_2], .int .i64 a1] w fun e w' => e = .returned (.int .i64 r) ∧ Below w.heap.size w w' := by
 have hu37 := Try.underlying37
 have HR0_1 := Aside0.mk hr0_1
 have HC0_1 := Aside0.mk hc0_1
 clear hr0_1 hc0_1
 have HR0_2 := Aside0.mk hr0_2
 have HC0_2 := Aside0.mk hc0_2
 clear hr0_2 hc0_2
 have HB := Aside0.mk (Below.refl w.heap.size w)
 have H : (if (wrap64 (a1 - (a0_0.size : Int))) < 0 then (some (-1)) else ((laws_szStringS.f k l0_1 (wrap64 (a1 - (a0_0.size : Int)))).bind fun t103 => (if t103 < 0 then (some (-1)) else ((laws_szByteS.f l0_2 t103).bind fun t104 => (if t104 < 0 then (some (-1)) else (some t104)))))) = some r := h
 clear h
 by_cases c3 : (wrap64 (a1 - (a0_0.size : Int))) < 0
 ·rw [if_pos c3] at H
  have c3b0 : decide ((wrap64 (a1 - (a0_0.size : Int))) < 0) = true := decide_eq_true c3
  clear c3
  obtain rfl := Option.some.inj H
  go_enter Try.func13, Try.ntmps13
  go_wp2_with (first | ((with_reducible refine gate_dst (N := 2) rfl ?_); refine box_event rfl (N := 2) rfl (cs := #[.string a0_0, .slice A0_1 l0_1.length c0_1, .slice A0_2 l0_2.length c0_2]) (t := 37) sE ?_; intro gb102 hg w4 hbox hb; have BK102 := Aside0.mk hbox; have GW102 := gS w hg (lU); have GE102 := gS w hg (lU); replace HB := bH (lU) hb; clear hb hbox hg; have hcz5_0 := cz BK102 0 (.string a0_0); have hcz5_1 := cz BK102 1 (.slice A0_1 l0_1.length c0_1); have hcz5_2 := cz BK102 2 (.slice A0_2 l0_2.length c0_2); have hfz5_0 := fz BK102 0; have hfz5_1 := fz BK102 1; have hfz5_2 := fz BK102 2))
  go_ret
  exact ⟨eE, lV1 GE102⟩
 ·rw [if_neg c3] at H
  have c3b0 : decide ((wrap64 (a1 - (a0_0.size : Int))) < 0) = false := decide_eq_false c3
  clear c3
  replace H := Option.bind_eq_some_iff.mp H
  obtain ⟨t103, A60, H⟩ := H
  replace H : (if t103 < 0 then (some (-1)) else ((laws_szByteS.f l0_2 t103).bind fun t104 => (if t104 < 0 then (some (-1)) else (some t104)))) = some r := H
  have A6 := Aside0.mk A60
  clear A60
  by_cases c7 : t103 < 0
  ·rw [if_pos c7] at H
   have c7b0 : decide (t103 < 0) = true := decide_eq_true c7
   clear c7
   obtain rfl := Option.some.inj H
   go_enter Try.func13, Try.ntmps13
   go_wp2_with (first | ((with_reducible refine gate_dst (N := 2) rfl ?_); refine box_event rfl (N := 2) rfl (cs := #[.string a0_0, .slice A0_1 l0_1.length c0_1, .slice A0_2 l0_2.length c0_2]) (t := 37) sE ?_; intro gb102 hg w8 hbox hb; have BK102 := Aside0.mk hbox; have GW102 := gS w hg (lU); have GE102 := gS w hg (lU); replace HB := bH (lU) hb; clear hb hbox hg; have hcz9_0 := cz BK102 0 (.string a0_0); have hcz9_1 := cz BK102 1 (.slice A0_1 l0_1.length c0_1); have hcz9_2 := cz BK102 2 (.slice A0_2 l0_2.length c0_2); have hfz9_0 := fz BK102 0; have hfz9_1 := fz BK102 1; have hfz9_2 := fz BK102 2) | ((with_reducible refine gate_callee (f := 23) rfl ?_); refine goesL_ (some 15) rfl rfl Try.func23 (by kernel_rfl) rfl #[.slice A0_1 l0_1.length c0_1, .int .i64 (wrap64 (a1 - (a0_0.size : Int)))] rfl aE ?_; (with_reducible refine (laws_szStringS.calls k _ _ l0_1 (wrap64 (a1 - (a0_0.size : Int))) t103 _ ?side1 ?side2 A6.out).mono ?_); (case side1 => exact cU (Kd.C_below HR0_1.out HB.out)); (case side2 => exact HC0_1.out); rintro e w' ⟨rfl, ⟨nd, rfl⟩⟩; refine ⟨_, rfl, ?_⟩))
   go_ret
   exact ⟨eE, lV1 GE102⟩
  ·rw [if_neg c7] at H
   have c7b0 : decide (t103 < 0) = false := decide_eq_false c7
   clear c7
   replace H := Option.bind_eq_some_iff.mp H
   obtain ⟨t104, A100, H⟩ := H
   replace H : (if t104 < 0 then (some (-1)) else (some t104)) = some r := H
   have A10 := Aside0.mk A100
   clear A100
   by_cases c11 : t104 < 0
   ·rw [if_pos c11] at H
    have c11b0 : decide (t104 < 0) = true := decide_eq_true c11
    clear c11
    obtain rfl := Option.some.inj H
    go_enter Try.func13, Try.ntmps13
    go_wp2_with (first | ((with_reducible refine gate_dst (N := 2) rfl ?_); refine box_event rfl (N := 2) rfl (cs := #[.string a0_0, .slice A0_1 l0_1.length c0_1, .slice A0_2 l0_2.length c0_2]) (t := 37) sE ?_; intro gb102 hg w12 hbox hb; have BK102 := Aside0.mk hbox; have GW102 := gS w hg (lU); have GE102 := gS w hg (lU); replace HB := bH (lU) hb; clear hb hbox hg; have hcz13_0 := cz BK102 0 (.string a0_0); have hcz13_1 := cz BK102 1 (.slice A0_1 l0_1.length c0_1); have hcz13_2 := cz BK102 2 (.slice A0_2 l0_2.length c0_2); have hfz13_0 := fz BK102 0; have hfz13_1 := fz BK102 1; have hfz13_2 := fz BK102 2) | ((with_reducible refine gate_callee (f := 23) rfl ?_); refine goesL_ (some 15) rfl rfl Try.func23 (by kernel_rfl) rfl #[.slice A0_1 l0_1.length c0_1, .int .i64 (wrap64 (a1 - (a0_0.size : Int)))] rfl aE ?_; (with_reducible refine (laws_szStringS.calls k _ _ l0_1 (wrap64 (a1 - (a0_0.size : Int))) t103 _ ?side1 ?side2 A6.out).mono ?_); (case side1 => exact cU (Kd.C_below HR0_1.out HB.out)); (case side2 => exact HC0_1.out); rintro e w' ⟨rfl, ⟨nd, rfl⟩⟩; refine ⟨_, rfl, ?_⟩) | ((with_reducible refine gate_callee (f := 24) rfl ?_); refine goesL_ (some 21) rfl rfl Try.func24 (by kernel_rfl) rfl #[.slice A0_2 l0_2.length c0_2, .int .i64 t103] rfl aE ?_; (with_reducible refine (laws_szByteS.calls _ _ l0_2 t103 t104 _ ?side1 ?side2 A10.out).mono ?_); (case side1 => exact cU (Kd.C_below HR0_2.out (lV1 GE102))); (case side2 => exact HC0_2.out); rintro e w' ⟨rfl, ⟨nd, rfl⟩⟩; refine ⟨_, rfl, ?_⟩))
    go_ret
    exact ⟨eE, lV1 GE102⟩
   ·rw [if_neg c11] at H
    have c11b0 : decide (t104 < 0) = false := decide_eq_false c11
    clear c11
    obtain rfl := Option.some.inj H
    go_enter Try.func13, Try.ntmps13
    go_wp2_with (first | ((with_reducible refine gate_dst (N := 2) rfl ?_); refine box_event rfl (N := 2) rfl (cs := #[.string a0_0, .slice A0_1 l0_1.length c0_1, .slice A0_2 l0_2.length c0_2]) (t := 37) sE ?_; intro gb102 hg w14 hbox hb; have BK102 := Aside0.mk hbox; have GW102 := gS w hg (lU); have GE102 := gS w hg (lU); replace HB := bH (lU) hb; clear hb hbox hg; have hcz15_0 := cz BK102 0 (.string a0_0); have hcz15_1 := cz BK102 1 (.slice A0_1 l0_1.length c0_1); have hcz15_2 := cz BK102 2 (.slice A0_2 l0_2.length c0_2); have hfz15_0 := fz BK102 0; have hfz15_1 := fz BK102 1; have hfz15_2 := fz BK102 2) | ((with_reducible refine gate_callee (f := 23) rfl ?_); refine goesL_ (some 15) rfl rfl Try.func23 (by kernel_rfl) rfl #[.slice A0_1 l0_1.length c0_1, .int .i64 (wrap64 (a1 - (a0_0.size : Int)))] rfl aE ?_; (with_reducible refine (laws_szStringS.calls k _ _ l0_1 (wrap64 (a1 - (a0_0.size : Int))) t103 _ ?side1 ?side2 A6.out).mono ?_); (case side1 => exact cU (Kd.C_below HR0_1.out HB.out)); (case side2 => exact HC0_1.out); rintro e w' ⟨rfl, ⟨nd, rfl⟩⟩; refine ⟨_, rfl, ?_⟩) | ((with_reducible refine gate_callee (f := 24) rfl ?_); refine goesL_ (some 21) rfl rfl Try.func24 (by kernel_rfl) rfl #[.slice A0_2 l0_2.length c0_2, .int .i64 t103] rfl aE ?_; (with_reducible refine (laws_szByteS.calls _ _ l0_2 t103 t104 _ ?side1 ?side2 A10.out).mono ?_); (case side1 => exact cU (Kd.C_below HR0_2.out (lV1 GE102))); (case side2 => exact HC0_2.out); rintro e w' ⟨rfl, ⟨nd, rfl⟩⟩; refine ⟨_, rfl, ?_⟩))
    go_ret
    exact ⟨eE, lV1 GE102⟩
def laws_szAssetS.l0 : Nat → List (S37) → Int → Int → Option (Int)
 | 0, _, _, _ => none
 | k + 1, x0, x1, x5 => if x5 < (x0.length : Int) then (if 0 ≤ x5 then ((laws_szAsset.f k ((rd_T37 x0 x5).f0) ((rd_T37 x0 x5).f1) ((rd_T37 x0 x5).f2) x1).bind fun t106 => (if t106 < 0 then (some (-1)) else (laws_szAssetS.l0 k x0 t106 (wrap64 (x5 + 1))))) else (none)) else (some x1)
def laws_szAssetS.f (k : Nat) (l0 : List (S37)) (a1 : Int) : Option (Int) := if (wrap64 (a1 - (l0.length : Int))) < 0 then (some (-1)) else (laws_szAssetS.l0 k l0 (wrap64 (a1 - (l0.length : Int))) 0)
theorem laws_szAssetS.mono_l : ∀ k, (∀ y0 y1 y2, LeO (laws_szAssetS.l0 k y0 y1 y2) (laws_szAssetS.l0 (k + 1) y0 y1 y2))
 | 0 => fun _ _ _ r h => by simp [laws_szAssetS.l0] at h
 | k + 1 => by
  have ih0 := laws_szAssetS.mono_l k
  ·intro y0 y1 y2
   unfold laws_szAssetS.l0
   repeat' first
   | (with_reducible exact ih0 _ _ _)
   | (with_reducible exact laws_szAsset.mono _ _ _ _ _)
   | (with_reducible first | exact LeO.refl _ | exact LeO.none _ | refine LeO.ite ?_ ?_ | refine LeO.bind ?_ (fun _ => ?_))
   | exact ih0 _ _ _
   | exact laws_szAsset.mono _ _ _ _ _ | exact LeO.none _ | refine LeO.ite ?_ ?_ | refine LeO.bind ?_ (fun _ => ?_)
theorem laws_szAssetS.mono : ∀ a0 a1 k, LeO (laws_szAssetS.f k a0 a1) (laws_szAssetS.f (k + 1) a0 a1) := by
 intro a0 a1 k
 have ih0 := laws_szAssetS.mono_l k
 unfold laws_szAssetS.f
 repeat' first
   | (with_reducible exact ih0 _ _ _)
   | (with_reducible exact laws_szAsset.mono _ _ _ _ _)
   | (with_reducible first | exact LeO.refl _ | exact LeO.none _ | refine LeO.ite ?_ ?_ | refine LeO.bind ?_ (fun _ => ?_))
   | exact ih0 _ _ _
   | exact laws_szAsset.mono _ _ _ _ _ | exact LeO.none _ | refine LeO.ite ?_ ?_ | refine LeO.bind ?_ (fun _ => ?_)
set_option maxHeartbeats 8000000 in
set_option maxRecDepth 100000 in
theorem laws_szAssetS.calls (k : Nat) (A0 : Option Addr) (c0 : Nat) (l0 : List (S37)) (a1 : Int) (r : Int) (w : World) (hr0 : Kd.C k37 w A0 l0.length l0) (hc0 : l0.length ≤ c0) (h : laws_szAssetS.f k l0 a1 = some r) :
  Calls Try.prog 4 #[.slice A0 l0.length c0, .int .i64 a1] w fun e w' => e = .returned (.int .i64 r) ∧ Below w.heap.size w w' := by
 have hu37 := Try.underlying37
 have HR0 := Aside0.mk hr0
 have HC0 := Aside0.mk hc0
 clear hr0 hc0
 have HB := Aside0.mk (Below.refl w.heap.size w)
 have H : (if (wrap64 (a1 - (l0.length : Int))) < 0 then (some (-1)) else (laws_szAssetS.l0 k l0 (wrap64 (a1 - (l0.length : Int))) 0)) = some r := h
 clear h
 by_cases c3 : (wrap64 (a1 - (l0.length : Int))) < 0
 ·rw [if_pos c3] at H
  have c3b0 : decide ((wrap64 (a1 - (l0.length : Int))) < 0) = true := decide_eq_true c3
  clear c3
  obtain rfl := Option.some.inj H
  go_enter Try.func4, Try.ntmps4
  go_wp2
  go_ret
  exact ⟨eE, lU⟩
 ·rw [if_neg c3] at H
  have c3b0 : decide ((wrap64 (a1 - (l0.length : Int))) < 0) = false := decide_eq_false c3
  clear c3
  have H' := Aside0.mk H
  clear H
  go_enter Try.func4, Try.ntmps4
  go_wp2
  go_loopg [1, 5] k (fun kq v1 v5 w' => ∃ (x1_1 : Int) (x5_1 : Int), v1 = .int .i64 x1_1 ∧ v5 = .int .i64 x5_1 ∧ Aside0 (laws_szAssetS.l0 kq l0 x1_1 x5_1 = some r) ∧ Aside0 (kq ≤ k) ∧ Aside0 (Below w.heap.size w w'))
  case atStart => exact ⟨(wrap64 (a1 - (l0.length : Int))), (0), tE, tE, H', ⟨Nat.le_refl _⟩, ⟨by repeat (first | (with_reducible first | exact HB.out | apply below_alloc | apply pw_below_drewN | apply below_drew1) | exact HB.out)⟩⟩
  case round =>
   clear H'
   try clear p2
   try clear c3
   try clear c3b0
   obtain ⟨x1_1, x5_1, rfl, rfl, HA, HK1, HB⟩ := hrel
   cases gk with
   | zero => exact absurd HA.out (by simp [laws_szAssetS.l0])
   | succ k1 =>
    have H := HA.out
    clear HA
    simp only [laws_szAssetS.l0] at H
    by_cases c4 : x5_1 < (l0.length : Int)
    ·rw [if_pos c4] at H
     have c4b0 : decide (x5_1 < (l0.length : Int)) = true := decide_eq_true c4
     clear c4
     by_cases c5 : 0 ≤ x5_1
     ·rw [if_pos c5] at H
      have c5b0 : decide (0 ≤ x5_1) = true := decide_eq_true c5
      clear c5
      replace H := Option.bind_eq_some_iff.mp H
      obtain ⟨t106, A60, H⟩ := H
      replace H : (if t106 < 0 then (some (-1)) else (laws_szAssetS.l0 k1 l0 t106 (wrap64 (x5_1 + 1)))) = some r := H
      have A6 := Aside0.mk A60
      clear A60
      by_cases c7 : t106 < 0
      ·rw [if_pos c7] at H
       have c7b0 : decide (t106 < 0) = true := decide_eq_true c7
       clear c7
       obtain rfl := Option.some.inj H
       have p105 : 0 ≤ (x5_1 : Int) := of_decide_eq_true hE
       have q105 : x5_1 < (l0.length : Int) := of_decide_eq_true hE
       obtain ⟨ad105, A105_1, c105_1, A105_2, c105_2, e105, hx105_0, hx105_1, hx105_2, hl105_1, hi105_1, hl105_2, hi105_2⟩ := at_T37 HR0.out x5_1 p105 q105
       cases e105
       replace hx105_0 := (HB.out.cell (World.block_lt_of_cell? w _ hx105_0)).trans hx105_0
       replace hx105_1 := (HB.out.cell (World.block_lt_of_cell? w _ hx105_1)).trans hx105_1
       replace hx105_2 := (HB.out.cell (World.block_lt_of_cell? w _ hx105_2)).trans hx105_2
       have HR105_1 := Aside0.mk hi105_1
       have HC105_1 := Aside0.mk hl105_1
       clear hi105_1 hl105_1
       have HR105_2 := Aside0.mk hi105_2
       have HC105_2 := Aside0.mk hl105_2
       clear hi105_2 hl105_2
       replace p105 := eq_true p105
       replace q105 := eq_true q105
       go_wp2_with (first | ((with_reducible refine gate_callee (f := 13) rfl ?_); refine goesL_ (some 23) rfl rfl Try.func13 (by kernel_rfl) rfl #[.agg #[.string ((rd_T37 l0 x5_1).f0), .slice A105_1 ((rd_T37 l0 x5_1).f1).length c105_1, .slice A105_2 ((rd_T37 l0 x5_1).f2).length c105_2], .int .i64 x1_1] rfl aE ?_; (with_reducible refine (laws_szAsset.calls k1 ((rd_T37 l0 x5_1).f0) _ _ ((rd_T37 l0 x5_1).f1) _ _ ((rd_T37 l0 x5_1).f2) x1_1 t106 _ ?side1 ?side2 ?side3 ?side4 A6.out).mono ?_); (case side1 => exact cU (Kd.C_below HR105_1.out HB.out)); (case side2 => exact HC105_1.out); (case side3 => exact cU (Kd.C_below HR105_2.out HB.out)); (case side4 => exact HC105_2.out); rintro e w8 ⟨rfl, hb⟩; refine ⟨_, rfl, ?_⟩; replace HB := bH (lU) hb; (try clear hb)))
       go_ret
       exact ⟨eE, lU⟩
      ·rw [if_neg c7] at H
       have c7b0 : decide (t106 < 0) = false := decide_eq_false c7
       clear c7
       have H' := Aside0.mk H
       clear H
       have p105 : 0 ≤ (x5_1 : Int) := of_decide_eq_true hE
       have q105 : x5_1 < (l0.length : Int) := of_decide_eq_true hE
       obtain ⟨ad105, A105_1, c105_1, A105_2, c105_2, e105, hx105_0, hx105_1, hx105_2, hl105_1, hi105_1, hl105_2, hi105_2⟩ := at_T37 HR0.out x5_1 p105 q105
       cases e105
       replace hx105_0 := (HB.out.cell (World.block_lt_of_cell? w _ hx105_0)).trans hx105_0
       replace hx105_1 := (HB.out.cell (World.block_lt_of_cell? w _ hx105_1)).trans hx105_1
       replace hx105_2 := (HB.out.cell (World.block_lt_of_cell? w _ hx105_2)).trans hx105_2
       have HR105_1 := Aside0.mk hi105_1
       have HC105_1 := Aside0.mk hl105_1
       clear hi105_1 hl105_1
       have HR105_2 := Aside0.mk hi105_2
       have HC105_2 := Aside0.mk hl105_2
       clear hi105_2 hl105_2
       replace p105 := eq_true p105
       replace q105 := eq_true q105
       go_wp2_with (first | ((with_reducible refine gate_callee (f := 13) rfl ?_); refine goesL_ (some 23) rfl rfl Try.func13 (by kernel_rfl) rfl #[.agg #[.string ((rd_T37 l0 x5_1).f0), .slice A105_1 ((rd_T37 l0 x5_1).f1).length c105_1, .slice A105_2 ((rd_T37 l0 x5_1).f2).length c105_2], .int .i64 x1_1] rfl aE ?_; (with_reducible refine (laws_szAsset.calls k1 ((rd_T37 l0 x5_1).f0) _ _ ((rd_T37 l0 x5_1).f1) _ _ ((rd_T37 l0 x5_1).f2) x1_1 t106 _ ?side1 ?side2 ?side3 ?side4 A6.out).mono ?_); (case side1 => exact cU (Kd.C_below HR105_1.out HB.out)); (case side2 => exact HC105_1.out); (case side3 => exact cU (Kd.C_below HR105_2.out HB.out)); (case side4 => exact HC105_2.out); rintro e w9 ⟨rfl, hb⟩; refine ⟨_, rfl, ?_⟩; replace HB := bH (lU) hb; (try clear hb)))
       go_roundg k1
       case measure => have := HK1.out; omega
       case rel => exact ⟨(t106), (wrap64 (x5_1 + 1)), tE, tE, H', ⟨by have := HK1.out; omega⟩, ⟨by repeat (first | (with_reducible first | exact HB.out | apply below_alloc | apply pw_below_drewN | apply below_drew1) | exact HB.out)⟩⟩
     ·rw [if_neg c5] at H
      exact absurd H (by simp)
    ·rw [if_neg c4] at H
     have c4b0 : decide (x5_1 < (l0.length : Int)) = false := decide_eq_false c4
     clear c4
     obtain rfl := Option.some.inj H
     go_wp2
     go_ret
     exact ⟨eE, lU⟩
def spec_l21At.l0 : Nat → ByteArray → List (S41) → Int → Int → Option (Int)
 | 0, _, _, _, _ => none
 | k + 1, x1, x7, x8, x9 => if x9 < x8 then (if 0 ≤ x9 then (if x9 < (x7.length : Int) then (if ((rd_T41 x7 x9).f0).toList = x1.toList then (some x9) else (spec_l21At.l0 k x1 x7 x8 (wrap64 (x9 + 1)))) else (none)) else (none)) else (some (-1))
def spec_l21At.f (k : Nat) (l0 : List (S41)) (a1 : ByteArray) : Option (Int) := spec_l21At.l0 k a1 l0 (l0.length : Int) 0
theorem spec_l21At.mono_l : ∀ k, (∀ y0 y1 y2 y3, LeO (spec_l21At.l0 k y0 y1 y2 y3) (spec_l21At.l0 (k + 1) y0 y1 y2 y3))
 | 0 => fun _ _ _ _ r h => by simp [spec_l21At.l0] at h
 | k + 1 => by
  have ih0 := spec_l21At.mono_l k
  ·intro y0 y1 y2 y3
   unfold spec_l21At.l0
   repeat' first
   | (with_reducible exact ih0 _ _ _ _)
   | (with_reducible first | exact LeO.refl _ | exact LeO.none _ | refine LeO.ite ?_ ?_ | refine LeO.bind ?_ (fun _ => ?_))
   | exact ih0 _ _ _ _ | exact LeO.none _ | refine LeO.ite ?_ ?_ | refine LeO.bind ?_ (fun _ => ?_)
theorem spec_l21At.mono : ∀ a0 a1 k, LeO (spec_l21At.f k a0 a1) (spec_l21At.f (k + 1) a0 a1) := by
 intro a0 a1 k
 have ih0 := spec_l21At.mono_l k
 unfold spec_l21At.f
 repeat' first
   | (with_reducible exact ih0 _ _ _ _)
   | (with_reducible first | exact LeO.refl _ | exact LeO.none _ | refine LeO.ite ?_ ?_ | refine LeO.bind ?_ (fun _ => ?_))
   | exact ih0 _ _ _ _ | exact LeO.none _ | refine LeO.ite ?_ ?_ | refine LeO.bind ?_ (fun _ => ?_)
set_option maxHeartbeats 8000000 in
set_option maxRecDepth 100000 in
theorem spec_l21At.calls (k : Nat) (A0 : Option Addr) (c0 : Nat) (l0 : List (S41)) (a1 : ByteArray) (r : Int) (w : World) (hr0 : Kd.C k41 w A0 l0.length l0) (hc0 : l0.length ≤ c0) (h : spec_l21At.f k l0 a1 = some r) :
  Calls Try.prog 16 #[.slice A0 l0.length c0, .string a1] w fun e w' => e = .returned (.int .i64 r) ∧ Below w.heap.size w w' := by
 have hu41 := Try.underlying41
 have HR0 := Aside0.mk hr0
 have HC0 := Aside0.mk hc0
 clear hr0 hc0
 have HB := Aside0.mk (Below.refl w.heap.size w)
 have H : (spec_l21At.l0 k a1 l0 (l0.length : Int) 0) = some r := h
 clear h
 have H' := Aside0.mk H
 clear H
 go_enter Try.func16, Try.ntmps16
 go_wp2
 go_loopg [9] k (fun kq v9 w' => ∃ (x9_1 : Int), v9 = .int .i64 x9_1 ∧ Aside0 (spec_l21At.l0 kq a1 l0 (l0.length : Int) x9_1 = some r) ∧ Aside0 (kq ≤ k) ∧ Aside0 (Below w.heap.size w w'))
 case atStart => exact ⟨(0), tE, H', ⟨Nat.le_refl _⟩, ⟨by repeat (first | (with_reducible first | exact HB.out | apply below_alloc | apply pw_below_drewN | apply below_drew1) | exact HB.out)⟩⟩
 case round =>
  clear H'
  try clear c1
  try clear p2
  obtain ⟨x9_1, rfl, HA, HK1, HB⟩ := hrel
  cases gk with
  | zero => exact absurd HA.out (by simp [spec_l21At.l0])
  | succ k1 =>
   have H := HA.out
   clear HA
   simp only [spec_l21At.l0] at H
   by_cases c3 : x9_1 < (l0.length : Int)
   ·rw [if_pos c3] at H
    have c3b0 : decide (x9_1 < (l0.length : Int)) = true := decide_eq_true c3
    clear c3
    by_cases c4 : 0 ≤ x9_1
    ·rw [if_pos c4] at H
     have c4b0 : decide (0 ≤ x9_1) = true := decide_eq_true c4
     clear c4
     by_cases c5 : x9_1 < (l0.length : Int)
     ·rw [if_pos c5] at H
      have c5b0 : decide (x9_1 < (l0.length : Int)) = true := decide_eq_true c5
      clear c5
      by_cases c6 : ((rd_T41 l0 x9_1).f0).toList = a1.toList
      ·rw [if_pos c6] at H
       have c6b0 : (((rd_T41 l0 x9_1).f0).toList == a1.toList) = true := beq_iff_eq.mpr c6
       have c6b1 : (((rd_T41 l0 x9_1).f0).toList != a1.toList) = false := bne_eq_false_iff_eq.mpr c6
       clear c6
       obtain rfl := Option.some.inj H
       have p107 : 0 ≤ (x9_1 : Int) := of_decide_eq_true hE
       have q107 : x9_1 < (l0.length : Int) := of_decide_eq_true hE
       obtain ⟨ad107, A107_1, c107_1, A107_2, c107_2, e107, hx107_0, hx107_1, hx107_2, hl107_1, hi107_1, hl107_2, hi107_2⟩ := at_T41 HR0.out x9_1 p107 q107
       cases e107
       replace hx107_0 := (HB.out.cell (World.block_lt_of_cell? w _ hx107_0)).trans hx107_0
       replace hx107_1 := (HB.out.cell (World.block_lt_of_cell? w _ hx107_1)).trans hx107_1
       replace hx107_2 := (HB.out.cell (World.block_lt_of_cell? w _ hx107_2)).trans hx107_2
       have HR107_1 := Aside0.mk hi107_1
       have HC107_1 := Aside0.mk hl107_1
       clear hi107_1 hl107_1
       have HR107_2 := Aside0.mk hi107_2
       have HC107_2 := Aside0.mk hl107_2
       clear hi107_2 hl107_2
       replace p107 := eq_true p107
       replace q107 := eq_true q107
       go_wp2_with (first | ((with_reducible refine gate_dst (N := 6) rfl ?_); refine box_event rfl (N := 6) rfl (cs := #[.string (⟨#[]⟩ : ByteArray), .slice none 0 0, .slice none 0 0]) (t := 41) sE ?_; intro gb108 hg w7 hbox hb; have BK108 := Aside0.mk hbox; have GW108 := gS w hg (lU); have GE108 := gS w hg (lU); replace HB := bH (lU) hb; clear hb hbox hg; have hcz8_0 := cz BK108 0 (.string (⟨#[]⟩ : ByteArray)); have hcz8_1 := cz BK108 1 (.slice none 0 0); have hcz8_2 := cz BK108 2 (.slice none 0 0); have hfz8_0 := fz BK108 0; have hfz8_1 := fz BK108 1; have hfz8_2 := fz BK108 2) | ((with_reducible refine gate_store (t := 41) (p := 6) rfl ?_); refine store_event (t := 41) (p := 6) (v := ?vo_w9) (w1 := (((w7.setCell ⟨gb108, 0, none⟩ (.string ((rd_T41 l0 x9_1).f0))).setCell ⟨gb108, 1, none⟩ (.slice A107_1 ((rd_T41 l0 x9_1).f1).length c107_1)).setCell ⟨gb108, 2, none⟩ (.slice A107_2 ((rd_T41 l0 x9_1).f2).length c107_2))) ?hg ?ho ?hn ?hr ?_; (case ho => rfl); (case hg => rfl); (case hn => rfl); (case hr => first | (go_simp; done) | (go_simp; rfl) | (have hq0_ := (blk_cell BK108.out 0).trans (show _ = some _ from rfl); have hf0_ := blk_frozen BK108.out 0; have hq1_ := (blk_cell BK108.out 1).trans (show _ = some _ from rfl); have hf1_ := blk_frozen BK108.out 1; have hq2_ := (blk_cell BK108.out 2).trans (show _ = some _ from rfl); have hf2_ := blk_frozen BK108.out 2; first | (go_simp; done) | (go_simp; rfl))); intro w9 hw; replace BK108 : Aside0 (w9.heap[gb108]? = some (.cells #[.string ((rd_T41 l0 x9_1).f0), .slice A107_1 ((rd_T41 l0 x9_1).f1).length c107_1, .slice A107_2 ((rd_T41 l0 x9_1).f2).length c107_2] 41 (0, 0))) := ⟨(by rw [hw]; exact (by refine bU ?_; refine blk_put (cs := #[.string ((rd_T41 l0 x9_1).f0), .slice A107_1 ((rd_T41 l0 x9_1).f1).length c107_1, .slice none 0 0]) ?_ 2 _ rfl; refine bU ?_; refine blk_put (cs := #[.string ((rd_T41 l0 x9_1).f0), .slice none 0 0, .slice none 0 0]) ?_ 1 _ rfl; refine bU ?_; refine blk_put (cs := #[.string (⟨#[]⟩ : ByteArray), .slice none 0 0, .slice none 0 0]) ?_ 0 _ rfl; refine bU ?_; exact BK108.out))⟩; replace HB : Aside0 (Below w.heap.size w w9) := ⟨(by rw [hw]; exact (lV1 GE108))⟩; clear hw; have hcz10_0 := cz BK108 0 (.string ((rd_T41 l0 x9_1).f0)); have hcz10_1 := cz BK108 1 (.slice A107_1 ((rd_T41 l0 x9_1).f1).length c107_1); have hcz10_2 := cz BK108 2 (.slice A107_2 ((rd_T41 l0 x9_1).f2).length c107_2); have hfz10_0 := fz BK108 0; have hfz10_1 := fz BK108 1; have hfz10_2 := fz BK108 2))
       go_ret
       exact ⟨eE, lV1 GE108⟩
      ·rw [if_neg c6] at H
       have c6b0 : (((rd_T41 l0 x9_1).f0).toList == a1.toList) = false := beq_eq_false_iff_ne.mpr c6
       have c6b1 : (((rd_T41 l0 x9_1).f0).toList != a1.toList) = true := bne_iff_ne.mpr c6
       have H' := Aside0.mk H
       clear H
       have p107 : 0 ≤ (x9_1 : Int) := of_decide_eq_true hE
       have q107 : x9_1 < (l0.length : Int) := of_decide_eq_true hE
       obtain ⟨ad107, A107_1, c107_1, A107_2, c107_2, e107, hx107_0, hx107_1, hx107_2, hl107_1, hi107_1, hl107_2, hi107_2⟩ := at_T41 HR0.out x9_1 p107 q107
       cases e107
       replace hx107_0 := (HB.out.cell (World.block_lt_of_cell? w _ hx107_0)).trans hx107_0
       replace hx107_1 := (HB.out.cell (World.block_lt_of_cell? w _ hx107_1)).trans hx107_1
       replace hx107_2 := (HB.out.cell (World.block_lt_of_cell? w _ hx107_2)).trans hx107_2
       have HR107_1 := Aside0.mk hi107_1
       have HC107_1 := Aside0.mk hl107_1
       clear hi107_1 hl107_1
       have HR107_2 := Aside0.mk hi107_2
       have HC107_2 := Aside0.mk hl107_2
       clear hi107_2 hl107_2
       replace p107 := eq_true p107
       replace q107 := eq_true q107
       go_wp2_with (first | ((with_reducible refine gate_dst (N := 6) rfl ?_); refine box_event rfl (N := 6) rfl (cs := #[.string (⟨#[]⟩ : ByteArray), .slice none 0 0, .slice none 0 0]) (t := 41) sE ?_; intro gb108 hg w11 hbox hb; have BK108 := Aside0.mk hbox; have GW108 := gS w hg (lU); have GE108 := gS w hg (lU); replace HB := bH (lU) hb; clear hb hbox hg; have hcz12_0 := cz BK108 0 (.string (⟨#[]⟩ : ByteArray)); have hcz12_1 := cz BK108 1 (.slice none 0 0); have hcz12_2 := cz BK108 2 (.slice none 0 0); have hfz12_0 := fz BK108 0; have hfz12_1 := fz BK108 1; have hfz12_2 := fz BK108 2) | ((with_reducible refine gate_store (t := 41) (p := 6) rfl ?_); refine store_event (t := 41) (p := 6) (v := ?vo_w13) (w1 := (((w11.setCell ⟨gb108, 0, none⟩ (.string ((rd_T41 l0 x9_1).f0))).setCell ⟨gb108, 1, none⟩ (.slice A107_1 ((rd_T41 l0 x9_1).f1).length c107_1)).setCell ⟨gb108, 2, none⟩ (.slice A107_2 ((rd_T41 l0 x9_1).f2).length c107_2))) ?hg ?ho ?hn ?hr ?_; (case ho => rfl); (case hg => rfl); (case hn => rfl); (case hr => first | (go_simp; done) | (go_simp; rfl) | (have hq0_ := (blk_cell BK108.out 0).trans (show _ = some _ from rfl); have hf0_ := blk_frozen BK108.out 0; have hq1_ := (blk_cell BK108.out 1).trans (show _ = some _ from rfl); have hf1_ := blk_frozen BK108.out 1; have hq2_ := (blk_cell BK108.out 2).trans (show _ = some _ from rfl); have hf2_ := blk_frozen BK108.out 2; first | (go_simp; done) | (go_simp; rfl))); intro w13 hw; replace BK108 : Aside0 (w13.heap[gb108]? = some (.cells #[.string ((rd_T41 l0 x9_1).f0), .slice A107_1 ((rd_T41 l0 x9_1).f1).length c107_1, .slice A107_2 ((rd_T41 l0 x9_1).f2).length c107_2] 41 (0, 0))) := ⟨(by rw [hw]; exact (by refine bU ?_; refine blk_put (cs := #[.string ((rd_T41 l0 x9_1).f0), .slice A107_1 ((rd_T41 l0 x9_1).f1).length c107_1, .slice none 0 0]) ?_ 2 _ rfl; refine bU ?_; refine blk_put (cs := #[.string ((rd_T41 l0 x9_1).f0), .slice none 0 0, .slice none 0 0]) ?_ 1 _ rfl; refine bU ?_; refine blk_put (cs := #[.string (⟨#[]⟩ : ByteArray), .slice none 0 0, .slice none 0 0]) ?_ 0 _ rfl; refine bU ?_; exact BK108.out))⟩; replace HB : Aside0 (Below w.heap.size w w13) := ⟨(by rw [hw]; exact (lV1 GE108))⟩; clear hw; have hcz14_0 := cz BK108 0 (.string ((rd_T41 l0 x9_1).f0)); have hcz14_1 := cz BK108 1 (.slice A107_1 ((rd_T41 l0 x9_1).f1).length c107_1); have hcz14_2 := cz BK108 2 (.slice A107_2 ((rd_T41 l0 x9_1).f2).length c107_2); have hfz14_0 := fz BK108 0; have hfz14_1 := fz BK108 1; have hfz14_2 := fz BK108 2))
       go_roundg k1
       case measure => have := HK1.out; omega
       case rel => exact ⟨(wrap64 (x9_1 + 1)), tE, H', ⟨by have := HK1.out; omega⟩, ⟨by repeat (first | (with_reducible first | exact HB.out | apply below_alloc | apply pw_below_drewN | apply below_drew1 | refine below_set ?_ GE108.out) | exact HB.out)⟩⟩
     ·rw [if_neg c5] at H
      exact absurd H (by simp)
    ·rw [if_neg c4] at H
     exact absurd H (by simp)
   ·rw [if_neg c3] at H
    have c3b0 : decide (x9_1 < (l0.length : Int)) = false := decide_eq_false c3
    clear c3
    obtain rfl := Option.some.inj H
    go_wp2
    go_ret
    exact ⟨eE, lU⟩
def spec_l1Digit.f (a0 : Int) : Option (Bool) := if a0 ≥ 48 then (some (decide (a0 ≤ 57))) else (some false)
set_option maxHeartbeats 8000000 in
set_option maxRecDepth 100000 in
theorem spec_l1Digit.calls (a0 : Int) (r : Bool) (w : World) (h : spec_l1Digit.f a0 = some r) :
  Calls Try.prog 41 #[.int .u8 a0] w fun e w' => e = .returned (.bool r) ∧ Drawn0 w w' := by
 have H : (if a0 ≥ 48 then (some (decide (a0 ≤ 57))) else (some false)) = some r := h
 clear h
 by_cases c2 : a0 ≥ 48
 ·rw [if_pos c2] at H
  have c2b0 : decide (48 ≤ a0) = true := decide_eq_true c2
  clear c2
  obtain rfl := Option.some.inj H
  go_enter Try.func41, Try.ntmps41
  go_wp2
  go_ret
  exact ⟨by first | rfl | (simp; done) | (simp [*]; done) | exact not_isEmpty _ | exact (not_isEmpty _).symm | exact is_empty _ | exact (is_empty _).symm, by repeat (first | exact Drawn0.refl _ | apply Drawn0.step)⟩
 ·rw [if_neg c2] at H
  have c2b0 : decide (48 ≤ a0) = false := decide_eq_false c2
  clear c2
  obtain rfl := Option.some.inj H
  go_enter Try.func41, Try.ntmps41
  go_wp2
  go_ret
  exact ⟨by first | rfl | (simp; done) | (simp [*]; done) | exact not_isEmpty _ | exact (not_isEmpty _).symm | exact is_empty _ | exact (is_empty _).symm, by repeat (first | exact Drawn0.refl _ | apply Drawn0.step)⟩
def spec_l1Letter.f (a0 : Int) : Option (Bool) := if a0 ≥ 97 then (if a0 ≤ 122 then (some true) else (if a0 ≥ 65 then (if a0 ≤ 90 then (some true) else (some (a0 == 95))) else (some (a0 == 95)))) else (if a0 ≥ 65 then (if a0 ≤ 90 then (some true) else (some (a0 == 95))) else (some (a0 == 95)))
set_option maxHeartbeats 8000000 in
set_option maxRecDepth 100000 in
theorem spec_l1Letter.calls (a0 : Int) (r : Bool) (w : World) (h : spec_l1Letter.f a0 = some r) :
  Calls Try.prog 42 #[.int .u8 a0] w fun e w' => e = .returned (.bool r) ∧ Drawn0 w w' := by
 have H : (if a0 ≥ 97 then (if a0 ≤ 122 then (some true) else (if a0 ≥ 65 then (if a0 ≤ 90 then (some true) else (some (a0 == 95))) else (some (a0 == 95)))) else (if a0 ≥ 65 then (if a0 ≤ 90 then (some true) else (some (a0 == 95))) else (some (a0 == 95)))) = some r := h
 clear h
 by_cases c2 : a0 ≥ 97
 ·rw [if_pos c2] at H
  have c2b0 : decide (97 ≤ a0) = true := decide_eq_true c2
  clear c2
  by_cases c3 : a0 ≤ 122
  ·rw [if_pos c3] at H
   have c3b0 : decide (a0 ≤ 122) = true := decide_eq_true c3
   clear c3
   obtain rfl := Option.some.inj H
   go_enter Try.func42, Try.ntmps42
   go_wp2
   go_ret
   exact ⟨by first | rfl | (simp; done) | (simp [*]; done) | exact not_isEmpty _ | exact (not_isEmpty _).symm | exact is_empty _ | exact (is_empty _).symm, by repeat (first | exact Drawn0.refl _ | apply Drawn0.step)⟩
  ·rw [if_neg c3] at H
   have c3b0 : decide (a0 ≤ 122) = false := decide_eq_false c3
   clear c3
   by_cases c4 : a0 ≥ 65
   ·rw [if_pos c4] at H
    have c4b0 : decide (65 ≤ a0) = true := decide_eq_true c4
    clear c4
    by_cases c5 : a0 ≤ 90
    ·rw [if_pos c5] at H
     have c5b0 : decide (a0 ≤ 90) = true := decide_eq_true c5
     clear c5
     obtain rfl := Option.some.inj H
     go_enter Try.func42, Try.ntmps42
     go_wp2
     go_ret
     exact ⟨by first | rfl | (simp; done) | (simp [*]; done) | exact not_isEmpty _ | exact (not_isEmpty _).symm | exact is_empty _ | exact (is_empty _).symm, by repeat (first | exact Drawn0.refl _ | apply Drawn0.step)⟩
    ·rw [if_neg c5] at H
     have c5b0 : decide (a0 ≤ 90) = false := decide_eq_false c5
     clear c5
     obtain rfl := Option.some.inj H
     go_enter Try.func42, Try.ntmps42
     go_wp2
     go_ret
     exact ⟨by first | rfl | (simp; done) | (simp [*]; done) | exact not_isEmpty _ | exact (not_isEmpty _).symm | exact is_empty _ | exact (is_empty _).symm, by repeat (first | exact Drawn0.refl _ | apply Drawn0.step)⟩
   ·rw [if_neg c4] at H
    have c4b0 : decide (65 ≤ a0) = false := decide_eq_false c4
    clear c4
    obtain rfl := Option.some.inj H
    go_enter Try.func42, Try.ntmps42
    go_wp2
    go_ret
    exact ⟨by first | rfl | (simp; done) | (simp [*]; done) | exact not_isEmpty _ | exact (not_isEmpty _).symm | exact is_empty _ | exact (is_empty _).symm, by repeat (first | exact Drawn0.refl _ | apply Drawn0.step)⟩
 ·rw [if_neg c2] at H
  have c2b0 : decide (97 ≤ a0) = false := decide_eq_false c2
  clear c2
  by_cases c6 : a0 ≥ 65
  ·rw [if_pos c6] at H
   have c6b0 : decide (65 ≤ a0) = true := decide_eq_true c6
   clear c6
   by_cases c7 : a0 ≤ 90
   ·rw [if_pos c7] at H
    have c7b0 : decide (a0 ≤ 90) = true := decide_eq_true c7
    clear c7
    obtain rfl := Option.some.inj H
    go_enter Try.func42, Try.ntmps42
    go_wp2
    go_ret
    exact ⟨by first | rfl | (simp; done) | (simp [*]; done) | exact not_isEmpty _ | exact (not_isEmpty _).symm | exact is_empty _ | exact (is_empty _).symm, by repeat (first | exact Drawn0.refl _ | apply Drawn0.step)⟩
   ·rw [if_neg c7] at H
    have c7b0 : decide (a0 ≤ 90) = false := decide_eq_false c7
    clear c7
    obtain rfl := Option.some.inj H
    go_enter Try.func42, Try.ntmps42
    go_wp2
    go_ret
    exact ⟨by first | rfl | (simp; done) | (simp [*]; done) | exact not_isEmpty _ | exact (not_isEmpty _).symm | exact is_empty _ | exact (is_empty _).symm, by repeat (first | exact Drawn0.refl _ | apply Drawn0.step)⟩
  ·rw [if_neg c6] at H
   have c6b0 : decide (65 ≤ a0) = false := decide_eq_false c6
   clear c6
   obtain rfl := Option.some.inj H
   go_enter Try.func42, Try.ntmps42
   go_wp2
   go_ret
   exact ⟨by first | rfl | (simp; done) | (simp [*]; done) | exact not_isEmpty _ | exact (not_isEmpty _).symm | exact is_empty _ | exact (is_empty _).symm, by repeat (first | exact Drawn0.refl _ | apply Drawn0.step)⟩
end Go.Proofs.Ytehkpnnidbghhab.PFnExactStaleBetween
namespace Go.Proofs.Ytehkpnnidbghhab.PFnExactStaleBetween
open Go.RowKit Go.Proofs.YtehkpnnidbghhabW.PrintWords Go.Proofs.YtehkpnnidbghhabW.PrintLast Go.Proofs.YtehkpnnidbghhabW.PrintMore
attribute [local go_sem] max2_int min2_int max_two min_two max_three min_three max_four min_four   -- for this text's walks alone
set_option linter.unusedVariables false
set_option linter.unusedSimpArgs false
mutual
def spec_GoodName.j0 : Nat → ByteArray → Bool → Option (Bool)
 | 0, _, _ => none
 | k + 1, x0, x16 => if x16 = true then (some false) else (spec_GoodName.l0 k x0 0)
def spec_GoodName.l0 : Nat → ByteArray → Int → Option (Bool)
 | 0, _, _ => none
 | k + 1, x0, x3 => if x3 < (x0.size : Int) then (if 0 ≤ x3 then ((spec_l1Letter.f (bt x0 x3)).bind fun t110 => (if t110 = true then (spec_GoodName.l0 k x0 (wrap64 (x3 + 1))) else ((spec_l1Digit.f (bt x0 x3)).bind fun t111 => (if t111 = true then (spec_GoodName.l0 k x0 (wrap64 (x3 + 1))) else (some false))))) else (none)) else (some true)
end
def spec_GoodName.f (k : Nat) (a0 : ByteArray) : Option (Bool) := if (a0.size : Int) < 1 then (spec_GoodName.j0 k a0 true) else (if (a0.size : Int) > 20 then (spec_GoodName.j0 k a0 true) else (if 0 < (a0.size : Int) then ((spec_l1Digit.f (bt a0 0)).bind fun t109 => (spec_GoodName.j0 k a0 t109)) else (none)))
theorem spec_GoodName.mono_l : ∀ k, (∀ y0 y1, LeO (spec_GoodName.j0 k y0 y1) (spec_GoodName.j0 (k + 1) y0 y1)) ∧ (∀ y0 y1, LeO (spec_GoodName.l0 k y0 y1) (spec_GoodName.l0 (k + 1) y0 y1))
 | 0 => ⟨fun _ _ r h => by simp [spec_GoodName.j0] at h, fun _ _ r h => by simp [spec_GoodName.l0] at h⟩
 | k + 1 => by
  obtain ⟨ih0, ih1⟩ := spec_GoodName.mono_l k
  refine ⟨?_, ?_⟩
  ·intro y0 y1
   unfold spec_GoodName.j0
   repeat' first
   | (with_reducible exact ih0 _ _)
   | (with_reducible exact ih1 _ _)
   | (with_reducible first | exact LeO.refl _ | exact LeO.none _ | refine LeO.ite ?_ ?_ | refine LeO.bind ?_ (fun _ => ?_))
   | exact ih0 _ _
   | exact ih1 _ _ | exact LeO.none _ | refine LeO.ite ?_ ?_ | refine LeO.bind ?_ (fun _ => ?_)
  ·intro y0 y1
   unfold spec_GoodName.l0
   repeat' first
   | (with_reducible exact ih0 _ _)
   | (with_reducible exact ih1 _ _)
   | (with_reducible first | exact LeO.refl _ | exact LeO.none _ | refine LeO.ite ?_ ?_ | refine LeO.bind ?_ (fun _ => ?_))
   | exact ih0 _ _
   | exact ih1 _ _ | exact LeO.none _ | refine LeO.ite ?_ ?_ | refine LeO.bind ?_ (fun _ => ?_)
theorem spec_GoodName.mono : ∀ a0 k, LeO (spec_GoodName.f k a0) (spec_GoodName.f (k + 1) a0) := by
 intro a0 k
 obtain ⟨ih0, ih1⟩ := spec_GoodName.mono_l k
 unfold spec_GoodName.f
 repeat' first
   | (with_reducible exact ih0 _ _)
   | (with_reducible exact ih1 _ _)
   | (with_reducible first | exact LeO.refl _ | exact LeO.none _ | refine LeO.ite ?_ ?_ | refine LeO.bind ?_ (fun _ => ?_))
   | exact ih0 _ _
   | exact ih1 _ _ | exact LeO.none _ | refine LeO.ite ?_ ?_ | refine LeO.bind ?_ (fun _ => ?_)
set_option maxHeartbeats 8000000 in
set_option maxRecDepth 100000 in
theorem spec_GoodName.calls (k : Nat) (a0 : ByteArray) (r : Bool) (w : World) (h : spec_GoodName.f k a0 = some r) :
  Calls Try.prog 25 #[.string a0] w fun e w' => e = .returned (.bool r) ∧ Drawn0 w w' := by
 have H : (if (a0.size : Int) < 1 then (spec_GoodName.j0 k a0 true) else (if (a0.size : Int) > 20 then (spec_GoodName.j0 k a0 true) else (if 0 < (a0.size : Int) then ((spec_l1Digit.f (bt a0 0)).bind fun t109 => (spec_GoodName.j0 k a0 t109)) else (none)))) = some r := h
 clear h
 have HC2 := Aside0.mk H
 clear H
 go_enter Try.func25, Try.ntmps25
 go_upto_region 1 with (fail)
 go_cut [16] (fun v16 wc => ∃ (kq : Nat) (x16_1 : Bool), v16 = .bool x16_1 ∧ Aside0 (spec_GoodName.j0 kq a0 x16_1 = some r) ∧ Aside0 (kq ≤ k) ∧ Drawn0 w wc)
 case first =>
  have H := HC2.out
  clear HC2
  by_cases c3 : (a0.size : Int) < 1
  ·rw [if_pos c3] at H
   have c3b0 : decide ((a0.size : Int) < 1) = true := decide_eq_true c3
   have c3b1 : decide (a0.size < 1) = true := decide_eq_true (by omega)
   clear c3
   (first | rw [c3b0] | (simp only [i64_w, i32_w]; rw [c3b0]) | (rw [c3b2]; simp only [Bool.not_false, Bool.not_true]) | skip)
   have H' := Aside0.mk H
   clear H
   go_wp2
   go_meet
   case rel => exact ⟨_, (true), tE, H', ⟨by first | omega | exact Nat.le_refl _⟩, by repeat (first | exact Drawn0.refl _ | apply Drawn0.step)⟩
  ·rw [if_neg c3] at H
   have c3b0 : decide ((a0.size : Int) < 1) = false := decide_eq_false c3
   have c3b1 : decide (a0.size < 1) = false := decide_eq_false (by omega)
   clear c3
   (first | rw [c3b0] | (simp only [i64_w, i32_w]; rw [c3b0]) | (rw [c3b2]; simp only [Bool.not_false, Bool.not_true]) | skip)
   by_cases c4 : (a0.size : Int) > 20
   ·rw [if_pos c4] at H
    have c4b0 : decide (20 < (a0.size : Int)) = true := decide_eq_true c4
    have c4b1 : decide (20 < a0.size) = true := decide_eq_true (by omega)
    clear c4
    have H' := Aside0.mk H
    clear H
    go_wp2
    go_meet
    case rel => exact ⟨_, (true), tE, H', ⟨by first | omega | exact Nat.le_refl _⟩, by repeat (first | exact Drawn0.refl _ | apply Drawn0.step)⟩
   ·rw [if_neg c4] at H
    have c4b0 : decide (20 < (a0.size : Int)) = false := decide_eq_false c4
    have c4b1 : decide (20 < a0.size) = false := decide_eq_false (by omega)
    clear c4
    by_cases c5 : 0 < (a0.size : Int)
    ·rw [if_pos c5] at H
     have c5b0 : decide (0 < (a0.size : Int)) = true := decide_eq_true c5
     have c5b1 : decide (0 < a0.size) = true := decide_eq_true (by omega)
     clear c5
     replace H := Option.bind_eq_some_iff.mp H
     obtain ⟨t109, A70, H⟩ := H
     replace H : (spec_GoodName.j0 k a0 t109) = some r := H
     have A7 := Aside0.mk A70
     clear A70
     have H' := Aside0.mk H
     clear H
     have p6 : 0 ≤ (0 : Int) := (by omega)
     have q6 : 0 < a0.size := (by have : (0 : Int) < (a0.size : Int) := of_decide_eq_true hE; omega)
     have hx6 : ∀ h : 0 < a0.size, ((a0[0]'h).toNat : Int) = bt a0 0 := bt_at a0 0
     clear p6
     have qi6 : (0 < (a0.size : Int)) = True := eq_true (of_decide_eq_true hE)
     replace q6 := eq_true q6
     go_wp2_with (first | (go_at_call 41; (with_reducible refine (spec_l1Digit.calls (bt a0 0) t109 _ A7.out).mono ?_); rintro e w' ⟨rfl, ⟨nd, rfl⟩⟩))
     go_meet
     case rel => exact ⟨_, (t109), tE, H', ⟨by first | omega | exact Nat.le_refl _⟩, by repeat (first | exact Drawn0.refl _ | apply Drawn0.step)⟩
    ·rw [if_neg c5] at H
     exact absurd H (by simp)
 case rest =>
  clear HC2
  try clear c2
  try clear p2
  try clear c3
  try clear c3b0
  try clear c3b1
  try clear c3b2
  try clear c4
  try clear c4b0
  try clear c4b1
  try clear c5
  try clear c5b0
  try clear c5b1
  try clear p6
  try clear q6
  try clear hx6
  try clear qi6
  try clear p6
  try clear q6
  obtain ⟨kq, x16_1, rfl, HA, HJ1, ⟨mc1, rfl⟩⟩ := hcut
  cases kq with
  | zero => exact absurd HA.out (by simp [spec_GoodName.j0])
  | succ kj1 =>
   have H := HA.out
   clear HA
   simp only [spec_GoodName.j0] at H
   by_cases c8 : x16_1 = true
   ·subst c8
    have H1 : (some false) = some r := by rw [if_pos rfl] at H; exact H
    clear H
    have H := H1
    clear H1
    obtain rfl := Option.some.inj H
    go_wp2
    go_ret
    exact ⟨by first | rfl | (simp; done) | (simp [*]; done) | exact not_isEmpty _ | exact (not_isEmpty _).symm | exact is_empty _ | exact (is_empty _).symm, by repeat (first | exact Drawn0.refl _ | apply Drawn0.step)⟩
   ·replace c8 := Bool.eq_false_iff.mpr c8
    subst c8
    have H1 : (spec_GoodName.l0 kj1 a0 0) = some r := by rw [if_neg (show ¬ (false = true) by decide)] at H; exact H
    clear H
    have H := H1
    clear H1
    have H' := Aside0.mk H
    clear H
    go_wp2
    go_loopg [3] kj1 (fun kq v3 w' => ∃ (x3_2 : Int), v3 = .int .i64 x3_2 ∧ Aside0 (spec_GoodName.l0 kq a0 x3_2 = some r) ∧ Aside0 (kq ≤ kj1) ∧ Drawn0 w w')
    case atStart => exact ⟨(0), tE, H', ⟨Nat.le_refl _⟩, by repeat (first | exact Drawn0.refl _ | apply Drawn0.step)⟩
    case round =>
     clear H'
     try clear c1
     try clear c2
     try clear p2
     try clear c3
     try clear c3b0
     try clear c3b1
     try clear c3b2
     try clear c4
     try clear c4b0
     try clear c4b1
     try clear c5
     try clear c5b0
     try clear c5b1
     try clear p6
     try clear q6
     try clear hx6
     try clear qi6
     try clear c8
     try clear p2
     try clear p6
     try clear q6
     obtain ⟨x3_2, rfl, HA, HK2, ⟨m2, rfl⟩⟩ := hrel
     cases gk with
     | zero => exact absurd HA.out (by simp [spec_GoodName.l0])
     | succ k2 =>
      have H := HA.out
      clear HA
      simp only [spec_GoodName.l0] at H
      by_cases c9 : x3_2 < (a0.size : Int)
      ·rw [if_pos c9] at H
       have c9b0 : decide (x3_2 < (a0.size : Int)) = true := decide_eq_true c9
       clear c9
       by_cases c10 : 0 ≤ x3_2
       ·rw [if_pos c10] at H
        have c10b0 : decide (0 ≤ x3_2) = true := decide_eq_true c10
        clear c10
        replace H := Option.bind_eq_some_iff.mp H
        obtain ⟨t110, A120, H⟩ := H
        replace H : (if t110 = true then (spec_GoodName.l0 k2 a0 (wrap64 (x3_2 + 1))) else ((spec_l1Digit.f (bt a0 x3_2)).bind fun t111 => (if t111 = true then (spec_GoodName.l0 k2 a0 (wrap64 (x3_2 + 1))) else (some false)))) = some r := H
        have A12 := Aside0.mk A120
        clear A120
        by_cases c13 : t110 = true
        ·subst c13
         have H1 : (spec_GoodName.l0 k2 a0 (wrap64 (x3_2 + 1))) = some r := by rw [if_pos rfl] at H; exact H
         clear H
         have H := H1
         clear H1
         have H' := Aside0.mk H
         clear H
         have p11 : 0 ≤ (x3_2 : Int) := of_decide_eq_true hE
         have q11 : x3_2 < (a0.size : Int) := of_decide_eq_true hE
         have hx11 := bt_at a0 x3_2
         replace p11 := eq_true p11
         replace q11 := eq_true q11
         go_wp2_with (first | ((with_reducible refine gate_callee (f := 42) rfl ?_); refine goesL_ (some 26) rfl rfl Try.func42 (by kernel_rfl) rfl #[.int .u8 (bt a0 x3_2)] rfl aE ?_; (with_reducible refine (spec_l1Letter.calls (bt a0 x3_2) true _ A12.out).mono ?_); rintro e w' ⟨rfl, ⟨nd, rfl⟩⟩; refine ⟨_, rfl, ?_⟩))
         go_roundg k2
         case measure => have := HJ1.out; have := HK2.out; omega
         case rel => exact ⟨(wrap64 (x3_2 + 1)), tE, H', ⟨by have := HJ1.out; have := HK2.out; omega⟩, by repeat (first | exact Drawn0.refl _ | apply Drawn0.step)⟩
        ·replace c13 := Bool.eq_false_iff.mpr c13
         subst c13
         have H1 : ((spec_l1Digit.f (bt a0 x3_2)).bind fun t111 => (if t111 = true then (spec_GoodName.l0 k2 a0 (wrap64 (x3_2 + 1))) else (some false))) = some r := by rw [if_neg (show ¬ (false = true) by decide)] at H; exact H
         clear H
         have H := H1
         clear H1
         replace H := Option.bind_eq_some_iff.mp H
         obtain ⟨t111, A150, H⟩ := H
         replace H : (if t111 = true then (spec_GoodName.l0 k2 a0 (wrap64 (x3_2 + 1))) else (some false)) = some r := H
         have A15 := Aside0.mk A150
         clear A150
         by_cases c16 : t111 = true
         ·subst c16
          have H1 : (spec_GoodName.l0 k2 a0 (wrap64 (x3_2 + 1))) = some r := by rw [if_pos rfl] at H; exact H
          clear H
          have H := H1
          clear H1
          have H' := Aside0.mk H
          clear H
          have p11 : 0 ≤ (x3_2 : Int) := of_decide_eq_true hE
          have q11 : x3_2 < (a0.size : Int) := of_decide_eq_true hE
          have hx11 := bt_at a0 x3_2
          replace p11 := eq_true p11
          replace q11 := eq_true q11
          go_wp2_with (first | ((with_reducible refine gate_callee (f := 42) rfl ?_); refine goesL_ (some 26) rfl rfl Try.func42 (by kernel_rfl) rfl #[.int .u8 (bt a0 x3_2)] rfl aE ?_; (with_reducible refine (spec_l1Letter.calls (bt a0 x3_2) false _ A12.out).mono ?_); rintro e w' ⟨rfl, ⟨nd, rfl⟩⟩; refine ⟨_, rfl, ?_⟩; have p14 : 0 ≤ (x3_2 : Int) := of_decide_eq_true hE; have q14 : x3_2 < (a0.size : Int) := of_decide_eq_true hE; have hx14 := bt_at a0 x3_2; replace p14 := eq_true p14; replace q14 := eq_true q14) | (go_at_call 41; (with_reducible refine (spec_l1Digit.calls (bt a0 x3_2) true _ A15.out).mono ?_); rintro e w' ⟨rfl, ⟨nd, rfl⟩⟩))
          go_roundg k2
          case measure => have := HJ1.out; have := HK2.out; omega
          case rel => exact ⟨(wrap64 (x3_2 + 1)), tE, H', ⟨by have := HJ1.out; have := HK2.out; omega⟩, by repeat (first | exact Drawn0.refl _ | apply Drawn0.step)⟩
         ·replace c16 := Bool.eq_false_iff.mpr c16
          subst c16
          have H1 : (some false) = some r := by rw [if_neg (show ¬ (false = true) by decide)] at H; exact H
          clear H
          have H := H1
          clear H1
          obtain rfl := Option.some.inj H
          have p11 : 0 ≤ (x3_2 : Int) := of_decide_eq_true hE
          have q11 : x3_2 < (a0.size : Int) := of_decide_eq_true hE
          have hx11 := bt_at a0 x3_2
          replace p11 := eq_true p11
          replace q11 := eq_true q11
          go_wp2_with (first | ((with_reducible refine gate_callee (f := 42) rfl ?_); refine goesL_ (some 26) rfl rfl Try.func42 (by kernel_rfl) rfl #[.int .u8 (bt a0 x3_2)] rfl aE ?_; (with_reducible refine (spec_l1Letter.calls (bt a0 x3_2) false _ A12.out).mono ?_); rintro e w' ⟨rfl, ⟨nd, rfl⟩⟩; refine ⟨_, rfl, ?_⟩; have p14 : 0 ≤ (x3_2 : Int) := of_decide_eq_true hE; have q14 : x3_2 < (a0.size : Int) := of_decide_eq_true hE; have hx14 := bt_at a0 x3_2; replace p14 := eq_true p14; replace q14 := eq_true q14) | (go_at_call 41; (with_reducible refine (spec_l1Digit.calls (bt a0 x3_2) false _ A15.out).mono ?_); rintro e w' ⟨rfl, ⟨nd, rfl⟩⟩))
          go_ret
          exact ⟨by first | rfl | (simp; done) | (simp [*]; done) | exact not_isEmpty _ | exact (not_isEmpty _).symm | exact is_empty _ | exact (is_empty _).symm, by repeat (first | exact Drawn0.refl _ | apply Drawn0.step)⟩
       ·rw [if_neg c10] at H
        exact absurd H (by simp)
      ·rw [if_neg c9] at H
       have c9b0 : decide (x3_2 < (a0.size : Int)) = false := decide_eq_false c9
       clear c9
       obtain rfl := Option.some.inj H
       go_wp2
       go_ret
       exact ⟨by first | rfl | (simp; done) | (simp [*]; done) | exact not_isEmpty _ | exact (not_isEmpty _).symm | exact is_empty _ | exact (is_empty _).symm, by repeat (first | exact Drawn0.refl _ | apply Drawn0.step)⟩
def spec_l3Names.l0 : Nat → List ByteArray → List ByteArray → Int → Int → Option (Bool)
 | 0, _, _, _, _ => none
 | k + 1, x0, x11, x12, x13 => if x13 < x12 then (if 0 ≤ x13 then (if x13 < (x11.length : Int) then ((spec_GoodName.f k (rdOf ByteArray.empty x11 x13)).bind fun t113 => (if t113 = true then (if x13 > 0 then (if 0 ≤ (wrap64 (x13 - 1)) then (if (wrap64 (x13 - 1)) < (x0.length : Int) then (if ((Op.bytesLess ((rdOf ByteArray.empty x0 (wrap64 (x13 - 1))).toList) ((rdOf ByteArray.empty x11 x13).toList)) = true) then (spec_l3Names.l0 k x0 x11 x12 (wrap64 (x13 + 1))) else (some false)) else (none)) else (none)) else (spec_l3Names.l0 k x0 x11 x12 (wrap64 (x13 + 1)))) else (some false))) else (none)) else (none)) else (some true)
def spec_l3Names.f (k : Nat) (l0 : List ByteArray) (a1 : Int) : Option (Bool) := if (l0.length : Int) > a1 then (some false) else (spec_l3Names.l0 k l0 l0 (l0.length : Int) 0)
theorem spec_l3Names.mono_l : ∀ k, (∀ y0 y1 y2 y3, LeO (spec_l3Names.l0 k y0 y1 y2 y3) (spec_l3Names.l0 (k + 1) y0 y1 y2 y3))
 | 0 => fun _ _ _ _ r h => by simp [spec_l3Names.l0] at h
 | k + 1 => by
  have ih0 := spec_l3Names.mono_l k
  ·intro y0 y1 y2 y3
   unfold spec_l3Names.l0
   repeat' first
   | (with_reducible exact ih0 _ _ _ _)
   | (with_reducible exact spec_GoodName.mono _ _)
   | (with_reducible first | exact LeO.refl _ | exact LeO.none _ | refine LeO.ite ?_ ?_ | refine LeO.bind ?_ (fun _ => ?_))
   | exact ih0 _ _ _ _
   | exact spec_GoodName.mono _ _ | exact LeO.none _ | refine LeO.ite ?_ ?_ | refine LeO.bind ?_ (fun _ => ?_)
theorem spec_l3Names.mono : ∀ a0 a1 k, LeO (spec_l3Names.f k a0 a1) (spec_l3Names.f (k + 1) a0 a1) := by
 intro a0 a1 k
 have ih0 := spec_l3Names.mono_l k
 unfold spec_l3Names.f
 repeat' first
   | (with_reducible exact ih0 _ _ _ _)
   | (with_reducible exact spec_GoodName.mono _ _)
   | (with_reducible first | exact LeO.refl _ | exact LeO.none _ | refine LeO.ite ?_ ?_ | refine LeO.bind ?_ (fun _ => ?_))
   | exact ih0 _ _ _ _
   | exact spec_GoodName.mono _ _ | exact LeO.none _ | refine LeO.ite ?_ ?_ | refine LeO.bind ?_ (fun _ => ?_)
set_option maxHeartbeats 8000000 in
set_option maxRecDepth 100000 in
theorem spec_l3Names.calls (k : Nat) (A0 : Option Addr) (c0 : Nat) (l0 : List ByteArray) (a1 : Int) (r : Bool) (w : World) (hr0 : Kd.C Kd.string w A0 l0.length l0) (hc0 : l0.length ≤ c0) (h : spec_l3Names.f k l0 a1 = some r) :
  Calls Try.prog 26 #[.slice A0 l0.length c0, .int .i64 a1] w fun e w' => e = .returned (.bool r) ∧ Drawn0 w w' := by
 have HR0 := Aside0.mk hr0
 have HC0 := Aside0.mk hc0
 clear hr0 hc0
 have H : (if (l0.length : Int) > a1 then (some false) else (spec_l3Names.l0 k l0 l0 (l0.length : Int) 0)) = some r := h
 clear h
 by_cases c3 : (l0.length : Int) > a1
 ·rw [if_pos c3] at H
  have c3b0 : decide (a1 < (l0.length : Int)) = true := decide_eq_true c3
  clear c3
  obtain rfl := Option.some.inj H
  go_enter Try.func26, Try.ntmps26
  go_wp2
  go_ret
  exact ⟨by first | rfl | (simp; done) | (simp [*]; done) | exact not_isEmpty _ | exact (not_isEmpty _).symm | exact is_empty _ | exact (is_empty _).symm, by repeat (first | exact Drawn0.refl _ | apply Drawn0.step)⟩
 ·rw [if_neg c3] at H
  have c3b0 : decide (a1 < (l0.length : Int)) = false := decide_eq_false c3
  clear c3
  have H' := Aside0.mk H
  clear H
  go_enter Try.func26, Try.ntmps26
  go_wp2
  go_loopg [13] k (fun kq v13 w' => ∃ (x13_1 : Int), v13 = .int .i64 x13_1 ∧ Aside0 (spec_l3Names.l0 kq l0 l0 (l0.length : Int) x13_1 = some r) ∧ Aside0 (kq ≤ k) ∧ Drawn0 w w')
  case atStart => exact ⟨(0), tE, H', ⟨Nat.le_refl _⟩, by repeat (first | exact Drawn0.refl _ | apply Drawn0.step)⟩
  case round =>
   clear H'
   try clear c2
   try clear p2
   try clear c3
   try clear c3b0
   obtain ⟨x13_1, rfl, HA, HK1, ⟨m1, rfl⟩⟩ := hrel
   cases gk with
   | zero => exact absurd HA.out (by simp [spec_l3Names.l0])
   | succ k1 =>
    have H := HA.out
    clear HA
    simp only [spec_l3Names.l0] at H
    by_cases c4 : x13_1 < (l0.length : Int)
    ·rw [if_pos c4] at H
     have c4b0 : decide (x13_1 < (l0.length : Int)) = true := decide_eq_true c4
     clear c4
     by_cases c5 : 0 ≤ x13_1
     ·rw [if_pos c5] at H
      have c5b0 : decide (0 ≤ x13_1) = true := decide_eq_true c5
      clear c5
      by_cases c6 : x13_1 < (l0.length : Int)
      ·rw [if_pos c6] at H
       have c6b0 : decide (x13_1 < (l0.length : Int)) = true := decide_eq_true c6
       clear c6
       replace H := Option.bind_eq_some_iff.mp H
       obtain ⟨t113, A70, H⟩ := H
       replace H : (if t113 = true then (if x13_1 > 0 then (if 0 ≤ (wrap64 (x13_1 - 1)) then (if (wrap64 (x13_1 - 1)) < (l0.length : Int) then (if ((Op.bytesLess ((rdOf ByteArray.empty l0 (wrap64 (x13_1 - 1))).toList) ((rdOf ByteArray.empty l0 x13_1).toList)) = true) then (spec_l3Names.l0 k1 l0 l0 (l0.length : Int) (wrap64 (x13_1 + 1))) else (some false)) else (none)) else (none)) else (spec_l3Names.l0 k1 l0 l0 (l0.length : Int) (wrap64 (x13_1 + 1)))) else (some false)) = some r := H
       have A7 := Aside0.mk A70
       clear A70
       by_cases c8 : t113 = true
       ·subst c8
        have H1 : (if x13_1 > 0 then (if 0 ≤ (wrap64 (x13_1 - 1)) then (if (wrap64 (x13_1 - 1)) < (l0.length : Int) then (if ((Op.bytesLess ((rdOf ByteArray.empty l0 (wrap64 (x13_1 - 1))).toList) ((rdOf ByteArray.empty l0 x13_1).toList)) = true) then (spec_l3Names.l0 k1 l0 l0 (l0.length : Int) (wrap64 (x13_1 + 1))) else (some false)) else (none)) else (none)) else (spec_l3Names.l0 k1 l0 l0 (l0.length : Int) (wrap64 (x13_1 + 1)))) = some r := by rw [if_pos rfl] at H; exact H
        clear H
        have H := H1
        clear H1
        by_cases c9 : x13_1 > 0
        ·rw [if_pos c9] at H
         have c9b0 : decide (0 < x13_1) = true := decide_eq_true c9
         clear c9
         obtain ⟨ji10, hji10⟩ : ∃ j_ : Int, (wrap64 (x13_1 - 1)) = j_ := ⟨_, rfl⟩
         replace H : (if 0 ≤ (ji10) then (if (ji10) < (l0.length : Int) then (if ((Op.bytesLess ((rdOf ByteArray.empty l0 (ji10)).toList) ((rdOf ByteArray.empty l0 x13_1).toList)) = true) then (spec_l3Names.l0 k1 l0 l0 (l0.length : Int) (wrap64 (x13_1 + 1))) else (some false)) else (none)) else (none)) = some r := by first | (rw [hji10] at H; exact H) | (simp only [hji10] at H ⊢; exact H)
         (try rw [hji10] at A7)
         have hji10w : (IntKind.i64.wrap (x13_1 - 1)) = ji10 := (i64_w _).trans hji10
         by_cases c11 : 0 ≤ (ji10)
         ·rw [if_pos c11] at H
          have c11b0 : decide (0 ≤ (ji10)) = true := decide_eq_true c11
          clear c11
          by_cases c12 : (ji10) < (l0.length : Int)
          ·rw [if_pos c12] at H
           have c12b0 : decide ((ji10) < (l0.length : Int)) = true := decide_eq_true c12
           clear c12
           by_cases c13 : ((Op.bytesLess ((rdOf ByteArray.empty l0 (ji10)).toList) ((rdOf ByteArray.empty l0 x13_1).toList)) = true)
           ·rw [if_pos c13] at H
            have c13b0 : (Op.bytesLess ((rdOf ByteArray.empty l0 (ji10)).toList) ((rdOf ByteArray.empty l0 x13_1).toList)) = true := c13
            clear c13
            have H' := Aside0.mk H
            clear H
            have p112 : 0 ≤ (x13_1 : Int) := of_decide_eq_true hE
            have q112 : x13_1 < (l0.length : Int) := of_decide_eq_true hE
            obtain ⟨ad112, e112, hx112_0⟩ := Kd.at_string HR0.out x13_1 p112 q112
            cases e112
            replace p112 := eq_true p112
            replace q112 := eq_true q112
            go_wp2_with (first | ((with_reducible refine gate_callee (f := 25) rfl ?_); refine goesL_ (some 19) rfl rfl Try.func25 (by kernel_rfl) rfl #[.string (rdOf ByteArray.empty l0 x13_1)] rfl aE ?_; (with_reducible refine (spec_GoodName.calls k1 (rdOf ByteArray.empty l0 x13_1) true _ A7.out).mono ?_); rintro e w' ⟨rfl, ⟨nd, rfl⟩⟩; refine ⟨_, rfl, ?_⟩; have p114 : 0 ≤ ((ji10) : Int) := of_decide_eq_true hE; have q114 : (ji10) < (l0.length : Int) := of_decide_eq_true hE; obtain ⟨ad114, e114, hx114_0⟩ := Kd.at_string HR0.out (ji10) p114 q114; obtain rfl : ad112 = ad114 := (by injection e114); replace p114 := eq_true p114; replace q114 := eq_true q114))
            go_roundg k1
            case measure => have := HK1.out; omega
            case rel => exact ⟨(wrap64 (x13_1 + 1)), tE, H', ⟨by have := HK1.out; omega⟩, by repeat (first | exact Drawn0.refl _ | apply Drawn0.step)⟩
           ·rw [if_neg c13] at H
            have c13b0 : (Op.bytesLess ((rdOf ByteArray.empty l0 (ji10)).toList) ((rdOf ByteArray.empty l0 x13_1).toList)) = false := by simpa using c13
            clear c13
            obtain rfl := Option.some.inj H
            have p112 : 0 ≤ (x13_1 : Int) := of_decide_eq_true hE
            have q112 : x13_1 < (l0.length : Int) := of_decide_eq_true hE
            obtain ⟨ad112, e112, hx112_0⟩ := Kd.at_string HR0.out x13_1 p112 q112
            cases e112
            replace p112 := eq_true p112
            replace q112 := eq_true q112
            go_wp2_with (first | ((with_reducible refine gate_callee (f := 25) rfl ?_); refine goesL_ (some 19) rfl rfl Try.func25 (by kernel_rfl) rfl #[.string (rdOf ByteArray.empty l0 x13_1)] rfl aE ?_; (with_reducible refine (spec_GoodName.calls k1 (rdOf ByteArray.empty l0 x13_1) true _ A7.out).mono ?_); rintro e w' ⟨rfl, ⟨nd, rfl⟩⟩; refine ⟨_, rfl, ?_⟩; have p114 : 0 ≤ ((ji10) : Int) := of_decide_eq_true hE; have q114 : (ji10) < (l0.length : Int) := of_decide_eq_true hE; obtain ⟨ad114, e114, hx114_0⟩ := Kd.at_string HR0.out (ji10) p114 q114; obtain rfl : ad112 = ad114 := (by injection e114); replace p114 := eq_true p114; replace q114 := eq_true q114))
            go_ret
            exact ⟨by first | rfl | (simp; done) | (simp only [← hji10] <;> (first | rfl | simp)) | (simp [*]; done) | exact not_isEmpty _ | exact (not_isEmpty _).symm | exact is_empty _ | exact (is_empty _).symm, by repeat (first | exact Drawn0.refl _ | apply Drawn0.step)⟩
          ·rw [if_neg c12] at H
           exact absurd H (by simp)
         ·rw [if_neg c11] at H
          exact absurd H (by simp)
        ·rw [if_neg c9] at H
         have c9b0 : decide (0 < x13_1) = false := decide_eq_false c9
         clear c9
         have H' := Aside0.mk H
         clear H
         have p112 : 0 ≤ (x13_1 : Int) := of_decide_eq_true hE
         have q112 : x13_1 < (l0.length : Int) := of_decide_eq_true hE
         obtain ⟨ad112, e112, hx112_0⟩ := Kd.at_string HR0.out x13_1 p112 q112
         cases e112
         replace p112 := eq_true p112
         replace q112 := eq_true q112
         go_wp2_with (first | ((with_reducible refine gate_callee (f := 25) rfl ?_); refine goesL_ (some 19) rfl rfl Try.func25 (by kernel_rfl) rfl #[.string (rdOf ByteArray.empty l0 x13_1)] rfl aE ?_; (with_reducible refine (spec_GoodName.calls k1 (rdOf ByteArray.empty l0 x13_1) true _ A7.out).mono ?_); rintro e w' ⟨rfl, ⟨nd, rfl⟩⟩; refine ⟨_, rfl, ?_⟩))
         go_roundg k1
         case measure => have := HK1.out; omega
         case rel => exact ⟨(wrap64 (x13_1 + 1)), tE, H', ⟨by have := HK1.out; omega⟩, by repeat (first | exact Drawn0.refl _ | apply Drawn0.step)⟩
       ·replace c8 := Bool.eq_false_iff.mpr c8
        subst c8
        have H1 : (some false) = some r := by rw [if_neg (show ¬ (false = true) by decide)] at H; exact H
        clear H
        have H := H1
        clear H1
        obtain rfl := Option.some.inj H
        have p112 : 0 ≤ (x13_1 : Int) := of_decide_eq_true hE
        have q112 : x13_1 < (l0.length : Int) := of_decide_eq_true hE
        obtain ⟨ad112, e112, hx112_0⟩ := Kd.at_string HR0.out x13_1 p112 q112
        cases e112
        replace p112 := eq_true p112
        replace q112 := eq_true q112
        go_wp2_with (first | ((with_reducible refine gate_callee (f := 25) rfl ?_); refine goesL_ (some 19) rfl rfl Try.func25 (by kernel_rfl) rfl #[.string (rdOf ByteArray.empty l0 x13_1)] rfl aE ?_; (with_reducible refine (spec_GoodName.calls k1 (rdOf ByteArray.empty l0 x13_1) false _ A7.out).mono ?_); rintro e w' ⟨rfl, ⟨nd, rfl⟩⟩; refine ⟨_, rfl, ?_⟩))
        go_ret
        exact ⟨by first | rfl | (simp; done) | (simp [*]; done) | exact not_isEmpty _ | exact (not_isEmpty _).symm | exact is_empty _ | exact (is_empty _).symm, by repeat (first | exact Drawn0.refl _ | apply Drawn0.step)⟩
      ·rw [if_neg c6] at H
       exact absurd H (by simp)
     ·rw [if_neg c5] at H
      exact absurd H (by simp)
    ·rw [if_neg c4] at H
     have c4b0 : decide (x13_1 < (l0.length : Int)) = false := decide_eq_false c4
     clear c4
     obtain rfl := Option.some.inj H
     go_wp2
     go_ret
     exact ⟨by first | rfl | (simp; done) | (simp [*]; done) | exact not_isEmpty _ | exact (not_isEmpty _).symm | exact is_empty _ | exact (is_empty _).symm, by repeat (first | exact Drawn0.refl _ | apply Drawn0.step)⟩
def spec_l1Has.l0 : Nat → ByteArray → List ByteArray → Int → Int → Option (Bool)
 | 0, _, _, _, _ => none
 | k + 1, x1, x7, x8, x9 => if x9 < x8 then (if 0 ≤ x9 then (if x9 < (x7.length : Int) then (if (rdOf ByteArray.empty x7 x9).toList = x1.toList then (some true) else (spec_l1Has.l0 k x1 x7 x8 (wrap64 (x9 + 1)))) else (none)) else (none)) else (some false)
def spec_l1Has.f (k : Nat) (l0 : List ByteArray) (a1 : ByteArray) : Option (Bool) := spec_l1Has.l0 k a1 l0 (l0.length : Int) 0
theorem spec_l1Has.mono_l : ∀ k, (∀ y0 y1 y2 y3, LeO (spec_l1Has.l0 k y0 y1 y2 y3) (spec_l1Has.l0 (k + 1) y0 y1 y2 y3))
 | 0 => fun _ _ _ _ r h => by simp [spec_l1Has.l0] at h
 | k + 1 => by
  have ih0 := spec_l1Has.mono_l k
  ·intro y0 y1 y2 y3
   unfold spec_l1Has.l0
   repeat' first
   | (with_reducible exact ih0 _ _ _ _)
   | (with_reducible first | exact LeO.refl _ | exact LeO.none _ | refine LeO.ite ?_ ?_ | refine LeO.bind ?_ (fun _ => ?_))
   | exact ih0 _ _ _ _ | exact LeO.none _ | refine LeO.ite ?_ ?_ | refine LeO.bind ?_ (fun _ => ?_)
theorem spec_l1Has.mono : ∀ a0 a1 k, LeO (spec_l1Has.f k a0 a1) (spec_l1Has.f (k + 1) a0 a1) := by
 intro a0 a1 k
 have ih0 := spec_l1Has.mono_l k
 unfold spec_l1Has.f
 repeat' first
   | (with_reducible exact ih0 _ _ _ _)
   | (with_reducible first | exact LeO.refl _ | exact LeO.none _ | refine LeO.ite ?_ ?_ | refine LeO.bind ?_ (fun _ => ?_))
   | exact ih0 _ _ _ _ | exact LeO.none _ | refine LeO.ite ?_ ?_ | refine LeO.bind ?_ (fun _ => ?_)
set_option maxHeartbeats 8000000 in
set_option maxRecDepth 100000 in
theorem spec_l1Has.calls (k : Nat) (A0 : Option Addr) (c0 : Nat) (l0 : List ByteArray) (a1 : ByteArray) (r : Bool) (w : World) (hr0 : Kd.C Kd.string w A0 l0.length l0) (hc0 : l0.length ≤ c0) (h : spec_l1Has.f k l0 a1 = some r) :
  Calls Try.prog 43 #[.slice A0 l0.length c0, .string a1] w fun e w' => e = .returned (.bool r) ∧ Drawn0 w w' := by
 have HR0 := Aside0.mk hr0
 have HC0 := Aside0.mk hc0
 clear hr0 hc0
 have H : (spec_l1Has.l0 k a1 l0 (l0.length : Int) 0) = some r := h
 clear h
 have H' := Aside0.mk H
 clear H
 go_enter Try.func43, Try.ntmps43
 go_wp2
 go_loopg [9] k (fun kq v9 w' => ∃ (x9_1 : Int), v9 = .int .i64 x9_1 ∧ Aside0 (spec_l1Has.l0 kq a1 l0 (l0.length : Int) x9_1 = some r) ∧ Aside0 (kq ≤ k) ∧ Drawn0 w w')
 case atStart => exact ⟨(0), tE, H', ⟨Nat.le_refl _⟩, by repeat (first | exact Drawn0.refl _ | apply Drawn0.step)⟩
 case round =>
  clear H'
  try clear p2
  obtain ⟨x9_1, rfl, HA, HK1, ⟨m1, rfl⟩⟩ := hrel
  cases gk with
  | zero => exact absurd HA.out (by simp [spec_l1Has.l0])
  | succ k1 =>
   have H := HA.out
   clear HA
   simp only [spec_l1Has.l0] at H
   by_cases c3 : x9_1 < (l0.length : Int)
   ·rw [if_pos c3] at H
    have c3b0 : decide (x9_1 < (l0.length : Int)) = true := decide_eq_true c3
    clear c3
    by_cases c4 : 0 ≤ x9_1
    ·rw [if_pos c4] at H
     have c4b0 : decide (0 ≤ x9_1) = true := decide_eq_true c4
     clear c4
     by_cases c5 : x9_1 < (l0.length : Int)
     ·rw [if_pos c5] at H
      have c5b0 : decide (x9_1 < (l0.length : Int)) = true := decide_eq_true c5
      clear c5
      by_cases c6 : (rdOf ByteArray.empty l0 x9_1).toList = a1.toList
      ·rw [if_pos c6] at H
       have c6b0 : ((rdOf ByteArray.empty l0 x9_1).toList == a1.toList) = true := beq_iff_eq.mpr c6
       have c6b1 : ((rdOf ByteArray.empty l0 x9_1).toList != a1.toList) = false := bne_eq_false_iff_eq.mpr c6
       clear c6
       obtain rfl := Option.some.inj H
       have p115 : 0 ≤ (x9_1 : Int) := of_decide_eq_true hE
       have q115 : x9_1 < (l0.length : Int) := of_decide_eq_true hE
       obtain ⟨ad115, e115, hx115_0⟩ := Kd.at_string HR0.out x9_1 p115 q115
       cases e115
       replace p115 := eq_true p115
       replace q115 := eq_true q115
       go_wp2
       go_ret
       exact ⟨by first | rfl | (simp; done) | (simp [*]; done) | exact not_isEmpty _ | exact (not_isEmpty _).symm | exact is_empty _ | exact (is_empty _).symm, by repeat (first | exact Drawn0.refl _ | apply Drawn0.step)⟩
      ·rw [if_neg c6] at H
       have c6b0 : ((rdOf ByteArray.empty l0 x9_1).toList == a1.toList) = false := beq_eq_false_iff_ne.mpr c6
       have c6b1 : ((rdOf ByteArray.empty l0 x9_1).toList != a1.toList) = true := bne_iff_ne.mpr c6
       have H' := Aside0.mk H
       clear H
       have p115 : 0 ≤ (x9_1 : Int) := of_decide_eq_true hE
       have q115 : x9_1 < (l0.length : Int) := of_decide_eq_true hE
       obtain ⟨ad115, e115, hx115_0⟩ := Kd.at_string HR0.out x9_1 p115 q115
       cases e115
       replace p115 := eq_true p115
       replace q115 := eq_true q115
       go_wp2
       go_roundg k1
       case measure => have := HK1.out; omega
       case rel => exact ⟨(wrap64 (x9_1 + 1)), tE, H', ⟨by have := HK1.out; omega⟩, by repeat (first | exact Drawn0.refl _ | apply Drawn0.step)⟩
     ·rw [if_neg c5] at H
      exact absurd H (by simp)
    ·rw [if_neg c4] at H
     exact absurd H (by simp)
   ·rw [if_neg c3] at H
    have c3b0 : decide (x9_1 < (l0.length : Int)) = false := decide_eq_false c3
    clear c3
    obtain rfl := Option.some.inj H
    go_wp2
    go_ret
    exact ⟨by first | rfl | (simp; done) | (simp [*]; done) | exact not_isEmpty _ | exact (not_isEmpty _).symm | exact is_empty _ | exact (is_empty _).symm, by repeat (first | exact Drawn0.refl _ | apply Drawn0.step)⟩
end Go.Proofs.Ytehkpnnidbghhab.PFnExactStaleBetween
namespace Go.Proofs.Ytehkpnnidbghhab.PFnExactStaleBetween
open Go.RowKit Go.Proofs.YtehkpnnidbghhabW.PrintWords Go.Proofs.YtehkpnnidbghhabW.PrintLast Go.Proofs.YtehkpnnidbghhabW.PrintMore
attribute [local go_sem] max2_int min2_int max_two min_two max_three min_three max_four min_four   -- for this text's walks alone
set_option linter.unusedVariables false
set_option linter.unusedSimpArgs false
mutual
def spec_l21Order.l0 : Nat → List (S41) → List ByteArray → Option (List ByteArray)
 | 0, _, _ => none
 | k + 1, x0, x3 => spec_l21Order.l1 k x0 x3 false x0 (x0.length : Int) 0
def spec_l21Order.l1 : Nat → List (S41) → List ByteArray → Bool → List (S41) → Int → Int → Option (List ByteArray)
 | 0, _, _, _, _, _, _ => none
 | k + 1, x0, x3, x4, x10, x11, x12 => if x12 < x11 then (if 0 ≤ x12 then (if x12 < (x10.length : Int) then ((spec_l1Has.f k x3 ((rd_T41 x10 x12).f0)).bind fun t118 => (spec_l21Order.l2 k x0 x3 x4 (!t118) x10 x11 x12 ((rd_T41 x10 x12).f1) (((rd_T41 x10 x12).f1).length : Int) 0 ((rd_T41 x10 x12).f0) ((rd_T41 x10 x12).f1) ((rd_T41 x10 x12).f2))) else (none)) else (none)) else (if x4 = true then (spec_l21Order.l0 k x0 x3) else (some x3))
def spec_l21Order.l2 : Nat → List (S41) → List ByteArray → Bool → Bool → List (S41) → Int → Int → List ByteArray → Int → Int → ByteArray → List ByteArray → List Int → Option (List ByteArray)
 | 0, _, _, _, _, _, _, _, _, _, _, _, _, _ => none
 | k + 1, x0, x3, x4, x7, x10, x11, x12, x22, x23, x24, x118000, x118001, x118002 => if x24 < x23 then (if 0 ≤ x24 then (if x24 < (x22.length : Int) then (if x7 = true then ((spec_l1Has.f k x3 (rdOf ByteArray.empty x22 x24)).bind fun t120 => (spec_l21Order.l2 k x0 x3 x4 t120 x10 x11 x12 x22 x23 (wrap64 (x24 + 1)) x118000 x118001 x118002)) else (spec_l21Order.l2 k x0 x3 x4 false x10 x11 x12 x22 x23 (wrap64 (x24 + 1)) x118000 x118001 x118002)) else (none)) else (none)) else (if x7 = true then (if x3.length < 8796093022208 then (spec_l21Order.l0 k x0 (x3 ++ [x118000])) else (none)) else (spec_l21Order.l1 k x0 x3 x4 x10 x11 (wrap64 (x12 + 1))))
end
def spec_l21Order.f (k : Nat) (l0 : List (S41)) : Option (List ByteArray) := spec_l21Order.l0 k l0 ([] : List ByteArray)
theorem spec_l21Order.mono_l : ∀ k, (∀ y0 y1, LeO (spec_l21Order.l0 k y0 y1) (spec_l21Order.l0 (k + 1) y0 y1)) ∧ (∀ y0 y1 y2 y3 y4 y5, LeO (spec_l21Order.l1 k y0 y1 y2 y3 y4 y5) (spec_l21Order.l1 (k + 1) y0 y1 y2 y3 y4 y5)) ∧ (∀ y0 y1 y2 y3 y4 y5 y6 y7 y8 y9 y10 y11 y12, LeO (spec_l21Order.l2 k y0 y1 y2 y3 y4 y5 y6 y7 y8 y9 y10 y11 y12) (spec_l21Order.l2 (k + 1) y0 y1 y2 y3 y4 y5 y6 y7 y8 y9 y10 y11 y12))
 | 0 => ⟨fun _ _ r h => by simp [spec_l21Order.l0] at h, fun _ _ _ _ _ _ r h => by simp [spec_l21Order.l1] at h, fun _ _ _ _ _ _ _ _ _ _ _ _ _ r h => by simp [spec_l21Order.l2] at h⟩
 | k + 1 => by
  obtain ⟨ih0, ih1, ih2⟩ := spec_l21Order.mono_l k
  refine ⟨?_, ?_, ?_⟩
  ·intro y0 y1
   unfold spec_l21Order.l0
   repeat' first
   | (with_reducible exact ih0 _ _)
   | (with_reducible exact ih1 _ _ _ _ _ _)
   | (with_reducible exact ih2 _ _ _ _ _ _ _ _ _ _ _ _ _)
   | (with_reducible exact spec_l1Has.mono _ _ _)
   | (with_reducible first | exact LeO.refl _ | exact LeO.none _ | refine LeO.ite ?_ ?_ | refine LeO.bind ?_ (fun _ => ?_))
   | exact ih0 _ _
   | exact ih1 _ _ _ _ _ _
   | exact ih2 _ _ _ _ _ _ _ _ _ _ _ _ _
   | exact spec_l1Has.mono _ _ _ | exact LeO.none _ | refine LeO.ite ?_ ?_ | refine LeO.bind ?_ (fun _ => ?_)
  ·intro y0 y1 y2 y3 y4 y5
   unfold spec_l21Order.l1
   repeat' first
   | (with_reducible exact ih0 _ _)
   | (with_reducible exact ih1 _ _ _ _ _ _)
   | (with_reducible exact ih2 _ _ _ _ _ _ _ _ _ _ _ _ _)
   | (with_reducible exact spec_l1Has.mono _ _ _)
   | (with_reducible first | exact LeO.refl _ | exact LeO.none _ | refine LeO.ite ?_ ?_ | refine LeO.bind ?_ (fun _ => ?_))
   | exact ih0 _ _
   | exact ih1 _ _ _ _ _ _
   | exact ih2 _ _ _ _ _ _ _ _ _ _ _ _ _
   | exact spec_l1Has.mono _ _ _ | exact LeO.none _ | refine LeO.ite ?_ ?_ | refine LeO.bind ?_ (fun _ => ?_)
  ·intro y0 y1 y2 y3 y4 y5 y6 y7 y8 y9 y10 y11 y12
   unfold spec_l21Order.l2
   repeat' first
   | (with_reducible exact ih0 _ _)
   | (with_reducible exact ih1 _ _ _ _ _ _)
   | (with_reducible exact ih2 _ _ _ _ _ _ _ _ _ _ _ _ _)
   | (with_reducible exact spec_l1Has.mono _ _ _)
   | (with_reducible first | exact LeO.refl _ | exact LeO.none _ | refine LeO.ite ?_ ?_ | refine LeO.bind ?_ (fun _ => ?_))
   | exact ih0 _ _
   | exact ih1 _ _ _ _ _ _
   | exact ih2 _ _ _ _ _ _ _ _ _ _ _ _ _
   | exact spec_l1Has.mono _ _ _ | exact LeO.none _ | refine LeO.ite ?_ ?_ | refine LeO.bind ?_ (fun _ => ?_)
theorem spec_l21Order.mono : ∀ a0 k, LeO (spec_l21Order.f k a0) (spec_l21Order.f (k + 1) a0) := by
 intro a0 k
 obtain ⟨ih0, ih1, ih2⟩ := spec_l21Order.mono_l k
 unfold spec_l21Order.f
 repeat' first
   | (with_reducible exact ih0 _ _)
   | (with_reducible exact ih1 _ _ _ _ _ _)
   | (with_reducible exact ih2 _ _ _ _ _ _ _ _ _ _ _ _ _)
   | (with_reducible exact spec_l1Has.mono _ _ _)
   | (with_reducible first | exact LeO.refl _ | exact LeO.none _ | refine LeO.ite ?_ ?_ | refine LeO.bind ?_ (fun _ => ?_))
   | exact ih0 _ _
   | exact ih1 _ _ _ _ _ _
   | exact ih2 _ _ _ _ _ _ _ _ _ _ _ _ _
   | exact spec_l1Has.mono _ _ _ | exact LeO.none _ | refine LeO.ite ?_ ?_ | refine LeO.bind ?_ (fun _ => ?_)
set_option maxHeartbeats 8000000 in
set_option maxRecDepth 100000 in
theorem spec_l21Order.calls (k : Nat) (A0 : Option Addr) (c0 : Nat) (l0 : List (S41)) (r : List ByteArray) (w : World) (hr0 : Kd.C k41 w A0 l0.length l0) (hc0 : l0.length ≤ c0) (h : spec_l21Order.f k l0 = some r) :
  Calls Try.prog 27 #[.slice A0 l0.length c0] w fun e w' => ∃ v0_ : Value, e = .returned (v0_) ∧ Kd.R Kd.string 9 w' w.heap.size (fun _ => True) v0_ r ∧ Below w.heap.size w w' := by
 have hu41 := Try.underlying41
 have HR0 := Aside0.mk hr0
 have HC0 := Aside0.mk hc0
 clear hr0 hc0
 have HB := Aside0.mk (Below.refl w.heap.size w)
 have H : (spec_l21Order.l0 k l0 ([] : List ByteArray)) = some r := h
 clear h
 have H' := Aside0.mk H
 clear H
 go_enter Try.func27, Try.ntmps27
 go_wp2
 go_loopg [3] k (fun kq v3 w' => ∃ (x3_1 : List ByteArray), Aside0 (spec_l21Order.l0 kq l0 x3_1 = some r) ∧ Aside0 (kq ≤ k) ∧ Aside0 (Kd.R Kd.string 9 w' w.heap.size (fun _ => True) v3 x3_1) ∧ Aside0 (Below w.heap.size w w'))
 case atStart => exact ⟨(([] : List ByteArray)), H', ⟨Nat.le_refl _⟩, ⟨by first | exact Kd.R_nil _ _ _ _ _ | exact Kd.N_nil _ _ _ _ _ | exact Kd.V_nil _ _ _ _ _ | exact Kd.Q_nil _ _ _ _ _ | exact Kd.S_nil _ _ _ _ _⟩, ⟨by repeat (first | (with_reducible first | exact HB.out | apply below_alloc | apply pw_below_drewN | apply below_drew1) | exact HB.out)⟩⟩
 case round =>
  clear H'
  obtain ⟨x3_1, HA, HK1, HO_3, HB⟩ := hrel
  cases gk with
  | zero => exact absurd HA.out (by simp [spec_l21Order.l0])
  | succ k1 =>
   have H := HA.out
   clear HA
   simp only [spec_l21Order.l0] at H
   have H' := Aside0.mk H
   clear H
   go_wp2
   go_loopg [3, 4, 12] k1 (fun kq v3 v4 v12 w' => ∃ (x3_2 : List ByteArray) (x4_2 : Bool) (x12_2 : Int), v4 = .bool x4_2 ∧ v12 = .int .i64 x12_2 ∧ Aside0 (spec_l21Order.l1 kq l0 x3_2 x4_2 l0 (l0.length : Int) x12_2 = some r) ∧ Aside0 (kq ≤ k1) ∧ Aside0 (Kd.R Kd.string 9 w' w.heap.size (fun _ => True) v3 x3_2) ∧ Aside0 (Below w.heap.size w w'))
   case atStart => exact ⟨(x3_1), (false), (0), tE, tE, H', ⟨Nat.le_refl _⟩, ⟨by (with_reducible repeat (first | apply Kd.R_alloc | apply Kd.R_drewN | apply Kd.R_drew)); exact HO_3.out⟩, ⟨by repeat (first | (with_reducible first | exact HB.out | apply below_alloc | apply pw_below_drewN | apply below_drew1) | exact HB.out)⟩⟩
   case round =>
    clear H'
    obtain ⟨x3_2, x4_2, x12_2, rfl, rfl, HA, HK2, HO_3, HB⟩ := hrel
    cases gk with
    | zero => exact absurd HA.out (by simp [spec_l21Order.l1])
    | succ k2 =>
     have H := HA.out
     clear HA
     simp only [spec_l21Order.l1] at H
     by_cases c2 : x12_2 < (l0.length : Int)
     ·rw [if_pos c2] at H
      have c2b0 : decide (x12_2 < (l0.length : Int)) = true := decide_eq_true c2
      clear c2
      by_cases c3 : 0 ≤ x12_2
      ·rw [if_pos c3] at H
       have c3b0 : decide (0 ≤ x12_2) = true := decide_eq_true c3
       clear c3
       by_cases c4 : x12_2 < (l0.length : Int)
       ·rw [if_pos c4] at H
        have c4b0 : decide (x12_2 < (l0.length : Int)) = true := decide_eq_true c4
        clear c4
        replace H := Option.bind_eq_some_iff.mp H
        obtain ⟨t118, A50, H⟩ := H
        replace H : (spec_l21Order.l2 k2 l0 x3_2 x4_2 (!t118) l0 (l0.length : Int) x12_2 ((rd_T41 l0 x12_2).f1) (((rd_T41 l0 x12_2).f1).length : Int) 0 ((rd_T41 l0 x12_2).f0) ((rd_T41 l0 x12_2).f1) ((rd_T41 l0 x12_2).f2)) = some r := H
        have A5 := Aside0.mk A50
        clear A50
        have H' := Aside0.mk H
        clear H
        have p116 : 0 ≤ (x12_2 : Int) := of_decide_eq_true hE
        have q116 : x12_2 < (l0.length : Int) := of_decide_eq_true hE
        obtain ⟨ad116, A116_1, c116_1, A116_2, c116_2, e116, hx116_0, hx116_1, hx116_2, hl116_1, hi116_1, hl116_2, hi116_2⟩ := at_T41 HR0.out x12_2 p116 q116
        cases e116
        replace hx116_0 := (HB.out.cell (World.block_lt_of_cell? w _ hx116_0)).trans hx116_0
        replace hx116_1 := (HB.out.cell (World.block_lt_of_cell? w _ hx116_1)).trans hx116_1
        replace hx116_2 := (HB.out.cell (World.block_lt_of_cell? w _ hx116_2)).trans hx116_2
        have HR116_1 := Aside0.mk hi116_1
        have HC116_1 := Aside0.mk hl116_1
        clear hi116_1 hl116_1
        have HR116_2 := Aside0.mk hi116_2
        have HC116_2 := Aside0.mk hl116_2
        clear hi116_2 hl116_2
        replace p116 := eq_true p116
        replace q116 := eq_true q116
        go_wp2_with (first | ((with_reducible refine gate_dst (N := 6) rfl ?_); refine box_event rfl (N := 6) rfl (cs := #[.string (⟨#[]⟩ : ByteArray), .slice none 0 0, .slice none 0 0]) (t := 41) sE ?_; intro gb117 hg w6 hbox hb; replace HO_3 := Aside0.mk (Kd.R_below (rU HO_3.out) hb); have BK117 := Aside0.mk hbox; have GW117 := gS w hg (lU); have GE117 := gS w hg (lU); replace HB := bH (lU) hb; clear hb hbox hg; have hcz7_0 := cz BK117 0 (.string (⟨#[]⟩ : ByteArray)); have hcz7_1 := cz BK117 1 (.slice none 0 0); have hcz7_2 := cz BK117 2 (.slice none 0 0); have hfz7_0 := fz BK117 0; have hfz7_1 := fz BK117 1; have hfz7_2 := fz BK117 2) | ((with_reducible refine gate_store (t := 41) (p := 6) rfl ?_); refine store_event (t := 41) (p := 6) (v := ?vo_w8) (w1 := (((w6.setCell ⟨gb117, 0, none⟩ (.string ((rd_T41 l0 x12_2).f0))).setCell ⟨gb117, 1, none⟩ (.slice A116_1 ((rd_T41 l0 x12_2).f1).length c116_1)).setCell ⟨gb117, 2, none⟩ (.slice A116_2 ((rd_T41 l0 x12_2).f2).length c116_2))) ?hg ?ho ?hn ?hr ?_; (case ho => rfl); (case hg => rfl); (case hn => rfl); (case hr => first | (go_simp; done) | (go_simp; rfl) | (have hq0_ := (blk_cell BK117.out 0).trans (show _ = some _ from rfl); have hf0_ := blk_frozen BK117.out 0; have hq1_ := (blk_cell BK117.out 1).trans (show _ = some _ from rfl); have hf1_ := blk_frozen BK117.out 1; have hq2_ := (blk_cell BK117.out 2).trans (show _ = some _ from rfl); have hf2_ := blk_frozen BK117.out 2; first | (go_simp; done) | (go_simp; rfl))); intro w8 hw; replace HO_3 : Aside0 (Kd.R Kd.string 9 w8 w.heap.size (fun _ => True) u3 x3_2) := ⟨(by rw [hw]; exact (by (with_reducible repeat (first | apply Kd.R_alloc | apply Kd.R_drewN | apply Kd.R_drew)); exact Kd.R_mono (Kd.R_far (p := ⟨gb117, 2, none⟩) (Kd.R_far (p := ⟨gb117, 1, none⟩) (Kd.R_far (p := ⟨gb117, 0, none⟩) (Kd.R_types HO_3.out BK117.out (by decide)) (fun _ hk => hk.2) (.string ((rd_T41 l0 x12_2).f0))) (fun _ hk => hk.2) (.slice A116_1 ((rd_T41 l0 x12_2).f1).length c116_1)) (fun _ hk => hk.2) (.slice A116_2 ((rd_T41 l0 x12_2).f2).length c116_2)) (fun _ hk => trivial)))⟩; replace BK117 : Aside0 (w8.heap[gb117]? = some (.cells #[.string ((rd_T41 l0 x12_2).f0), .slice A116_1 ((rd_T41 l0 x12_2).f1).length c116_1, .slice A116_2 ((rd_T41 l0 x12_2).f2).length c116_2] 41 (0, 0))) := ⟨(by rw [hw]; exact (by refine bU ?_; refine blk_put (cs := #[.string ((rd_T41 l0 x12_2).f0), .slice A116_1 ((rd_T41 l0 x12_2).f1).length c116_1, .slice none 0 0]) ?_ 2 _ rfl; refine bU ?_; refine blk_put (cs := #[.string ((rd_T41 l0 x12_2).f0), .slice none 0 0, .slice none 0 0]) ?_ 1 _ rfl; refine bU ?_; refine blk_put (cs := #[.string (⟨#[]⟩ : ByteArray), .slice none 0 0, .slice none 0 0]) ?_ 0 _ rfl; refine bU ?_; exact BK117.out))⟩; replace HB : Aside0 (Below w.heap.size w w8) := ⟨(by rw [hw]; exact (lV1 GE117))⟩; clear hw; have hcz9_0 := cz BK117 0 (.string ((rd_T41 l0 x12_2).f0)); have hcz9_1 := cz BK117 1 (.slice A116_1 ((rd_T41 l0 x12_2).f1).length c116_1); have hcz9_2 := cz BK117 2 (.slice A116_2 ((rd_T41 l0 x12_2).f2).length c116_2); have hfz9_0 := fz BK117 0; have hfz9_1 := fz BK117 1; have hfz9_2 := fz BK117 2; obtain ⟨Ao10, co10, eo10⟩ := Kd.R_slice HO_3.out; subst eo10) | ((with_reducible refine gate_callee (f := 43) rfl ?_); refine goesL_ (some 19) rfl rfl Try.func43 (by kernel_rfl) rfl #[.slice Ao10 x3_2.length co10, .string ((rd_T41 l0 x12_2).f0)] rfl aE ?_; (with_reducible refine (spec_l1Has.calls k2 _ _ x3_2 ((rd_T41 l0 x12_2).f0) t118 _ ?side1 ?side2 A5.out).mono ?_); (case side1 => exact cU (Kd.R_reads' HO_3.out).2.2); (case side2 => exact (Kd.R_reads' HO_3.out).2.1); rintro e w' ⟨rfl, ⟨nd, rfl⟩⟩; refine ⟨_, rfl, ?_⟩))
        (try simp only [Act.put, List.setIfInBounds_toArray, List.set_cons_zero, List.set_cons_succ])
        go_loopg [7, 24] k2 (fun kq v7 v24 w' => ∃ (x7_3 : Bool) (x24_3 : Int), v7 = .bool x7_3 ∧ v24 = .int .i64 x24_3 ∧ Aside0 (spec_l21Order.l2 kq l0 x3_2 x4_2 x7_3 l0 (l0.length : Int) x12_2 ((rd_T41 l0 x12_2).f1) (((rd_T41 l0 x12_2).f1).length : Int) x24_3 ((rd_T41 l0 x12_2).f0) ((rd_T41 l0 x12_2).f1) ((rd_T41 l0 x12_2).f2) = some r) ∧ Aside0 (kq ≤ k2) ∧ Aside0 (Kd.R Kd.string 9 w' w.heap.size (fun _ => True) (.slice Ao10 x3_2.length co10) x3_2) ∧ Aside0 (w'.heap[gb117]? = some (.cells #[.string ((rd_T41 l0 x12_2).f0), (.slice A116_1 ((rd_T41 l0 x12_2).f1).length c116_1), (.slice A116_2 ((rd_T41 l0 x12_2).f2).length c116_2)] 41 (0, 0))) ∧ Aside0 (Below w.heap.size w w'))
        case atStart => exact ⟨(!t118), (0), tE, tE, H', ⟨Nat.le_refl _⟩, ⟨by (with_reducible repeat (first | apply Kd.R_alloc | apply Kd.R_drewN | apply Kd.R_drew)); exact HO_3.out⟩, ⟨by refine bU ?_; exact BK117.out⟩, ⟨by repeat (first | (with_reducible first | exact HB.out | apply below_alloc | apply pw_below_drewN | apply below_drew1 | refine below_set ?_ GE117.out) | exact HB.out)⟩⟩
        case round =>
         clear H'
         try clear c1
         try clear p1
         try clear q1
         try clear hx1
         try clear hf1
         try clear c2
         try clear c2b0
         try clear p2
         try clear q2
         try clear hf2
         try clear c3
         try clear c3b0
         try clear c4
         try clear c4b0
         try clear hcz7_0
         try clear hcz7_1
         try clear hcz7_2
         try clear hcz9_0
         try clear hcz9_1
         try clear hcz9_2
         try clear hfz7_0
         try clear hfz7_1
         try clear hfz7_2
         try clear hfz9_0
         try clear hfz9_1
         try clear hfz9_2
         try clear hx116_0
         try clear hx116_1
         try clear hx116_2
         try clear p116
         try clear q116
         obtain ⟨x7_3, x24_3, rfl, rfl, HA, HK3, HO_3, BK117, HB⟩ := hrel
         cases gk with
         | zero => exact absurd HA.out (by simp [spec_l21Order.l2])
         | succ k3 =>
          have H := HA.out
          clear HA
          simp only [spec_l21Order.l2] at H
          by_cases c11 : x24_3 < (((rd_T41 l0 x12_2).f1).length : Int)
          ·rw [if_pos c11] at H
           have c11b0 : decide (x24_3 < (((rd_T41 l0 x12_2).f1).length : Int)) = true := decide_eq_true c11
           clear c11
           by_cases c12 : 0 ≤ x24_3
           ·rw [if_pos c12] at H
            have c12b0 : decide (0 ≤ x24_3) = true := decide_eq_true c12
            clear c12
            by_cases c13 : x24_3 < (((rd_T41 l0 x12_2).f1).length : Int)
            ·rw [if_pos c13] at H
             have c13b0 : decide (x24_3 < (((rd_T41 l0 x12_2).f1).length : Int)) = true := decide_eq_true c13
             clear c13
             by_cases c14 : x7_3 = true
             ·subst c14
              have H1 : ((spec_l1Has.f k3 x3_2 (rdOf ByteArray.empty ((rd_T41 l0 x12_2).f1) x24_3)).bind fun t120 => (spec_l21Order.l2 k3 l0 x3_2 x4_2 t120 l0 (l0.length : Int) x12_2 ((rd_T41 l0 x12_2).f1) (((rd_T41 l0 x12_2).f1).length : Int) (wrap64 (x24_3 + 1)) ((rd_T41 l0 x12_2).f0) ((rd_T41 l0 x12_2).f1) ((rd_T41 l0 x12_2).f2))) = some r := by rw [if_pos rfl] at H; exact H
              clear H
              have H := H1
              clear H1
              replace H := Option.bind_eq_some_iff.mp H
              obtain ⟨t120, A150, H⟩ := H
              replace H : (spec_l21Order.l2 k3 l0 x3_2 x4_2 t120 l0 (l0.length : Int) x12_2 ((rd_T41 l0 x12_2).f1) (((rd_T41 l0 x12_2).f1).length : Int) (wrap64 (x24_3 + 1)) ((rd_T41 l0 x12_2).f0) ((rd_T41 l0 x12_2).f1) ((rd_T41 l0 x12_2).f2)) = some r := H
              have A15 := Aside0.mk A150
              clear A150
              have H' := Aside0.mk H
              clear H
              have p119 : 0 ≤ (x24_3 : Int) := of_decide_eq_true hE
              have q119 : x24_3 < (((rd_T41 l0 x12_2).f1).length : Int) := of_decide_eq_true hE
              obtain ⟨ad119, e119, hx119_0⟩ := Kd.at_string HR116_1.out x24_3 p119 q119
              cases e119
              replace hx119_0 := (HB.out.cell (World.block_lt_of_cell? w _ hx119_0)).trans hx119_0
              replace p119 := eq_true p119
              replace q119 := eq_true q119
              go_wp2_with (first | (go_at_call 43; (with_reducible refine (spec_l1Has.calls k3 _ _ x3_2 (rdOf ByteArray.empty ((rd_T41 l0 x12_2).f1) x24_3) t120 _ ?side1 ?side2 A15.out).mono ?_); (case side1 => exact cU (Kd.R_reads' HO_3.out).2.2); (case side2 => exact (Kd.R_reads' HO_3.out).2.1); rintro e w' ⟨rfl, ⟨nd, rfl⟩⟩))
              go_roundg k3
              case measure => have := HK1.out; have := HK2.out; have := HK3.out; omega
              case rel => exact ⟨(t120), (wrap64 (x24_3 + 1)), tE, tE, H', ⟨by have := HK1.out; have := HK2.out; have := HK3.out; omega⟩, ⟨by (with_reducible repeat (first | apply Kd.R_alloc | apply Kd.R_drewN | apply Kd.R_drew)); exact HO_3.out⟩, ⟨by refine bU ?_; exact BK117.out⟩, ⟨by repeat (first | (with_reducible first | exact HB.out | apply below_alloc | apply pw_below_drewN | apply below_drew1 | refine below_set ?_ GE117.out) | exact HB.out)⟩⟩
             ·replace c14 := Bool.eq_false_iff.mpr c14
              subst c14
              have H1 : (spec_l21Order.l2 k3 l0 x3_2 x4_2 false l0 (l0.length : Int) x12_2 ((rd_T41 l0 x12_2).f1) (((rd_T41 l0 x12_2).f1).length : Int) (wrap64 (x24_3 + 1)) ((rd_T41 l0 x12_2).f0) ((rd_T41 l0 x12_2).f1) ((rd_T41 l0 x12_2).f2)) = some r := by rw [if_neg (show ¬ (false = true) by decide)] at H; exact H
              clear H
              have H := H1
              clear H1
              have H' := Aside0.mk H
              clear H
              have p119 : 0 ≤ (x24_3 : Int) := of_decide_eq_true hE
              have q119 : x24_3 < (((rd_T41 l0 x12_2).f1).length : Int) := of_decide_eq_true hE
              obtain ⟨ad119, e119, hx119_0⟩ := Kd.at_string HR116_1.out x24_3 p119 q119
              cases e119
              replace hx119_0 := (HB.out.cell (World.block_lt_of_cell? w _ hx119_0)).trans hx119_0
              replace p119 := eq_true p119
              replace q119 := eq_true q119
              go_wp2
              go_roundg k3
              case measure => have := HK1.out; have := HK2.out; have := HK3.out; omega
              case rel => exact ⟨(false), (wrap64 (x24_3 + 1)), tE, tE, H', ⟨by have := HK1.out; have := HK2.out; have := HK3.out; omega⟩, ⟨by (with_reducible repeat (first | apply Kd.R_alloc | apply Kd.R_drewN | apply Kd.R_drew)); exact HO_3.out⟩, ⟨by refine bU ?_; exact BK117.out⟩, ⟨by repeat (first | (with_reducible first | exact HB.out | apply below_alloc | apply pw_below_drewN | apply below_drew1 | refine below_set ?_ GE117.out) | exact HB.out)⟩⟩
            ·rw [if_neg c13] at H
             exact absurd H (by simp)
           ·rw [if_neg c12] at H
            exact absurd H (by simp)
          ·rw [if_neg c11] at H
           have c11b0 : decide (x24_3 < (((rd_T41 l0 x12_2).f1).length : Int)) = false := decide_eq_false c11
           clear c11
           by_cases c16 : x7_3 = true
           ·subst c16
            have H1 : (if x3_2.length < 8796093022208 then (spec_l21Order.l0 k3 l0 (x3_2 ++ [((rd_T41 l0 x12_2).f0)])) else (none)) = some r := by rw [if_pos rfl] at H; exact H
            clear H
            have H := H1
            clear H1
            by_cases c17 : x3_2.length < 8796093022208
            ·rw [if_pos c17] at H
             have LMc17 := Aside0.mk c17
             clear c17
             obtain ⟨y121, hy121⟩ : ∃ y_ : List ByteArray, y_ = (x3_2 ++ [((rd_T41 l0 x12_2).f0)]) := ⟨_, rfl⟩
             replace H : (spec_l21Order.l0 k3 l0 y121) = some r := by first | (rw [hy121]; with_reducible exact H) | (have H2_ := (Option.bind_some _ _).symm.trans H; rw [hy121]; with_reducible exact H2_) | (have H2_ := (Option.bind_some _ _).symm.trans H; with_reducible exact H2_) | with_reducible exact H | (rw [hy121]; exact H) | exact H
             have Ny121 := Aside0.mk hy121
             clear hy121
             have H' := Aside0.mk H
             clear H
             have hcz18_0 := cz BK117 0 (.string ((rd_T41 l0 x12_2).f0))
             have hcz18_1 := cz BK117 1 (.slice A116_1 ((rd_T41 l0 x12_2).f1).length c116_1)
             have hcz18_2 := cz BK117 2 (.slice A116_2 ((rd_T41 l0 x12_2).f2).length c116_2)
             have hfz18_0 := fz BK117 0
             have hfz18_1 := fz BK117 1
             have hfz18_2 := fz BK117 2
             go_wp2_with (first | ((with_reducible refine gate_builtin (b := .append) (xs := #[.tmp 36, .tmp 39]) rfl ?_); at_builtin; refine Kd.R_append Kd.string (w0 := w) w.heap.size rfl (.tmp 36) (.tmp 39) 24 9 (.string ⟨#[]⟩) 16 rfl Try.underlying24 info9 rfl (by decide) (by omega) (.slice Ao10 x3_2.length co10) x3_2 ((rd_T41 l0 x12_2).f0) [.string ((rd_T41 l0 x12_2).f0)] (fun _ => True) (fun _ => False) rfl rfl ?aP (fun _ hk => hk.elim) ?aF ?aO ?aB ?aS ?aL ?_; (case aP => exact rfl); (case aB => exact (lV1 GE117)); (case aF => exact (fun _ _ => trivial)); (case aO => exact (rU HO_3.out)); (case aS => exact (below_size (lV1 GE117))); (case aL => have := LMc17.out; omega); intro v122 w19 ho hb hg hat; rw [← Ny121.out] at ho; replace BK117 := Aside0.mk (blk_grown (g := gb117) (o := .cells #[.string ((rd_T41 l0 x12_2).f0), .slice A116_1 ((rd_T41 l0 x12_2).f1).length c116_1, .slice A116_2 ((rd_T41 l0 x12_2).f2).length c116_2] 41 (0, 0)) (bV BK117) hg (Kd.R_ne HO_3.out BK117.out (by decide))); replace HB := Aside0.mk hb; have HO123 := Aside0.mk ho; clear HO_3; clear ho hb hg hat))
             go_roundg k3
             case measure => have := HK1.out; have := HK2.out; have := HK3.out; omega
             case rel => exact ⟨(y121), H', ⟨by have := HK1.out; have := HK2.out; have := HK3.out; omega⟩, ⟨by (with_reducible repeat (first | apply Kd.R_alloc | apply Kd.R_drewN | apply Kd.R_drew)); exact HO123.out⟩, ⟨by repeat (first | (with_reducible first | exact HB.out | apply below_alloc | apply pw_below_drewN | apply below_drew1 | refine below_set ?_ GE117.out) | exact HB.out)⟩⟩
            ·rw [if_neg c17] at H
             exact absurd H (by simp)
           ·replace c16 := Bool.eq_false_iff.mpr c16
            subst c16
            have H1 : (spec_l21Order.l1 k3 l0 x3_2 x4_2 l0 (l0.length : Int) (wrap64 (x12_2 + 1))) = some r := by rw [if_neg (show ¬ (false = true) by decide)] at H; exact H
            clear H
            have H := H1
            clear H1
            have H' := Aside0.mk H
            clear H
            go_wp2
            go_roundg k3
            case measure => have := HK1.out; have := HK2.out; have := HK3.out; omega
            case rel => exact ⟨(x3_2), (x4_2), (wrap64 (x12_2 + 1)), tE, tE, H', ⟨by have := HK1.out; have := HK2.out; have := HK3.out; omega⟩, ⟨by (with_reducible repeat (first | apply Kd.R_alloc | apply Kd.R_drewN | apply Kd.R_drew)); exact HO_3.out⟩, ⟨by repeat (first | (with_reducible first | exact HB.out | apply below_alloc | apply pw_below_drewN | apply below_drew1 | refine below_set ?_ GE117.out) | exact HB.out)⟩⟩
       ·rw [if_neg c4] at H
        exact absurd H (by simp)
      ·rw [if_neg c3] at H
       exact absurd H (by simp)
     ·rw [if_neg c2] at H
      have c2b0 : decide (x12_2 < (l0.length : Int)) = false := decide_eq_false c2
      clear c2
      by_cases c20 : x4_2 = true
      ·subst c20
       have H1 : (spec_l21Order.l0 k2 l0 x3_2) = some r := by rw [if_pos rfl] at H; exact H
       clear H
       have H := H1
       clear H1
       have H' := Aside0.mk H
       clear H
       go_wp2
       go_roundg k2
       case measure => have := HK1.out; have := HK2.out; omega
       case rel => exact ⟨(x3_2), H', ⟨by have := HK1.out; have := HK2.out; omega⟩, ⟨by (with_reducible repeat (first | apply Kd.R_alloc | apply Kd.R_drewN | apply Kd.R_drew)); exact HO_3.out⟩, ⟨by repeat (first | (with_reducible first | exact HB.out | apply below_alloc | apply pw_below_drewN | apply below_drew1) | exact HB.out)⟩⟩
      ·replace c20 := Bool.eq_false_iff.mpr c20
       subst c20
       have H1 : (some x3_2) = some r := by rw [if_neg (show ¬ (false = true) by decide)] at H; exact H
       clear H
       have H := H1
       clear H1
       obtain rfl := Option.some.inj H
       go_wp2
       go_ret
       exact ⟨_, eE, by (with_reducible repeat (first | apply Kd.R_alloc | apply Kd.R_drewN | apply Kd.R_drew)); exact HO_3.out, lU⟩
end Go.Proofs.Ytehkpnnidbghhab.PFnExactStaleBetween
namespace Go.Proofs.Ytehkpnnidbghhab.PFnExactStaleBetween
open Go.RowKit Go.Proofs.YtehkpnnidbghhabW.PrintWords Go.Proofs.YtehkpnnidbghhabW.PrintLast Go.Proofs.YtehkpnnidbghhabW.PrintMore
attribute [local go_sem] max2_int min2_int max_two min_two max_three min_three max_four min_four   -- for this text's walks alone
set_option linter.unusedVariables false
set_option linter.unusedSimpArgs false
mutual
def spec_GoodAssets.l0 : Nat → List (S41) → List (S41) → Int → Int → Option (Bool)
 | 0, _, _, _, _ => none
 | k + 1, x0, x10, x11, x12 => if x12 < x11 then (if 0 ≤ x12 then (if x12 < (x10.length : Int) then ((spec_GoodName.f k ((rd_T41 x10 x12).f0)).bind fun t129 => (if t129 = true then (if x12 > 0 then (if 0 ≤ (wrap64 (x12 - 1)) then (if (wrap64 (x12 - 1)) < (x0.length : Int) then (if ((Op.bytesLess (((rd_T41 x0 (wrap64 (x12 - 1))).f0).toList) (((rd_T41 x10 x12).f0).toList)) = true) then ((spec_l3Names.f k ((rd_T41 x10 x12).f1) 10).bind fun t131 => (if t131 = true then (spec_GoodAssets.j1 k x0 x10 x11 x12 (decide ((((rd_T41 x10 x12).f2).length : Int) > 400)) ((rd_T41 x10 x12).f0) ((rd_T41 x10 x12).f1) ((rd_T41 x10 x12).f2)) else (spec_GoodAssets.j1 k x0 x10 x11 x12 true ((rd_T41 x10 x12).f0) ((rd_T41 x10 x12).f1) ((rd_T41 x10 x12).f2)))) else (spec_GoodAssets.j1 k x0 x10 x11 x12 true ((rd_T41 x10 x12).f0) ((rd_T41 x10 x12).f1) ((rd_T41 x10 x12).f2))) else (none)) else (none)) else ((spec_l3Names.f k ((rd_T41 x10 x12).f1) 10).bind fun t132 => (if t132 = true then (spec_GoodAssets.j1 k x0 x10 x11 x12 (decide ((((rd_T41 x10 x12).f2).length : Int) > 400)) ((rd_T41 x10 x12).f0) ((rd_T41 x10 x12).f1) ((rd_T41 x10 x12).f2)) else (spec_GoodAssets.j1 k x0 x10 x11 x12 true ((rd_T41 x10 x12).f0) ((rd_T41 x10 x12).f1) ((rd_T41 x10 x12).f2))))) else (spec_GoodAssets.j1 k x0 x10 x11 x12 true ((rd_T41 x10 x12).f0) ((rd_T41 x10 x12).f1) ((rd_T41 x10 x12).f2)))) else (none)) else (none)) else ((spec_l21Order.f k x0).bind fun t124 => (some ((t124.length : Int) == (x0.length : Int))))
def spec_GoodAssets.j1 : Nat → List (S41) → List (S41) → Int → Int → Bool → ByteArray → List ByteArray → List Int → Option (Bool)
 | 0, _, _, _, _, _, _, _, _ => none
 | k + 1, x0, x10, x11, x12, x47, x129000, x129001, x129002 => if x47 = true then (some false) else (spec_GoodAssets.l1 k x0 x10 x11 x12 x129001 (x129001.length : Int) 0)
def spec_GoodAssets.l1 : Nat → List (S41) → List (S41) → Int → Int → List ByteArray → Int → Int → Option (Bool)
 | 0, _, _, _, _, _, _, _ => none
 | k + 1, x0, x10, x11, x12, x49, x50, x51 => if x51 < x50 then (if 0 ≤ x51 then (if x51 < (x49.length : Int) then ((spec_l21At.f k x0 (rdOf ByteArray.empty x49 x51)).bind fun t134 => (if t134 < 0 then (some false) else (spec_GoodAssets.l1 k x0 x10 x11 x12 x49 x50 (wrap64 (x51 + 1))))) else (none)) else (none)) else (spec_GoodAssets.l0 k x0 x10 x11 (wrap64 (x12 + 1)))
end
def spec_GoodAssets.f (k : Nat) (l0 : List (S41)) : Option (Bool) := if (l0.length : Int) > 30 then (some false) else (spec_GoodAssets.l0 k l0 l0 (l0.length : Int) 0)
theorem spec_GoodAssets.mono_l : ∀ k, (∀ y0 y1 y2 y3, LeO (spec_GoodAssets.l0 k y0 y1 y2 y3) (spec_GoodAssets.l0 (k + 1) y0 y1 y2 y3)) ∧ (∀ y0 y1 y2 y3 y4 y5 y6 y7, LeO (spec_GoodAssets.j1 k y0 y1 y2 y3 y4 y5 y6 y7) (spec_GoodAssets.j1 (k + 1) y0 y1 y2 y3 y4 y5 y6 y7)) ∧ (∀ y0 y1 y2 y3 y4 y5 y6, LeO (spec_GoodAssets.l1 k y0 y1 y2 y3 y4 y5 y6) (spec_GoodAssets.l1 (k + 1) y0 y1 y2 y3 y4 y5 y6))
 | 0 => ⟨fun _ _ _ _ r h => by simp [spec_GoodAssets.l0] at h, fun _ _ _ _ _ _ _ _ r h => by simp [spec_GoodAssets.j1] at h, fun _ _ _ _ _ _ _ r h => by simp [spec_GoodAssets.l1] at h⟩
 | k + 1 => by
  obtain ⟨ih0, ih1, ih2⟩ := spec_GoodAssets.mono_l k
  refine ⟨?_, ?_, ?_⟩
  ·intro y0 y1 y2 y3
   unfold spec_GoodAssets.l0
   repeat' first
   | (with_reducible exact ih0 _ _ _ _)
   | (with_reducible exact ih1 _ _ _ _ _ _ _ _)
   | (with_reducible exact ih2 _ _ _ _ _ _ _)
   | (with_reducible exact spec_GoodName.mono _ _)
   | (with_reducible exact spec_l21At.mono _ _ _)
   | (with_reducible exact spec_l21Order.mono _ _)
   | (with_reducible exact spec_l3Names.mono _ _ _)
   | (with_reducible first | exact LeO.refl _ | exact LeO.none _ | refine LeO.ite ?_ ?_ | refine LeO.bind ?_ (fun _ => ?_))
   | exact ih0 _ _ _ _
   | exact ih1 _ _ _ _ _ _ _ _
   | exact ih2 _ _ _ _ _ _ _
   | exact spec_GoodName.mono _ _
   | exact spec_l21At.mono _ _ _
   | exact spec_l21Order.mono _ _
   | exact spec_l3Names.mono _ _ _ | exact LeO.none _ | refine LeO.ite ?_ ?_ | refine LeO.bind ?_ (fun _ => ?_)
  ·intro y0 y1 y2 y3 y4 y5 y6 y7
   unfold spec_GoodAssets.j1
   repeat' first
   | (with_reducible exact ih0 _ _ _ _)
   | (with_reducible exact ih1 _ _ _ _ _ _ _ _)
   | (with_reducible exact ih2 _ _ _ _ _ _ _)
   | (with_reducible exact spec_GoodName.mono _ _)
   | (with_reducible exact spec_l21At.mono _ _ _)
   | (with_reducible exact spec_l21Order.mono _ _)
   | (with_reducible exact spec_l3Names.mono _ _ _)
   | (with_reducible first | exact LeO.refl _ | exact LeO.none _ | refine LeO.ite ?_ ?_ | refine LeO.bind ?_ (fun _ => ?_))
   | exact ih0 _ _ _ _
   | exact ih1 _ _ _ _ _ _ _ _
   | exact ih2 _ _ _ _ _ _ _
   | exact spec_GoodName.mono _ _
   | exact spec_l21At.mono _ _ _
   | exact spec_l21Order.mono _ _
   | exact spec_l3Names.mono _ _ _ | exact LeO.none _ | refine LeO.ite ?_ ?_ | refine LeO.bind ?_ (fun _ => ?_)
  ·intro y0 y1 y2 y3 y4 y5 y6
   unfold spec_GoodAssets.l1
   repeat' first
   | (with_reducible exact ih0 _ _ _ _)
   | (with_reducible exact ih1 _ _ _ _ _ _ _ _)
   | (with_reducible exact ih2 _ _ _ _ _ _ _)
   | (with_reducible exact spec_GoodName.mono _ _)
   | (with_reducible exact spec_l21At.mono _ _ _)
   | (with_reducible exact spec_l21Order.mono _ _)
   | (with_reducible exact spec_l3Names.mono _ _ _)
   | (with_reducible first | exact LeO.refl _ | exact LeO.none _ | refine LeO.ite ?_ ?_ | refine LeO.bind ?_ (fun _ => ?_))
   | exact ih0 _ _ _ _
   | exact ih1 _ _ _ _ _ _ _ _
   | exact ih2 _ _ _ _ _ _ _
   | exact spec_GoodName.mono _ _
   | exact spec_l21At.mono _ _ _
   | exact spec_l21Order.mono _ _
   | exact spec_l3Names.mono _ _ _ | exact LeO.none _ | refine LeO.ite ?_ ?_ | refine LeO.bind ?_ (fun _ => ?_)
theorem spec_GoodAssets.mono : ∀ a0 k, LeO (spec_GoodAssets.f k a0) (spec_GoodAssets.f (k + 1) a0) := by
 intro a0 k
 obtain ⟨ih0, ih1, ih2⟩ := spec_GoodAssets.mono_l k
 unfold spec_GoodAssets.f
 repeat' first
   | (with_reducible exact ih0 _ _ _ _)
   | (with_reducible exact ih1 _ _ _ _ _ _ _ _)
   | (with_reducible exact ih2 _ _ _ _ _ _ _)
   | (with_reducible exact spec_GoodName.mono _ _)
   | (with_reducible exact spec_l21At.mono _ _ _)
   | (with_reducible exact spec_l21Order.mono _ _)
   | (with_reducible exact spec_l3Names.mono _ _ _)
   | (with_reducible first | exact LeO.refl _ | exact LeO.none _ | refine LeO.ite ?_ ?_ | refine LeO.bind ?_ (fun _ => ?_))
   | exact ih0 _ _ _ _
   | exact ih1 _ _ _ _ _ _ _ _
   | exact ih2 _ _ _ _ _ _ _
   | exact spec_GoodName.mono _ _
   | exact spec_l21At.mono _ _ _
   | exact spec_l21Order.mono _ _
   | exact spec_l3Names.mono _ _ _ | exact LeO.none _ | refine LeO.ite ?_ ?_ | refine LeO.bind ?_ (fun _ => ?_)
def spec_GoodAssets.T6 : Bool × List (List Nat × List Nat) := (true, [([], []), ([0], [0]), ([1], [1]), ([2], [2]), ([3, 2], [3]), ([4], [4]), ([5, 4], [4, 5]), ([6, 4, 4], [4, 6]), ([7], [7]), ([7], [7]), ([9, 7], [7, 9]), ([8, 10, 7], [7, 8, 10]), ([11, 7], [7, 11]), ([12, 7], [7, 12]), ([7], [7]), ([14, 7], [7, 14]), ([13, 15, 7], [7, 13, 15]), ([7, 16, 4], [4, 7, 16]), ([4, 17], [4, 17]), ([18, 7], [18]), ([19], [19]), ([20, 19], [19, 20]), ([21, 19, 19], [19, 21]), ([22, 19], [19, 22]), ([19, 23], [19, 23]), ([24, 22], [24]), ([25], [25]), ([26, 25], [25, 26]), ([27, 25], [25, 27]), ([28, 25], [25, 28]), ([25, 29], [25, 29])])
def spec_GoodAssets.B6 : List Nat := [0, 1, 3, 7, 15, 31, 63, 127, 255, 255, 767, 2047, 4095, 8191, 255, 16639, 65535, 131071, 262143, 524287, 1048575, 2097151, 4194303, 8388607, 16777215, 33554431, 67108863, 134217727, 268435455, 536870911, 1073741823]
theorem spec_GoodAssets.tab6 : rtab .any (opsOf Try.f14 6) = spec_GoodAssets.T6 := by kernel_rfl
theorem spec_GoodAssets.bits6 : waitsOk spec_GoodAssets.T6.2 spec_GoodAssets.B6 = true := by kernel_rfl
set_option maxHeartbeats 8000000 in
set_option maxRecDepth 100000 in
theorem spec_GoodAssets.calls (k : Nat) (A0 : Option Addr) (c0 : Nat) (l0 : List (S41)) (r : Bool) (w : World) (hr0 : Kd.C k41 w A0 l0.length l0) (hc0 : l0.length ≤ c0) (h : spec_GoodAssets.f k l0 = some r) :
  Calls Try.prog 14 #[.slice A0 l0.length c0] w fun e w' => e = .returned (.bool r) ∧ Below w.heap.size w w' := by
 have hu41 := Try.underlying41
 have HR0 := Aside0.mk hr0
 have HC0 := Aside0.mk hc0
 clear hr0 hc0
 have HB := Aside0.mk (Below.refl w.heap.size w)
 have H : (if (l0.length : Int) > 30 then (some false) else (spec_GoodAssets.l0 k l0 l0 (l0.length : Int) 0)) = some r := h
 clear h
 by_cases c2 : (l0.length : Int) > 30
 ·rw [if_pos c2] at H
  have c2b0 : decide (30 < (l0.length : Int)) = true := decide_eq_true c2
  have c2b1 : decide (30 < l0.length) = true := decide_eq_true (by omega)
  clear c2
  obtain rfl := Option.some.inj H
  go_enter Try.func14, Try.ntmps14
  go_wp2
  go_ret
  exact ⟨eE, lU⟩
 ·rw [if_neg c2] at H
  have c2b0 : decide (30 < (l0.length : Int)) = false := decide_eq_false c2
  have c2b1 : decide (30 < l0.length) = false := decide_eq_false (by omega)
  clear c2
  have H' := Aside0.mk H
  clear H
  go_enter Try.func14, Try.ntmps14
  go_wp2
  go_loopg [12] k (fun kq v12 w' => ∃ (x12_1 : Int), v12 = .int .i64 x12_1 ∧ Aside0 (spec_GoodAssets.l0 kq l0 l0 (l0.length : Int) x12_1 = some r) ∧ Aside0 (kq ≤ k) ∧ Aside0 (Below w.heap.size w w'))
  case atStart => exact ⟨(0), tE, H', ⟨Nat.le_refl _⟩, ⟨by repeat (first | (with_reducible first | exact HB.out | apply below_alloc | apply pw_below_drewN | apply below_drew1) | exact HB.out)⟩⟩
  case round =>
   clear H'
   try clear c1
   try clear c2
   try clear c2b0
   try clear c2b1
   try clear p2
   obtain ⟨x12_1, rfl, HA, HK1, HB⟩ := hrel
   cases gk with
   | zero => exact absurd HA.out (by simp [spec_GoodAssets.l0])
   | succ k1 =>
    have H := HA.out
    clear HA
    simp only [spec_GoodAssets.l0] at H
    by_cases c3 : x12_1 < (l0.length : Int)
    ·rw [if_pos c3] at H
     have c3b0 : decide (x12_1 < (l0.length : Int)) = true := decide_eq_true c3
     clear c3
     by_cases c4 : 0 ≤ x12_1
     ·rw [if_pos c4] at H
      have c4b0 : decide (0 ≤ x12_1) = true := decide_eq_true c4
      clear c4
      by_cases c5 : x12_1 < (l0.length : Int)
      ·rw [if_pos c5] at H
       have c5b0 : decide (x12_1 < (l0.length : Int)) = true := decide_eq_true c5
       clear c5
       have HC6 := Aside0.mk H
       clear H
       have p127 : 0 ≤ (x12_1 : Int) := of_decide_eq_true hE
       have q127 : x12_1 < (l0.length : Int) := of_decide_eq_true hE
       obtain ⟨ad127, A127_1, c127_1, A127_2, c127_2, e127, hx127_0, hx127_1, hx127_2, hl127_1, hi127_1, hl127_2, hi127_2⟩ := at_T41 HR0.out x12_1 p127 q127
       cases e127
       replace hx127_0 := (HB.out.cell (World.block_lt_of_cell? w _ hx127_0)).trans hx127_0
       replace hx127_1 := (HB.out.cell (World.block_lt_of_cell? w _ hx127_1)).trans hx127_1
       replace hx127_2 := (HB.out.cell (World.block_lt_of_cell? w _ hx127_2)).trans hx127_2
       have HR127_1 := Aside0.mk hi127_1
       have HC127_1 := Aside0.mk hl127_1
       clear hi127_1 hl127_1
       have HR127_2 := Aside0.mk hi127_2
       have HC127_2 := Aside0.mk hl127_2
       clear hi127_2 hl127_2
       replace p127 := eq_true p127
       replace q127 := eq_true q127
       go_upto_region 6 with (first | ((with_reducible refine gate_dst (N := 4) rfl ?_); (try (refine gate_guard (by rfl) ?_; dsimp only)); refine box_event rfl (N := 4) rfl (cs := #[.string (⟨#[]⟩ : ByteArray), .slice none 0 0, .slice none 0 0]) (t := 41) sE ?_; intro gb128 hg w7 hbox hb; have BK128 := Aside0.mk hbox; have GW128 := gS w hg (lU); have GE128 := gS w hg (lU); replace HB := bH (lU) hb; clear hb hbox hg; have hcz8_0 := cz BK128 0 (.string (⟨#[]⟩ : ByteArray)); have hcz8_1 := cz BK128 1 (.slice none 0 0); have hcz8_2 := cz BK128 2 (.slice none 0 0); have hfz8_0 := fz BK128 0; have hfz8_1 := fz BK128 1; have hfz8_2 := fz BK128 2) | ((with_reducible refine gate_store (t := 41) (p := 4) rfl ?_); refine store_event (t := 41) (p := 4) (v := ?vo_w9) (w1 := (((w7.setCell ⟨gb128, 0, none⟩ (.string ((rd_T41 l0 x12_1).f0))).setCell ⟨gb128, 1, none⟩ (.slice A127_1 ((rd_T41 l0 x12_1).f1).length c127_1)).setCell ⟨gb128, 2, none⟩ (.slice A127_2 ((rd_T41 l0 x12_1).f2).length c127_2))) ?hg ?ho ?hn ?hr ?_; (case ho => rfl); (case hg => rfl); (case hn => rfl); (case hr => first | (go_simp; done) | (go_simp; rfl) | (have hq0_ := (blk_cell BK128.out 0).trans (show _ = some _ from rfl); have hf0_ := blk_frozen BK128.out 0; have hq1_ := (blk_cell BK128.out 1).trans (show _ = some _ from rfl); have hf1_ := blk_frozen BK128.out 1; have hq2_ := (blk_cell BK128.out 2).trans (show _ = some _ from rfl); have hf2_ := blk_frozen BK128.out 2; first | (go_simp; done) | (go_simp; rfl))); intro w9 hw; replace BK128 : Aside0 (w9.heap[gb128]? = some (.cells #[.string ((rd_T41 l0 x12_1).f0), .slice A127_1 ((rd_T41 l0 x12_1).f1).length c127_1, .slice A127_2 ((rd_T41 l0 x12_1).f2).length c127_2] 41 (0, 0))) := ⟨(by rw [hw]; exact (by refine bU ?_; refine blk_put (cs := #[.string ((rd_T41 l0 x12_1).f0), .slice A127_1 ((rd_T41 l0 x12_1).f1).length c127_1, .slice none 0 0]) ?_ 2 _ rfl; refine bU ?_; refine blk_put (cs := #[.string ((rd_T41 l0 x12_1).f0), .slice none 0 0, .slice none 0 0]) ?_ 1 _ rfl; refine bU ?_; refine blk_put (cs := #[.string (⟨#[]⟩ : ByteArray), .slice none 0 0, .slice none 0 0]) ?_ 0 _ rfl; refine bU ?_; exact BK128.out))⟩; replace HB : Aside0 (Below w.heap.size w w9) := ⟨(by rw [hw]; exact (lV1 GE128))⟩; clear hw))
       (try simp only [Act.put, List.setIfInBounds_toArray, List.set_cons_zero, List.set_cons_succ])
       go_cut [47] (fun v47 wc => ∃ (kq : Nat) (x47_5 : Bool), v47 = .bool x47_5 ∧ Aside0 (spec_GoodAssets.j1 kq l0 l0 (l0.length : Int) x12_1 x47_5 ((rd_T41 l0 x12_1).f0) ((rd_T41 l0 x12_1).f1) ((rd_T41 l0 x12_1).f2) = some r) ∧ Aside0 (kq ≤ k1) ∧ Aside0 (wc.heap[gb128]? = some (.cells #[.string ((rd_T41 l0 x12_1).f0), (.slice A127_1 ((rd_T41 l0 x12_1).f1).length c127_1), (.slice A127_2 ((rd_T41 l0 x12_1).f2).length c127_2)] 41 (0, 0))) ∧ Aside0 (Below w.heap.size w wc))
       case first =>
        have H := HC6.out
        clear HC6
        replace H := Option.bind_eq_some_iff.mp H
        obtain ⟨t129, A100, H⟩ := H
        replace H : (if t129 = true then (if x12_1 > 0 then (if 0 ≤ (wrap64 (x12_1 - 1)) then (if (wrap64 (x12_1 - 1)) < (l0.length : Int) then (if ((Op.bytesLess (((rd_T41 l0 (wrap64 (x12_1 - 1))).f0).toList) (((rd_T41 l0 x12_1).f0).toList)) = true) then ((spec_l3Names.f k1 ((rd_T41 l0 x12_1).f1) 10).bind fun t131 => (if t131 = true then (spec_GoodAssets.j1 k1 l0 l0 (l0.length : Int) x12_1 (decide ((((rd_T41 l0 x12_1).f2).length : Int) > 400)) ((rd_T41 l0 x12_1).f0) ((rd_T41 l0 x12_1).f1) ((rd_T41 l0 x12_1).f2)) else (spec_GoodAssets.j1 k1 l0 l0 (l0.length : Int) x12_1 true ((rd_T41 l0 x12_1).f0) ((rd_T41 l0 x12_1).f1) ((rd_T41 l0 x12_1).f2)))) else (spec_GoodAssets.j1 k1 l0 l0 (l0.length : Int) x12_1 true ((rd_T41 l0 x12_1).f0) ((rd_T41 l0 x12_1).f1) ((rd_T41 l0 x12_1).f2))) else (none)) else (none)) else ((spec_l3Names.f k1 ((rd_T41 l0 x12_1).f1) 10).bind fun t132 => (if t132 = true then (spec_GoodAssets.j1 k1 l0 l0 (l0.length : Int) x12_1 (decide ((((rd_T41 l0 x12_1).f2).length : Int) > 400)) ((rd_T41 l0 x12_1).f0) ((rd_T41 l0 x12_1).f1) ((rd_T41 l0 x12_1).f2)) else (spec_GoodAssets.j1 k1 l0 l0 (l0.length : Int) x12_1 true ((rd_T41 l0 x12_1).f0) ((rd_T41 l0 x12_1).f1) ((rd_T41 l0 x12_1).f2))))) else (spec_GoodAssets.j1 k1 l0 l0 (l0.length : Int) x12_1 true ((rd_T41 l0 x12_1).f0) ((rd_T41 l0 x12_1).f1) ((rd_T41 l0 x12_1).f2))) = some r := H
        have A10 := Aside0.mk A100
        clear A100
        by_cases c11 : t129 = true
        ·subst c11
         have H1 : (if x12_1 > 0 then (if 0 ≤ (wrap64 (x12_1 - 1)) then (if (wrap64 (x12_1 - 1)) < (l0.length : Int) then (if ((Op.bytesLess (((rd_T41 l0 (wrap64 (x12_1 - 1))).f0).toList) (((rd_T41 l0 x12_1).f0).toList)) = true) then ((spec_l3Names.f k1 ((rd_T41 l0 x12_1).f1) 10).bind fun t131 => (if t131 = true then (spec_GoodAssets.j1 k1 l0 l0 (l0.length : Int) x12_1 (decide ((((rd_T41 l0 x12_1).f2).length : Int) > 400)) ((rd_T41 l0 x12_1).f0) ((rd_T41 l0 x12_1).f1) ((rd_T41 l0 x12_1).f2)) else (spec_GoodAssets.j1 k1 l0 l0 (l0.length : Int) x12_1 true ((rd_T41 l0 x12_1).f0) ((rd_T41 l0 x12_1).f1) ((rd_T41 l0 x12_1).f2)))) else (spec_GoodAssets.j1 k1 l0 l0 (l0.length : Int) x12_1 true ((rd_T41 l0 x12_1).f0) ((rd_T41 l0 x12_1).f1) ((rd_T41 l0 x12_1).f2))) else (none)) else (none)) else ((spec_l3Names.f k1 ((rd_T41 l0 x12_1).f1) 10).bind fun t132 => (if t132 = true then (spec_GoodAssets.j1 k1 l0 l0 (l0.length : Int) x12_1 (decide ((((rd_T41 l0 x12_1).f2).length : Int) > 400)) ((rd_T41 l0 x12_1).f0) ((rd_T41 l0 x12_1).f1) ((rd_T41 l0 x12_1).f2)) else (spec_GoodAssets.j1 k1 l0 l0 (l0.length : Int) x12_1 true ((rd_T41 l0 x12_1).f0) ((rd_T41 l0 x12_1).f1) ((rd_T41 l0 x12_1).f2))))) = some r := by rw [if_pos rfl] at H; exact H
         clear H
         have H := H1
         clear H1
         by_cases c12 : x12_1 > 0
         ·rw [if_pos c12] at H
          have c12b0 : decide (0 < x12_1) = true := decide_eq_true c12
          clear c12
          (first | rw [c12b0] | (simp only [i64_w, i32_w]; rw [c12b0]) | (rw [c12b2]; simp only [Bool.not_false, Bool.not_true]) | skip)
          obtain ⟨ji13, hji13⟩ : ∃ j_ : Int, (wrap64 (x12_1 - 1)) = j_ := ⟨_, rfl⟩
          replace H : (if 0 ≤ (ji13) then (if (ji13) < (l0.length : Int) then (if ((Op.bytesLess (((rd_T41 l0 (ji13)).f0).toList) (((rd_T41 l0 x12_1).f0).toList)) = true) then ((spec_l3Names.f k1 ((rd_T41 l0 x12_1).f1) 10).bind fun t131 => (if t131 = true then (spec_GoodAssets.j1 k1 l0 l0 (l0.length : Int) x12_1 (decide ((((rd_T41 l0 x12_1).f2).length : Int) > 400)) ((rd_T41 l0 x12_1).f0) ((rd_T41 l0 x12_1).f1) ((rd_T41 l0 x12_1).f2)) else (spec_GoodAssets.j1 k1 l0 l0 (l0.length : Int) x12_1 true ((rd_T41 l0 x12_1).f0) ((rd_T41 l0 x12_1).f1) ((rd_T41 l0 x12_1).f2)))) else (spec_GoodAssets.j1 k1 l0 l0 (l0.length : Int) x12_1 true ((rd_T41 l0 x12_1).f0) ((rd_T41 l0 x12_1).f1) ((rd_T41 l0 x12_1).f2))) else (none)) else (none)) = some r := by first | (rw [hji13] at H; exact H) | (simp only [hji13] at H ⊢; exact H)
          (try rw [hji13] at A10)
          have hji13w : (IntKind.i64.wrap (x12_1 - 1)) = ji13 := (i64_w _).trans hji13
          by_cases c14 : 0 ≤ (ji13)
          ·rw [if_pos c14] at H
           have c14b0 : decide (0 ≤ (ji13)) = true := decide_eq_true c14
           clear c14
           by_cases c15 : (ji13) < (l0.length : Int)
           ·rw [if_pos c15] at H
            have c15b0 : decide ((ji13) < (l0.length : Int)) = true := decide_eq_true c15
            clear c15
            by_cases c16 : ((Op.bytesLess (((rd_T41 l0 (ji13)).f0).toList) (((rd_T41 l0 x12_1).f0).toList)) = true)
            ·rw [if_pos c16] at H
             have c16b0 : (Op.bytesLess (((rd_T41 l0 (ji13)).f0).toList) (((rd_T41 l0 x12_1).f0).toList)) = true := c16
             clear c16
             replace H := Option.bind_eq_some_iff.mp H
             obtain ⟨t131, A170, H⟩ := H
             replace H : (if t131 = true then (spec_GoodAssets.j1 k1 l0 l0 (l0.length : Int) x12_1 (decide ((((rd_T41 l0 x12_1).f2).length : Int) > 400)) ((rd_T41 l0 x12_1).f0) ((rd_T41 l0 x12_1).f1) ((rd_T41 l0 x12_1).f2)) else (spec_GoodAssets.j1 k1 l0 l0 (l0.length : Int) x12_1 true ((rd_T41 l0 x12_1).f0) ((rd_T41 l0 x12_1).f1) ((rd_T41 l0 x12_1).f2))) = some r := H
             have A17 := Aside0.mk A170
             clear A170
             by_cases c18 : t131 = true
             ·subst c18
              have H1 : (spec_GoodAssets.j1 k1 l0 l0 (l0.length : Int) x12_1 (decide ((((rd_T41 l0 x12_1).f2).length : Int) > 400)) ((rd_T41 l0 x12_1).f0) ((rd_T41 l0 x12_1).f1) ((rd_T41 l0 x12_1).f2)) = some r := by rw [if_pos rfl] at H; exact H
              clear H
              have H := H1
              clear H1
              have H' := Aside0.mk H
              clear H
              try go_wp2
              replace BK128 := Aside0.mk (blk_drew BK128.out)
              replace HB := Aside0.mk (below_drew1 HB.out)
              have p130 : 0 ≤ ((ji13) : Int) := of_decide_eq_true hE
              have q130 : (ji13) < (l0.length : Int) := of_decide_eq_true hE
              obtain ⟨ad130, A130_1, c130_1, A130_2, c130_2, e130, hx130_0, hx130_1, hx130_2, hl130_1, hi130_1, hl130_2, hi130_2⟩ := at_T41 HR0.out (ji13) p130 q130
              have hw130_2 := hx130_2
              have hw130_1 := hx130_1
              have hw130_0 := hx130_0
              obtain rfl : ad127 = ad130 := (by injection e130)
              replace hx130_0 := (HB.out.cell (World.block_lt_of_cell? w _ hx130_0)).trans hx130_0
              replace hx130_1 := (HB.out.cell (World.block_lt_of_cell? w _ hx130_1)).trans hx130_1
              replace hx130_2 := (HB.out.cell (World.block_lt_of_cell? w _ hx130_2)).trans hx130_2
              have HR130_1 := Aside0.mk hi130_1
              have HC130_1 := Aside0.mk hl130_1
              clear hi130_1 hl130_1
              have HR130_2 := Aside0.mk hi130_2
              have HC130_2 := Aside0.mk hl130_2
              clear hi130_2 hl130_2
              replace p130 := eq_true p130
              replace q130 := eq_true q130
              refine start_ (n := 31) (S := fun w' => w'.cell? ⟨gb128, 0, none⟩ = some (.string ((rd_T41 l0 x12_1).f0)) ∧ w'.cell? ⟨gb128, 1, none⟩ = some (.slice A127_1 ((rd_T41 l0 x12_1).f1).length c127_1) ∧ w'.cell? ⟨gb128, 2, none⟩ = some (.slice A127_2 ((rd_T41 l0 x12_1).f2).length c127_2) ∧ w'.cell? (ad127.add (((ji13)).toNat * 3)) = some (.string ((rd_T41 l0 (ji13)).f0)) ∧ w'.cell? ⟨(ad127.add (((ji13)).toNat * 3)).block, (ad127.add (((ji13)).toNat * 3)).off + 1, none⟩ = some (.slice A130_1 ((rd_T41 l0 (ji13)).f1).length c130_1) ∧ w'.cell? ⟨(ad127.add (((ji13)).toNat * 3)).block, (ad127.add (((ji13)).toNat * 3)).off + 2, none⟩ = some (.slice A130_2 ((rd_T41 l0 (ji13)).f2).length c130_2)) (ds := []) #[false, false, false, false, false, false, false, false, false, false, false, false, false, false, false, false, false, false, false, false, false, false, false, false, false, false, false, false, false, false, false] (by kernel_rfl) rfl rfl ⟨cz BK128 0 _, cz BK128 1 _, cz BK128 2 _, ((HB.out.cell (World.block_lt_of_cell? w _ hw130_0)).trans hw130_0), ((HB.out.cell (World.block_lt_of_cell? w _ hw130_1)).trans hw130_1), ((HB.out.cell (World.block_lt_of_cell? w _ hw130_2)).trans hw130_2)⟩ (fun hHeld => ?_); refine with_tabW spec_GoodAssets.tab6 spec_GoodAssets.bits6 (fun HT_ HW_ => ?_)
              generalize w9.drew = w19 at BK128 HB HR130_1 HR130_2 hx130_0 hx130_1 hx130_2 hHeld ⊢
              refine pureA 0 17 (bz 31 1) rfl rfl (any_of HT_.out (by kernel_rfl)) ?_
              refine takeA 1 18 (bz 31 3) rfl rfl (take_ofW HT_.out HW_.out (by kernel_rfl)) hHeld (by rintro w' ⟨s0, s1, s2, s3, s4, s5⟩; go_simp; with_reducible rfl) ?_
              refine one_ (i := 2) (N := some 19) (bz 31 7) rfl rfl (one_of HT_.out (by kernel_rfl)) (by decide) (fun K hK => ?_)
              refine goes_ Try.func25 (by kernel_rfl) rfl #[.string ((rd_T41 l0 x12_1).f0)] (by rfl) rfl rfl aE ?_
              with_reducible refine (spec_GoodName.calls k1 ((rd_T41 l0 x12_1).f0) true _ A10.out).mono ?_
              rintro e w' ⟨rfl, ⟨nd, rfl⟩⟩
              refine ⟨_, rfl, ?_⟩
              refine hK.out _ _ ⟨cz BK128 0 _, cz BK128 1 _, cz BK128 2 _, ((HB.out.cell (World.block_lt_of_cell? w _ hw130_0)).trans hw130_0), ((HB.out.cell (World.block_lt_of_cell? w _ hw130_1)).trans hw130_1), ((HB.out.cell (World.block_lt_of_cell? w _ hw130_2)).trans hw130_2)⟩ (fun hHeld => ?_)
              clear hK K
              refine norm_ (a' := ?_) ?_ ?_
              rotate_left
              ·show Act.put _ (some 19) _ = _
               simp only [Act.put, List.setIfInBounds_toArray, List.set_cons_zero, List.set_cons_succ, i64_w, i32_w]
               rfl
              refine pureA 3 20 (bz 31 15) rfl rfl (any_of HT_.out (by kernel_rfl)) ?_
              refine pureA 4 21 (bz 31 31) rfl rfl (any_of HT_.out (by kernel_rfl)) ?_
              refine pureA 5 22 (bz 31 63) rfl rfl (any_of HT_.out (by kernel_rfl)) ?_
              refine pureA 6 23 (bz 31 127) rfl rfl (any_of HT_.out (by kernel_rfl)) ?_
              refine pureA 7 24 (bz 31 255) rfl rfl (any_of HT_.out (by kernel_rfl)) ?_
              refine pureA 8 25 (bz 31 511) rfl rfl (any_of HT_.out (by kernel_rfl)) ?_
              refine pureA 9 26 (bz 31 1023) rfl rfl (any_of HT_.out (by kernel_rfl)) ?_
              refine pureA 10 27 (bz 31 2047) rfl rfl (any_of HT_.out (by kernel_rfl)) ?_
              refine pureA 11 28 (bz 31 4095) rfl rfl (any_of HT_.out (by kernel_rfl)) ?_
              refine pureA 12 29 (bz 31 8191) rfl rfl (any_of HT_.out (by kernel_rfl)) ?_
              refine pureA 14 31 (bz 31 24575) rfl rfl (any_of HT_.out (by kernel_rfl)) ?_
              refine takeA 13 30 (bz 31 32767) rfl rfl (take_ofW HT_.out HW_.out (by kernel_rfl)) hHeld (by rintro w' ⟨s0, s1, s2, s3, s4, s5⟩; go_simp; with_reducible rfl) ?_
              refine takeA 15 32 (bz 31 65535) rfl rfl (take_ofW HT_.out HW_.out (by kernel_rfl)) hHeld (by rintro w' ⟨s0, s1, s2, s3, s4, s5⟩; go_simp; with_reducible rfl) ?_
              refine pureA 16 33 (bz 31 131071) rfl rfl (any_of HT_.out (by kernel_rfl)) ?_
              refine pureA 17 34 (bz 31 262143) rfl rfl (any_of HT_.out (by kernel_rfl)) ?_
              refine pureA 18 35 (bz 31 524287) rfl rfl (any_of HT_.out (by kernel_rfl)) ?_
              refine pureA 19 36 (bz 31 1048575) rfl rfl (any_of HT_.out (by kernel_rfl)) ?_
              refine pureA 20 37 (bz 31 2097151) rfl rfl (any_of HT_.out (by kernel_rfl)) ?_
              refine takeA 21 38 (bz 31 4194303) rfl rfl (take_ofW HT_.out HW_.out (by kernel_rfl)) hHeld (by rintro w' ⟨s0, s1, s2, s3, s4, s5⟩; go_simp; with_reducible rfl) ?_
              refine one_ (i := 22) (N := some 39) (bz 31 8388607) rfl rfl (one_of HT_.out (by kernel_rfl)) (by decide) (fun K hK => ?_)
              refine goes_ Try.func26 (by kernel_rfl) rfl #[.slice A127_1 ((rd_T41 l0 x12_1).f1).length c127_1, .int .i64 10] (by rfl) rfl rfl aE ?_
              with_reducible refine (spec_l3Names.calls k1 _ _ ((rd_T41 l0 x12_1).f1) 10 true _ ?side1 ?side2 A17.out).mono ?_
              (case side1 => exact cU (Kd.C_below HR127_1.out (lV1 GE128)))
              (case side2 => exact HC127_1.out)
              rintro e w' ⟨rfl, ⟨nd, rfl⟩⟩
              refine ⟨_, rfl, ?_⟩
              refine hK.out _ _ ⟨cz BK128 0 _, cz BK128 1 _, cz BK128 2 _, ((HB.out.cell (World.block_lt_of_cell? w _ hw130_0)).trans hw130_0), ((HB.out.cell (World.block_lt_of_cell? w _ hw130_1)).trans hw130_1), ((HB.out.cell (World.block_lt_of_cell? w _ hw130_2)).trans hw130_2)⟩ (fun hHeld => ?_)
              clear hK K
              refine norm_ (a' := ?_) ?_ ?_
              rotate_left
              ·show Act.put _ (some 39) _ = _
               simp only [Act.put, List.setIfInBounds_toArray, List.set_cons_zero, List.set_cons_succ, i64_w, i32_w]
               rfl
              refine pureA 23 40 (bz 31 16777215) rfl rfl (any_of HT_.out (by kernel_rfl)) ?_
              refine pureA 24 41 (bz 31 33554431) rfl rfl (any_of HT_.out (by kernel_rfl)) ?_
              refine pureA 25 42 (bz 31 67108863) rfl rfl (any_of HT_.out (by kernel_rfl)) ?_
              refine pureA 26 43 (bz 31 134217727) rfl rfl (any_of HT_.out (by kernel_rfl)) ?_
              refine takeA 27 44 (bz 31 268435455) rfl rfl (take_ofW HT_.out HW_.out (by kernel_rfl)) hHeld (by rintro w' ⟨s0, s1, s2, s3, s4, s5⟩; go_simp; with_reducible rfl) ?_
              refine pureA 28 45 (bz 31 536870911) rfl rfl (any_of HT_.out (by kernel_rfl)) ?_
              refine pureA 29 46 (bz 31 1073741823) rfl rfl (any_of HT_.out (by kernel_rfl)) ?_
              refine pureA 30 47 (bz 31 2147483647) rfl rfl (any_of HT_.out (by kernel_rfl)) ?_
              refine done_ (done_of HT_.out (by kernel_rfl)) ?_
              try go_wp2
              go_meet
              case rel => exact ⟨_, (decide ((((rd_T41 l0 x12_1).f2).length : Int) > 400)), tE, H', ⟨by have := HK1.out; first | omega | exact Nat.le_refl _⟩, ⟨by refine bU ?_; exact BK128.out⟩, ⟨by repeat (first | (with_reducible first | exact HB.out | apply below_alloc | apply pw_below_drewN | apply below_drew1 | refine below_set ?_ GE128.out) | exact HB.out)⟩⟩
             ·replace c18 := Bool.eq_false_iff.mpr c18
              subst c18
              have H1 : (spec_GoodAssets.j1 k1 l0 l0 (l0.length : Int) x12_1 true ((rd_T41 l0 x12_1).f0) ((rd_T41 l0 x12_1).f1) ((rd_T41 l0 x12_1).f2)) = some r := by rw [if_neg (show ¬ (false = true) by decide)] at H; exact H
              clear H
              have H := H1
              clear H1
              have H' := Aside0.mk H
              clear H
              try go_wp2
              replace BK128 := Aside0.mk (blk_drew BK128.out)
              replace HB := Aside0.mk (below_drew1 HB.out)
              have p130 : 0 ≤ ((ji13) : Int) := of_decide_eq_true hE
              have q130 : (ji13) < (l0.length : Int) := of_decide_eq_true hE
              obtain ⟨ad130, A130_1, c130_1, A130_2, c130_2, e130, hx130_0, hx130_1, hx130_2, hl130_1, hi130_1, hl130_2, hi130_2⟩ := at_T41 HR0.out (ji13) p130 q130
              have hw130_2 := hx130_2
              have hw130_1 := hx130_1
              have hw130_0 := hx130_0
              obtain rfl : ad127 = ad130 := (by injection e130)
              replace hx130_0 := (HB.out.cell (World.block_lt_of_cell? w _ hx130_0)).trans hx130_0
              replace hx130_1 := (HB.out.cell (World.block_lt_of_cell? w _ hx130_1)).trans hx130_1
              replace hx130_2 := (HB.out.cell (World.block_lt_of_cell? w _ hx130_2)).trans hx130_2
              have HR130_1 := Aside0.mk hi130_1
              have HC130_1 := Aside0.mk hl130_1
              clear hi130_1 hl130_1
              have HR130_2 := Aside0.mk hi130_2
              have HC130_2 := Aside0.mk hl130_2
              clear hi130_2 hl130_2
              replace p130 := eq_true p130
              replace q130 := eq_true q130
              refine start_ (n := 31) (S := fun w' => w'.cell? ⟨gb128, 0, none⟩ = some (.string ((rd_T41 l0 x12_1).f0)) ∧ w'.cell? ⟨gb128, 1, none⟩ = some (.slice A127_1 ((rd_T41 l0 x12_1).f1).length c127_1) ∧ w'.cell? ⟨gb128, 2, none⟩ = some (.slice A127_2 ((rd_T41 l0 x12_1).f2).length c127_2) ∧ w'.cell? (ad127.add (((ji13)).toNat * 3)) = some (.string ((rd_T41 l0 (ji13)).f0)) ∧ w'.cell? ⟨(ad127.add (((ji13)).toNat * 3)).block, (ad127.add (((ji13)).toNat * 3)).off + 1, none⟩ = some (.slice A130_1 ((rd_T41 l0 (ji13)).f1).length c130_1) ∧ w'.cell? ⟨(ad127.add (((ji13)).toNat * 3)).block, (ad127.add (((ji13)).toNat * 3)).off + 2, none⟩ = some (.slice A130_2 ((rd_T41 l0 (ji13)).f2).length c130_2)) (ds := []) #[false, false, false, false, false, false, false, false, false, false, false, false, false, false, false, false, false, false, false, false, false, false, false, false, false, false, false, false, false, false, false] (by kernel_rfl) rfl rfl ⟨cz BK128 0 _, cz BK128 1 _, cz BK128 2 _, ((HB.out.cell (World.block_lt_of_cell? w _ hw130_0)).trans hw130_0), ((HB.out.cell (World.block_lt_of_cell? w _ hw130_1)).trans hw130_1), ((HB.out.cell (World.block_lt_of_cell? w _ hw130_2)).trans hw130_2)⟩ (fun hHeld => ?_); refine with_tabW spec_GoodAssets.tab6 spec_GoodAssets.bits6 (fun HT_ HW_ => ?_)
              generalize w9.drew = w20 at BK128 HB HR130_1 HR130_2 hx130_0 hx130_1 hx130_2 hHeld ⊢
              refine pureA 0 17 (bz 31 1) rfl rfl (any_of HT_.out (by kernel_rfl)) ?_
              refine takeA 1 18 (bz 31 3) rfl rfl (take_ofW HT_.out HW_.out (by kernel_rfl)) hHeld (by rintro w' ⟨s0, s1, s2, s3, s4, s5⟩; go_simp; with_reducible rfl) ?_
              refine one_ (i := 2) (N := some 19) (bz 31 7) rfl rfl (one_of HT_.out (by kernel_rfl)) (by decide) (fun K hK => ?_)
              refine goes_ Try.func25 (by kernel_rfl) rfl #[.string ((rd_T41 l0 x12_1).f0)] (by rfl) rfl rfl aE ?_
              with_reducible refine (spec_GoodName.calls k1 ((rd_T41 l0 x12_1).f0) true _ A10.out).mono ?_
              rintro e w' ⟨rfl, ⟨nd, rfl⟩⟩
              refine ⟨_, rfl, ?_⟩
              refine hK.out _ _ ⟨cz BK128 0 _, cz BK128 1 _, cz BK128 2 _, ((HB.out.cell (World.block_lt_of_cell? w _ hw130_0)).trans hw130_0), ((HB.out.cell (World.block_lt_of_cell? w _ hw130_1)).trans hw130_1), ((HB.out.cell (World.block_lt_of_cell? w _ hw130_2)).trans hw130_2)⟩ (fun hHeld => ?_)
              clear hK K
              refine norm_ (a' := ?_) ?_ ?_
              rotate_left
              ·show Act.put _ (some 19) _ = _
               simp only [Act.put, List.setIfInBounds_toArray, List.set_cons_zero, List.set_cons_succ, i64_w, i32_w]
               rfl
              refine pureA 3 20 (bz 31 15) rfl rfl (any_of HT_.out (by kernel_rfl)) ?_
              refine pureA 4 21 (bz 31 31) rfl rfl (any_of HT_.out (by kernel_rfl)) ?_
              refine pureA 5 22 (bz 31 63) rfl rfl (any_of HT_.out (by kernel_rfl)) ?_
              refine pureA 6 23 (bz 31 127) rfl rfl (any_of HT_.out (by kernel_rfl)) ?_
              refine pureA 7 24 (bz 31 255) rfl rfl (any_of HT_.out (by kernel_rfl)) ?_
              refine pureA 8 25 (bz 31 511) rfl rfl (any_of HT_.out (by kernel_rfl)) ?_
              refine pureA 9 26 (bz 31 1023) rfl rfl (any_of HT_.out (by kernel_rfl)) ?_
              refine pureA 10 27 (bz 31 2047) rfl rfl (any_of HT_.out (by kernel_rfl)) ?_
              refine pureA 11 28 (bz 31 4095) rfl rfl (any_of HT_.out (by kernel_rfl)) ?_
              refine pureA 12 29 (bz 31 8191) rfl rfl (any_of HT_.out (by kernel_rfl)) ?_
              refine pureA 14 31 (bz 31 24575) rfl rfl (any_of HT_.out (by kernel_rfl)) ?_
              refine takeA 13 30 (bz 31 32767) rfl rfl (take_ofW HT_.out HW_.out (by kernel_rfl)) hHeld (by rintro w' ⟨s0, s1, s2, s3, s4, s5⟩; go_simp; with_reducible rfl) ?_
              refine takeA 15 32 (bz 31 65535) rfl rfl (take_ofW HT_.out HW_.out (by kernel_rfl)) hHeld (by rintro w' ⟨s0, s1, s2, s3, s4, s5⟩; go_simp; with_reducible rfl) ?_
              refine pureA 16 33 (bz 31 131071) rfl rfl (any_of HT_.out (by kernel_rfl)) ?_
              refine pureA 17 34 (bz 31 262143) rfl rfl (any_of HT_.out (by kernel_rfl)) ?_
              refine pureA 18 35 (bz 31 524287) rfl rfl (any_of HT_.out (by kernel_rfl)) ?_
              refine pureA 19 36 (bz 31 1048575) rfl rfl (any_of HT_.out (by kernel_rfl)) ?_
              refine pureA 20 37 (bz 31 2097151) rfl rfl (any_of HT_.out (by kernel_rfl)) ?_
              refine takeA 21 38 (bz 31 4194303) rfl rfl (take_ofW HT_.out HW_.out (by kernel_rfl)) hHeld (by rintro w' ⟨s0, s1, s2, s3, s4, s5⟩; go_simp; with_reducible rfl) ?_
              refine one_ (i := 22) (N := some 39) (bz 31 8388607) rfl rfl (one_of HT_.out (by kernel_rfl)) (by decide) (fun K hK => ?_)
              refine goes_ Try.func26 (by kernel_rfl) rfl #[.slice A127_1 ((rd_T41 l0 x12_1).f1).length c127_1, .int .i64 10] (by rfl) rfl rfl aE ?_
              with_reducible refine (spec_l3Names.calls k1 _ _ ((rd_T41 l0 x12_1).f1) 10 false _ ?side1 ?side2 A17.out).mono ?_
              (case side1 => exact cU (Kd.C_below HR127_1.out (lV1 GE128)))
              (case side2 => exact HC127_1.out)
              rintro e w' ⟨rfl, ⟨nd, rfl⟩⟩
              refine ⟨_, rfl, ?_⟩
              refine hK.out _ _ ⟨cz BK128 0 _, cz BK128 1 _, cz BK128 2 _, ((HB.out.cell (World.block_lt_of_cell? w _ hw130_0)).trans hw130_0), ((HB.out.cell (World.block_lt_of_cell? w _ hw130_1)).trans hw130_1), ((HB.out.cell (World.block_lt_of_cell? w _ hw130_2)).trans hw130_2)⟩ (fun hHeld => ?_)
              clear hK K
              refine norm_ (a' := ?_) ?_ ?_
              rotate_left
              ·show Act.put _ (some 39) _ = _
               simp only [Act.put, List.setIfInBounds_toArray, List.set_cons_zero, List.set_cons_succ, i64_w, i32_w]
               rfl
              refine pureA 23 40 (bz 31 16777215) rfl rfl (any_of HT_.out (by kernel_rfl)) ?_
              refine pureA 24 41 (bz 31 33554431) rfl rfl (any_of HT_.out (by kernel_rfl)) ?_
              refine pureA 25 42 (bz 31 67108863) rfl rfl (any_of HT_.out (by kernel_rfl)) ?_
              refine pureU 26 43 (bz 31 134217727) rfl rfl (any_of HT_.out (by kernel_rfl)) ?_
              refine pureU 27 44 (bz 31 268435455) rfl rfl (any_of HT_.out (by kernel_rfl)) ?_
              refine pureU 28 45 (bz 31 536870911) rfl rfl (any_of HT_.out (by kernel_rfl)) ?_
              refine pureU 29 46 (bz 31 1073741823) rfl rfl (any_of HT_.out (by kernel_rfl)) ?_
              refine pureA 30 47 (bz 31 2147483647) rfl rfl (any_of HT_.out (by kernel_rfl)) ?_
              refine done_ (done_of HT_.out (by kernel_rfl)) ?_
              try go_wp2
              go_meet
              case rel => exact ⟨_, (true), tE, H', ⟨by have := HK1.out; first | omega | exact Nat.le_refl _⟩, ⟨by refine bU ?_; exact BK128.out⟩, ⟨by repeat (first | (with_reducible first | exact HB.out | apply below_alloc | apply pw_below_drewN | apply below_drew1 | refine below_set ?_ GE128.out) | exact HB.out)⟩⟩
            ·rw [if_neg c16] at H
             have c16b0 : (Op.bytesLess (((rd_T41 l0 (ji13)).f0).toList) (((rd_T41 l0 x12_1).f0).toList)) = false := by simpa using c16
             clear c16
             have H' := Aside0.mk H
             clear H
             try go_wp2
             replace BK128 := Aside0.mk (blk_drew BK128.out)
             replace HB := Aside0.mk (below_drew1 HB.out)
             have p130 : 0 ≤ ((ji13) : Int) := of_decide_eq_true hE
             have q130 : (ji13) < (l0.length : Int) := of_decide_eq_true hE
             obtain ⟨ad130, A130_1, c130_1, A130_2, c130_2, e130, hx130_0, hx130_1, hx130_2, hl130_1, hi130_1, hl130_2, hi130_2⟩ := at_T41 HR0.out (ji13) p130 q130
             have hw130_2 := hx130_2
             have hw130_1 := hx130_1
             have hw130_0 := hx130_0
             obtain rfl : ad127 = ad130 := (by injection e130)
             replace hx130_0 := (HB.out.cell (World.block_lt_of_cell? w _ hx130_0)).trans hx130_0
             replace hx130_1 := (HB.out.cell (World.block_lt_of_cell? w _ hx130_1)).trans hx130_1
             replace hx130_2 := (HB.out.cell (World.block_lt_of_cell? w _ hx130_2)).trans hx130_2
             have HR130_1 := Aside0.mk hi130_1
             have HC130_1 := Aside0.mk hl130_1
             clear hi130_1 hl130_1
             have HR130_2 := Aside0.mk hi130_2
             have HC130_2 := Aside0.mk hl130_2
             clear hi130_2 hl130_2
             replace p130 := eq_true p130
             replace q130 := eq_true q130
             refine start_ (n := 31) (S := fun w' => w'.cell? ⟨gb128, 0, none⟩ = some (.string ((rd_T41 l0 x12_1).f0)) ∧ w'.cell? ⟨gb128, 1, none⟩ = some (.slice A127_1 ((rd_T41 l0 x12_1).f1).length c127_1) ∧ w'.cell? ⟨gb128, 2, none⟩ = some (.slice A127_2 ((rd_T41 l0 x12_1).f2).length c127_2) ∧ w'.cell? (ad127.add (((ji13)).toNat * 3)) = some (.string ((rd_T41 l0 (ji13)).f0)) ∧ w'.cell? ⟨(ad127.add (((ji13)).toNat * 3)).block, (ad127.add (((ji13)).toNat * 3)).off + 1, none⟩ = some (.slice A130_1 ((rd_T41 l0 (ji13)).f1).length c130_1) ∧ w'.cell? ⟨(ad127.add (((ji13)).toNat * 3)).block, (ad127.add (((ji13)).toNat * 3)).off + 2, none⟩ = some (.slice A130_2 ((rd_T41 l0 (ji13)).f2).length c130_2)) (ds := []) #[false, false, false, false, false, false, false, false, false, false, false, false, false, false, false, false, false, false, false, false, false, false, false, false, false, false, false, false, false, false, false] (by kernel_rfl) rfl rfl ⟨cz BK128 0 _, cz BK128 1 _, cz BK128 2 _, ((HB.out.cell (World.block_lt_of_cell? w _ hw130_0)).trans hw130_0), ((HB.out.cell (World.block_lt_of_cell? w _ hw130_1)).trans hw130_1), ((HB.out.cell (World.block_lt_of_cell? w _ hw130_2)).trans hw130_2)⟩ (fun hHeld => ?_); refine with_tabW spec_GoodAssets.tab6 spec_GoodAssets.bits6 (fun HT_ HW_ => ?_)
             generalize w9.drew = w21 at BK128 HB HR130_1 HR130_2 hx130_0 hx130_1 hx130_2 hHeld ⊢
             refine pureA 0 17 (bz 31 1) rfl rfl (any_of HT_.out (by kernel_rfl)) ?_
             refine takeA 1 18 (bz 31 3) rfl rfl (take_ofW HT_.out HW_.out (by kernel_rfl)) hHeld (by rintro w' ⟨s0, s1, s2, s3, s4, s5⟩; go_simp; with_reducible rfl) ?_
             refine one_ (i := 2) (N := some 19) (bz 31 7) rfl rfl (one_of HT_.out (by kernel_rfl)) (by decide) (fun K hK => ?_)
             refine goes_ Try.func25 (by kernel_rfl) rfl #[.string ((rd_T41 l0 x12_1).f0)] (by rfl) rfl rfl aE ?_
             with_reducible refine (spec_GoodName.calls k1 ((rd_T41 l0 x12_1).f0) true _ A10.out).mono ?_
             rintro e w' ⟨rfl, ⟨nd, rfl⟩⟩
             refine ⟨_, rfl, ?_⟩
             refine hK.out _ _ ⟨cz BK128 0 _, cz BK128 1 _, cz BK128 2 _, ((HB.out.cell (World.block_lt_of_cell? w _ hw130_0)).trans hw130_0), ((HB.out.cell (World.block_lt_of_cell? w _ hw130_1)).trans hw130_1), ((HB.out.cell (World.block_lt_of_cell? w _ hw130_2)).trans hw130_2)⟩ (fun hHeld => ?_)
             clear hK K
             refine norm_ (a' := ?_) ?_ ?_
             rotate_left
             ·show Act.put _ (some 19) _ = _
              simp only [Act.put, List.setIfInBounds_toArray, List.set_cons_zero, List.set_cons_succ, i64_w, i32_w]
              rfl
             refine pureA 3 20 (bz 31 15) rfl rfl (any_of HT_.out (by kernel_rfl)) ?_
             refine pureA 4 21 (bz 31 31) rfl rfl (any_of HT_.out (by kernel_rfl)) ?_
             refine pureA 5 22 (bz 31 63) rfl rfl (any_of HT_.out (by kernel_rfl)) ?_
             refine pureA 6 23 (bz 31 127) rfl rfl (any_of HT_.out (by kernel_rfl)) ?_
             refine pureA 7 24 (bz 31 255) rfl rfl (any_of HT_.out (by kernel_rfl)) ?_
             refine pureA 8 25 (bz 31 511) rfl rfl (any_of HT_.out (by kernel_rfl)) ?_
             refine pureA 9 26 (bz 31 1023) rfl rfl (any_of HT_.out (by kernel_rfl)) ?_
             refine pureA 10 27 (bz 31 2047) rfl rfl (any_of HT_.out (by kernel_rfl)) ?_
             refine pureA 11 28 (bz 31 4095) rfl rfl (any_of HT_.out (by kernel_rfl)) ?_
             refine pureA 12 29 (bz 31 8191) rfl rfl (any_of HT_.out (by kernel_rfl)) ?_
             refine pureA 14 31 (bz 31 24575) rfl rfl (any_of HT_.out (by kernel_rfl)) ?_
             refine takeA 13 30 (bz 31 32767) rfl rfl (take_ofW HT_.out HW_.out (by kernel_rfl)) hHeld (by rintro w' ⟨s0, s1, s2, s3, s4, s5⟩; go_simp; with_reducible rfl) ?_
             refine takeA 15 32 (bz 31 65535) rfl rfl (take_ofW HT_.out HW_.out (by kernel_rfl)) hHeld (by rintro w' ⟨s0, s1, s2, s3, s4, s5⟩; go_simp; with_reducible rfl) ?_
             refine pureA 16 33 (bz 31 131071) rfl rfl (any_of HT_.out (by kernel_rfl)) ?_
             refine pureA 17 34 (bz 31 262143) rfl rfl (any_of HT_.out (by kernel_rfl)) ?_
             refine pureA 18 35 (bz 31 524287) rfl rfl (any_of HT_.out (by kernel_rfl)) ?_
             refine pureA 19 36 (bz 31 1048575) rfl rfl (any_of HT_.out (by kernel_rfl)) ?_
             refine pureU 20 37 (bz 31 2097151) rfl rfl (any_of HT_.out (by kernel_rfl)) ?_
             refine pureU 21 38 (bz 31 4194303) rfl rfl (any_of HT_.out (by kernel_rfl)) ?_
             refine pureU 22 39 (bz 31 8388607) rfl rfl (any_of HT_.out (by kernel_rfl)) ?_
             refine pureU 23 40 (bz 31 16777215) rfl rfl (any_of HT_.out (by kernel_rfl)) ?_
             refine pureA 24 41 (bz 31 33554431) rfl rfl (any_of HT_.out (by kernel_rfl)) ?_
             refine pureA 25 42 (bz 31 67108863) rfl rfl (any_of HT_.out (by kernel_rfl)) ?_
             refine pureU 26 43 (bz 31 134217727) rfl rfl (any_of HT_.out (by kernel_rfl)) ?_
             refine pureU 27 44 (bz 31 268435455) rfl rfl (any_of HT_.out (by kernel_rfl)) ?_
             refine pureU 28 45 (bz 31 536870911) rfl rfl (any_of HT_.out (by kernel_rfl)) ?_
             refine pureU 29 46 (bz 31 1073741823) rfl rfl (any_of HT_.out (by kernel_rfl)) ?_
             refine pureA 30 47 (bz 31 2147483647) rfl rfl (any_of HT_.out (by kernel_rfl)) ?_
             refine done_ (done_of HT_.out (by kernel_rfl)) ?_
             try go_wp2
             go_meet
             case rel => exact ⟨_, (true), tE, H', ⟨by have := HK1.out; first | omega | exact Nat.le_refl _⟩, ⟨by refine bU ?_; exact BK128.out⟩, ⟨by repeat (first | (with_reducible first | exact HB.out | apply below_alloc | apply pw_below_drewN | apply below_drew1 | refine below_set ?_ GE128.out) | exact HB.out)⟩⟩
           ·rw [if_neg c15] at H
            exact absurd H (by simp)
          ·rw [if_neg c14] at H
           exact absurd H (by simp)
         ·rw [if_neg c12] at H
          have c12b0 : decide (0 < x12_1) = false := decide_eq_false c12
          clear c12
          (first | rw [c12b0] | (simp only [i64_w, i32_w]; rw [c12b0]) | (rw [c12b2]; simp only [Bool.not_false, Bool.not_true]) | skip)
          replace H := Option.bind_eq_some_iff.mp H
          obtain ⟨t132, A220, H⟩ := H
          replace H : (if t132 = true then (spec_GoodAssets.j1 k1 l0 l0 (l0.length : Int) x12_1 (decide ((((rd_T41 l0 x12_1).f2).length : Int) > 400)) ((rd_T41 l0 x12_1).f0) ((rd_T41 l0 x12_1).f1) ((rd_T41 l0 x12_1).f2)) else (spec_GoodAssets.j1 k1 l0 l0 (l0.length : Int) x12_1 true ((rd_T41 l0 x12_1).f0) ((rd_T41 l0 x12_1).f1) ((rd_T41 l0 x12_1).f2))) = some r := H
          have A22 := Aside0.mk A220
          clear A220
          by_cases c23 : t132 = true
          ·subst c23
           have H1 : (spec_GoodAssets.j1 k1 l0 l0 (l0.length : Int) x12_1 (decide ((((rd_T41 l0 x12_1).f2).length : Int) > 400)) ((rd_T41 l0 x12_1).f0) ((rd_T41 l0 x12_1).f1) ((rd_T41 l0 x12_1).f2)) = some r := by rw [if_pos rfl] at H; exact H
           clear H
           have H := H1
           clear H1
           have H' := Aside0.mk H
           clear H
           try go_wp2
           replace BK128 := Aside0.mk (blk_drew BK128.out)
           replace HB := Aside0.mk (below_drew1 HB.out)
           refine start_ (n := 31) (S := fun w' => w'.cell? ⟨gb128, 0, none⟩ = some (.string ((rd_T41 l0 x12_1).f0)) ∧ w'.cell? ⟨gb128, 1, none⟩ = some (.slice A127_1 ((rd_T41 l0 x12_1).f1).length c127_1) ∧ w'.cell? ⟨gb128, 2, none⟩ = some (.slice A127_2 ((rd_T41 l0 x12_1).f2).length c127_2)) (ds := []) #[false, false, false, false, false, false, false, false, false, false, false, false, false, false, false, false, false, false, false, false, false, false, false, false, false, false, false, false, false, false, false] (by kernel_rfl) rfl rfl ⟨cz BK128 0 _, cz BK128 1 _, cz BK128 2 _⟩ (fun hHeld => ?_); refine with_tabW spec_GoodAssets.tab6 spec_GoodAssets.bits6 (fun HT_ HW_ => ?_)
           generalize w9.drew = w24 at BK128 HB hHeld ⊢
           refine pureA 0 17 (bz 31 1) rfl rfl (any_of HT_.out (by kernel_rfl)) ?_
           refine takeA 1 18 (bz 31 3) rfl rfl (take_ofW HT_.out HW_.out (by kernel_rfl)) hHeld (by rintro w' ⟨s0, s1, s2⟩; go_simp; with_reducible rfl) ?_
           refine one_ (i := 2) (N := some 19) (bz 31 7) rfl rfl (one_of HT_.out (by kernel_rfl)) (by decide) (fun K hK => ?_)
           refine goes_ Try.func25 (by kernel_rfl) rfl #[.string ((rd_T41 l0 x12_1).f0)] (by rfl) rfl rfl aE ?_
           with_reducible refine (spec_GoodName.calls k1 ((rd_T41 l0 x12_1).f0) true _ A10.out).mono ?_
           rintro e w' ⟨rfl, ⟨nd, rfl⟩⟩
           refine ⟨_, rfl, ?_⟩
           refine hK.out _ _ ⟨cz BK128 0 _, cz BK128 1 _, cz BK128 2 _⟩ (fun hHeld => ?_)
           clear hK K
           refine norm_ (a' := ?_) ?_ ?_
           rotate_left
           ·show Act.put _ (some 19) _ = _
            simp only [Act.put, List.setIfInBounds_toArray, List.set_cons_zero, List.set_cons_succ, i64_w, i32_w]
            rfl
           refine pureA 3 20 (bz 31 15) rfl rfl (any_of HT_.out (by kernel_rfl)) ?_
           refine pureA 4 21 (bz 31 31) rfl rfl (any_of HT_.out (by kernel_rfl)) ?_
           refine pureA 5 22 (bz 31 63) rfl rfl (any_of HT_.out (by kernel_rfl)) ?_
           refine pureA 6 23 (bz 31 127) rfl rfl (any_of HT_.out (by kernel_rfl)) ?_
           refine pureA 7 24 (bz 31 255) rfl rfl (any_of HT_.out (by kernel_rfl)) ?_
           refine pureU 8 25 (bz 31 511) rfl rfl (any_of HT_.out (by kernel_rfl)) ?_
           refine pureU 9 26 (bz 31 1023) rfl rfl (any_of HT_.out (by kernel_rfl)) ?_
           refine pureU 10 27 (bz 31 2047) rfl rfl (any_of HT_.out (by kernel_rfl)) ?_
           refine pureU 11 28 (bz 31 4095) rfl rfl (any_of HT_.out (by kernel_rfl)) ?_
           refine pureU 12 29 (bz 31 8191) rfl rfl (any_of HT_.out (by kernel_rfl)) ?_
           refine pureU 13 30 (bz 31 16383) rfl rfl (any_of HT_.out (by kernel_rfl)) ?_
           refine pureU 14 31 (bz 31 32767) rfl rfl (any_of HT_.out (by kernel_rfl)) ?_
           refine pureU 15 32 (bz 31 65535) rfl rfl (any_of HT_.out (by kernel_rfl)) ?_
           refine pureU 16 33 (bz 31 131071) rfl rfl (any_of HT_.out (by kernel_rfl)) ?_
           refine pureA 17 34 (bz 31 262143) rfl rfl (any_of HT_.out (by kernel_rfl)) ?_
           refine pureA 18 35 (bz 31 524287) rfl rfl (any_of HT_.out (by kernel_rfl)) ?_
           refine pureA 19 36 (bz 31 1048575) rfl rfl (any_of HT_.out (by kernel_rfl)) ?_
           refine pureA 20 37 (bz 31 2097151) rfl rfl (any_of HT_.out (by kernel_rfl)) ?_
           refine takeA 21 38 (bz 31 4194303) rfl rfl (take_ofW HT_.out HW_.out (by kernel_rfl)) hHeld (by rintro w' ⟨s0, s1, s2⟩; go_simp; with_reducible rfl) ?_
           refine one_ (i := 22) (N := some 39) (bz 31 8388607) rfl rfl (one_of HT_.out (by kernel_rfl)) (by decide) (fun K hK => ?_)
           refine goes_ Try.func26 (by kernel_rfl) rfl #[.slice A127_1 ((rd_T41 l0 x12_1).f1).length c127_1, .int .i64 10] (by rfl) rfl rfl aE ?_
           with_reducible refine (spec_l3Names.calls k1 _ _ ((rd_T41 l0 x12_1).f1) 10 true _ ?side1 ?side2 A22.out).mono ?_
           (case side1 => exact cU (Kd.C_below HR127_1.out (lV1 GE128)))
           (case side2 => exact HC127_1.out)
           rintro e w' ⟨rfl, ⟨nd, rfl⟩⟩
           refine ⟨_, rfl, ?_⟩
           refine hK.out _ _ ⟨cz BK128 0 _, cz BK128 1 _, cz BK128 2 _⟩ (fun hHeld => ?_)
           clear hK K
           refine norm_ (a' := ?_) ?_ ?_
           rotate_left
           ·show Act.put _ (some 39) _ = _
            simp only [Act.put, List.setIfInBounds_toArray, List.set_cons_zero, List.set_cons_succ, i64_w, i32_w]
            rfl
           refine pureA 23 40 (bz 31 16777215) rfl rfl (any_of HT_.out (by kernel_rfl)) ?_
           refine pureA 24 41 (bz 31 33554431) rfl rfl (any_of HT_.out (by kernel_rfl)) ?_
           refine pureA 25 42 (bz 31 67108863) rfl rfl (any_of HT_.out (by kernel_rfl)) ?_
           refine pureA 26 43 (bz 31 134217727) rfl rfl (any_of HT_.out (by kernel_rfl)) ?_
           refine takeA 27 44 (bz 31 268435455) rfl rfl (take_ofW HT_.out HW_.out (by kernel_rfl)) hHeld (by rintro w' ⟨s0, s1, s2⟩; go_simp; with_reducible rfl) ?_
           refine pureA 28 45 (bz 31 536870911) rfl rfl (any_of HT_.out (by kernel_rfl)) ?_
           refine pureA 29 46 (bz 31 1073741823) rfl rfl (any_of HT_.out (by kernel_rfl)) ?_
           refine pureA 30 47 (bz 31 2147483647) rfl rfl (any_of HT_.out (by kernel_rfl)) ?_
           refine done_ (done_of HT_.out (by kernel_rfl)) ?_
           try go_wp2
           go_meet
           case rel => exact ⟨_, (decide ((((rd_T41 l0 x12_1).f2).length : Int) > 400)), tE, H', ⟨by have := HK1.out; first | omega | exact Nat.le_refl _⟩, ⟨by refine bU ?_; exact BK128.out⟩, ⟨by repeat (first | (with_reducible first | exact HB.out | apply below_alloc | apply pw_below_drewN | apply below_drew1 | refine below_set ?_ GE128.out) | exact HB.out)⟩⟩
          ·replace c23 := Bool.eq_false_iff.mpr c23
           subst c23
           have H1 : (spec_GoodAssets.j1 k1 l0 l0 (l0.length : Int) x12_1 true ((rd_T41 l0 x12_1).f0) ((rd_T41 l0 x12_1).f1) ((rd_T41 l0 x12_1).f2)) = some r := by rw [if_neg (show ¬ (false = true) by decide)] at H; exact H
           clear H
           have H := H1
           clear H1
           have H' := Aside0.mk H
           clear H
           try go_wp2
           replace BK128 := Aside0.mk (blk_drew BK128.out)
           replace HB := Aside0.mk (below_drew1 HB.out)
           refine start_ (n := 31) (S := fun w' => w'.cell? ⟨gb128, 0, none⟩ = some (.string ((rd_T41 l0 x12_1).f0)) ∧ w'.cell? ⟨gb128, 1, none⟩ = some (.slice A127_1 ((rd_T41 l0 x12_1).f1).length c127_1) ∧ w'.cell? ⟨gb128, 2, none⟩ = some (.slice A127_2 ((rd_T41 l0 x12_1).f2).length c127_2)) (ds := []) #[false, false, false, false, false, false, false, false, false, false, false, false, false, false, false, false, false, false, false, false, false, false, false, false, false, false, false, false, false, false, false] (by kernel_rfl) rfl rfl ⟨cz BK128 0 _, cz BK128 1 _, cz BK128 2 _⟩ (fun hHeld => ?_); refine with_tabW spec_GoodAssets.tab6 spec_GoodAssets.bits6 (fun HT_ HW_ => ?_)
           generalize w9.drew = w25 at BK128 HB hHeld ⊢
           refine pureA 0 17 (bz 31 1) rfl rfl (any_of HT_.out (by kernel_rfl)) ?_
           refine takeA 1 18 (bz 31 3) rfl rfl (take_ofW HT_.out HW_.out (by kernel_rfl)) hHeld (by rintro w' ⟨s0, s1, s2⟩; go_simp; with_reducible rfl) ?_
           refine one_ (i := 2) (N := some 19) (bz 31 7) rfl rfl (one_of HT_.out (by kernel_rfl)) (by decide) (fun K hK => ?_)
           refine goes_ Try.func25 (by kernel_rfl) rfl #[.string ((rd_T41 l0 x12_1).f0)] (by rfl) rfl rfl aE ?_
           with_reducible refine (spec_GoodName.calls k1 ((rd_T41 l0 x12_1).f0) true _ A10.out).mono ?_
           rintro e w' ⟨rfl, ⟨nd, rfl⟩⟩
           refine ⟨_, rfl, ?_⟩
           refine hK.out _ _ ⟨cz BK128 0 _, cz BK128 1 _, cz BK128 2 _⟩ (fun hHeld => ?_)
           clear hK K
           refine norm_ (a' := ?_) ?_ ?_
           rotate_left
           ·show Act.put _ (some 19) _ = _
            simp only [Act.put, List.setIfInBounds_toArray, List.set_cons_zero, List.set_cons_succ, i64_w, i32_w]
            rfl
           refine pureA 3 20 (bz 31 15) rfl rfl (any_of HT_.out (by kernel_rfl)) ?_
           refine pureA 4 21 (bz 31 31) rfl rfl (any_of HT_.out (by kernel_rfl)) ?_
           refine pureA 5 22 (bz 31 63) rfl rfl (any_of HT_.out (by kernel_rfl)) ?_
           refine pureA 6 23 (bz 31 127) rfl rfl (any_of HT_.out (by kernel_rfl)) ?_
           refine pureA 7 24 (bz 31 255) rfl rfl (any_of HT_.out (by kernel_rfl)) ?_
           refine pureU 8 25 (bz 31 511) rfl rfl (any_of HT_.out (by kernel_rfl)) ?_
           refine pureU 9 26 (bz 31 1023) rfl rfl (any_of HT_.out (by kernel_rfl)) ?_
           refine pureU 10 27 (bz 31 2047) rfl rfl (any_of HT_.out (by kernel_rfl)) ?_
           refine pureU 11 28 (bz 31 4095) rfl rfl (any_of HT_.out (by kernel_rfl)) ?_
           refine pureU 12 29 (bz 31 8191) rfl rfl (any_of HT_.out (by kernel_rfl)) ?_
           refine pureU 13 30 (bz 31 16383) rfl rfl (any_of HT_.out (by kernel_rfl)) ?_
           refine pureU 14 31 (bz 31 32767) rfl rfl (any_of HT_.out (by kernel_rfl)) ?_
           refine pureU 15 32 (bz 31 65535) rfl rfl (any_of HT_.out (by kernel_rfl)) ?_
           refine pureU 16 33 (bz 31 131071) rfl rfl (any_of HT_.out (by kernel_rfl)) ?_
           refine pureA 17 34 (bz 31 262143) rfl rfl (any_of HT_.out (by kernel_rfl)) ?_
           refine pureA 18 35 (bz 31 524287) rfl rfl (any_of HT_.out (by kernel_rfl)) ?_
           refine pureA 19 36 (bz 31 1048575) rfl rfl (any_of HT_.out (by kernel_rfl)) ?_
           refine pureA 20 37 (bz 31 2097151) rfl rfl (any_of HT_.out (by kernel_rfl)) ?_
           refine takeA 21 38 (bz 31 4194303) rfl rfl (take_ofW HT_.out HW_.out (by kernel_rfl)) hHeld (by rintro w' ⟨s0, s1, s2⟩; go_simp; with_reducible rfl) ?_
           refine one_ (i := 22) (N := some 39) (bz 31 8388607) rfl rfl (one_of HT_.out (by kernel_rfl)) (by decide) (fun K hK => ?_)
           refine goes_ Try.func26 (by kernel_rfl) rfl #[.slice A127_1 ((rd_T41 l0 x12_1).f1).length c127_1, .int .i64 10] (by rfl) rfl rfl aE ?_
           with_reducible refine (spec_l3Names.calls k1 _ _ ((rd_T41 l0 x12_1).f1) 10 false _ ?side1 ?side2 A22.out).mono ?_
           (case side1 => exact cU (Kd.C_below HR127_1.out (lV1 GE128)))
           (case side2 => exact HC127_1.out)
           rintro e w' ⟨rfl, ⟨nd, rfl⟩⟩
           refine ⟨_, rfl, ?_⟩
           refine hK.out _ _ ⟨cz BK128 0 _, cz BK128 1 _, cz BK128 2 _⟩ (fun hHeld => ?_)
           clear hK K
           refine norm_ (a' := ?_) ?_ ?_
           rotate_left
           ·show Act.put _ (some 39) _ = _
            simp only [Act.put, List.setIfInBounds_toArray, List.set_cons_zero, List.set_cons_succ, i64_w, i32_w]
            rfl
           refine pureA 23 40 (bz 31 16777215) rfl rfl (any_of HT_.out (by kernel_rfl)) ?_
           refine pureA 24 41 (bz 31 33554431) rfl rfl (any_of HT_.out (by kernel_rfl)) ?_
           refine pureA 25 42 (bz 31 67108863) rfl rfl (any_of HT_.out (by kernel_rfl)) ?_
           refine pureU 26 43 (bz 31 134217727) rfl rfl (any_of HT_.out (by kernel_rfl)) ?_
           refine pureU 27 44 (bz 31 268435455) rfl rfl (any_of HT_.out (by kernel_rfl)) ?_
           refine pureU 28 45 (bz 31 536870911) rfl rfl (any_of HT_.out (by kernel_rfl)) ?_
           refine pureU 29 46 (bz 31 1073741823) rfl rfl (any_of HT_.out (by kernel_rfl)) ?_
           refine pureA 30 47 (bz 31 2147483647) rfl rfl (any_of HT_.out (by kernel_rfl)) ?_
           refine done_ (done_of HT_.out (by kernel_rfl)) ?_
           try go_wp2
           go_meet
           case rel => exact ⟨_, (true), tE, H', ⟨by have := HK1.out; first | omega | exact Nat.le_refl _⟩, ⟨by refine bU ?_; exact BK128.out⟩, ⟨by repeat (first | (with_reducible first | exact HB.out | apply below_alloc | apply pw_below_drewN | apply below_drew1 | refine below_set ?_ GE128.out) | exact HB.out)⟩⟩
        ·replace c11 := Bool.eq_false_iff.mpr c11
         subst c11
         have H1 : (spec_GoodAssets.j1 k1 l0 l0 (l0.length : Int) x12_1 true ((rd_T41 l0 x12_1).f0) ((rd_T41 l0 x12_1).f1) ((rd_T41 l0 x12_1).f2)) = some r := by rw [if_neg (show ¬ (false = true) by decide)] at H; exact H
         clear H
         have H := H1
         clear H1
         have H' := Aside0.mk H
         clear H
         try go_wp2
         replace BK128 := Aside0.mk (blk_drew BK128.out)
         replace HB := Aside0.mk (below_drew1 HB.out)
         refine start_ (n := 31) (S := fun w' => w'.cell? ⟨gb128, 0, none⟩ = some (.string ((rd_T41 l0 x12_1).f0)) ∧ w'.cell? ⟨gb128, 1, none⟩ = some (.slice A127_1 ((rd_T41 l0 x12_1).f1).length c127_1) ∧ w'.cell? ⟨gb128, 2, none⟩ = some (.slice A127_2 ((rd_T41 l0 x12_1).f2).length c127_2)) (ds := []) #[false, false, false, false, false, false, false, false, false, false, false, false, false, false, false, false, false, false, false, false, false, false, false, false, false, false, false, false, false, false, false] (by kernel_rfl) rfl rfl ⟨cz BK128 0 _, cz BK128 1 _, cz BK128 2 _⟩ (fun hHeld => ?_); refine with_tabW spec_GoodAssets.tab6 spec_GoodAssets.bits6 (fun HT_ HW_ => ?_)
         generalize w9.drew = w26 at BK128 HB hHeld ⊢
         refine pureA 0 17 (bz 31 1) rfl rfl (any_of HT_.out (by kernel_rfl)) ?_
         refine takeA 1 18 (bz 31 3) rfl rfl (take_ofW HT_.out HW_.out (by kernel_rfl)) hHeld (by rintro w' ⟨s0, s1, s2⟩; go_simp; with_reducible rfl) ?_
         refine one_ (i := 2) (N := some 19) (bz 31 7) rfl rfl (one_of HT_.out (by kernel_rfl)) (by decide) (fun K hK => ?_)
         refine goes_ Try.func25 (by kernel_rfl) rfl #[.string ((rd_T41 l0 x12_1).f0)] (by rfl) rfl rfl aE ?_
         with_reducible refine (spec_GoodName.calls k1 ((rd_T41 l0 x12_1).f0) false _ A10.out).mono ?_
         rintro e w' ⟨rfl, ⟨nd, rfl⟩⟩
         refine ⟨_, rfl, ?_⟩
         refine hK.out _ _ ⟨cz BK128 0 _, cz BK128 1 _, cz BK128 2 _⟩ (fun hHeld => ?_)
         clear hK K
         refine norm_ (a' := ?_) ?_ ?_
         rotate_left
         ·show Act.put _ (some 19) _ = _
          simp only [Act.put, List.setIfInBounds_toArray, List.set_cons_zero, List.set_cons_succ, i64_w, i32_w]
          rfl
         refine pureA 3 20 (bz 31 15) rfl rfl (any_of HT_.out (by kernel_rfl)) ?_
         refine pureA 4 21 (bz 31 31) rfl rfl (any_of HT_.out (by kernel_rfl)) ?_
         refine pureU 5 22 (bz 31 63) rfl rfl (any_of HT_.out (by kernel_rfl)) ?_
         refine pureU 6 23 (bz 31 127) rfl rfl (any_of HT_.out (by kernel_rfl)) ?_
         refine pureU 7 24 (bz 31 255) rfl rfl (any_of HT_.out (by kernel_rfl)) ?_
         refine pureU 8 25 (bz 31 511) rfl rfl (any_of HT_.out (by kernel_rfl)) ?_
         refine pureU 9 26 (bz 31 1023) rfl rfl (any_of HT_.out (by kernel_rfl)) ?_
         refine pureU 10 27 (bz 31 2047) rfl rfl (any_of HT_.out (by kernel_rfl)) ?_
         refine pureU 11 28 (bz 31 4095) rfl rfl (any_of HT_.out (by kernel_rfl)) ?_
         refine pureU 12 29 (bz 31 8191) rfl rfl (any_of HT_.out (by kernel_rfl)) ?_
         refine pureU 13 30 (bz 31 16383) rfl rfl (any_of HT_.out (by kernel_rfl)) ?_
         refine pureU 14 31 (bz 31 32767) rfl rfl (any_of HT_.out (by kernel_rfl)) ?_
         refine pureU 15 32 (bz 31 65535) rfl rfl (any_of HT_.out (by kernel_rfl)) ?_
         refine pureU 16 33 (bz 31 131071) rfl rfl (any_of HT_.out (by kernel_rfl)) ?_
         refine pureU 17 34 (bz 31 262143) rfl rfl (any_of HT_.out (by kernel_rfl)) ?_
         refine pureA 18 35 (bz 31 524287) rfl rfl (any_of HT_.out (by kernel_rfl)) ?_
         refine pureA 19 36 (bz 31 1048575) rfl rfl (any_of HT_.out (by kernel_rfl)) ?_
         refine pureU 20 37 (bz 31 2097151) rfl rfl (any_of HT_.out (by kernel_rfl)) ?_
         refine pureU 21 38 (bz 31 4194303) rfl rfl (any_of HT_.out (by kernel_rfl)) ?_
         refine pureU 22 39 (bz 31 8388607) rfl rfl (any_of HT_.out (by kernel_rfl)) ?_
         refine pureU 23 40 (bz 31 16777215) rfl rfl (any_of HT_.out (by kernel_rfl)) ?_
         refine pureA 24 41 (bz 31 33554431) rfl rfl (any_of HT_.out (by kernel_rfl)) ?_
         refine pureA 25 42 (bz 31 67108863) rfl rfl (any_of HT_.out (by kernel_rfl)) ?_
         refine pureU 26 43 (bz 31 134217727) rfl rfl (any_of HT_.out (by kernel_rfl)) ?_
         refine pureU 27 44 (bz 31 268435455) rfl rfl (any_of HT_.out (by kernel_rfl)) ?_
         refine pureU 28 45 (bz 31 536870911) rfl rfl (any_of HT_.out (by kernel_rfl)) ?_
         refine pureU 29 46 (bz 31 1073741823) rfl rfl (any_of HT_.out (by kernel_rfl)) ?_
         refine pureA 30 47 (bz 31 2147483647) rfl rfl (any_of HT_.out (by kernel_rfl)) ?_
         refine done_ (done_of HT_.out (by kernel_rfl)) ?_
         try go_wp2
         go_meet
         case rel => exact ⟨_, (true), tE, H', ⟨by have := HK1.out; first | omega | exact Nat.le_refl _⟩, ⟨by refine bU ?_; exact BK128.out⟩, ⟨by repeat (first | (with_reducible first | exact HB.out | apply below_alloc | apply pw_below_drewN | apply below_drew1 | refine below_set ?_ GE128.out) | exact HB.out)⟩⟩
       case rest =>
        clear HC6
        try clear c1
        try clear c2
        try clear p2
        try clear c11
        try clear c12
        try clear c23
        try clear c25
        try clear c26
        obtain ⟨kq, x47_5, rfl, HA, HJ5, BK128, HB⟩ := hcut
        cases kq with
        | zero => exact absurd HA.out (by simp [spec_GoodAssets.j1])
        | succ kj5 =>
         have H := HA.out
         clear HA
         simp only [spec_GoodAssets.j1] at H
         by_cases c27 : x47_5 = true
         ·subst c27
          have H1 : (some false) = some r := by rw [if_pos rfl] at H; exact H
          clear H
          have H := H1
          clear H1
          obtain rfl := Option.some.inj H
          go_wp2
          go_ret
          exact ⟨eE, lV1 GE128⟩
         ·replace c27 := Bool.eq_false_iff.mpr c27
          subst c27
          have H1 : (spec_GoodAssets.l1 kj5 l0 l0 (l0.length : Int) x12_1 ((rd_T41 l0 x12_1).f1) (((rd_T41 l0 x12_1).f1).length : Int) 0) = some r := by rw [if_neg (show ¬ (false = true) by decide)] at H; exact H
          clear H
          have H := H1
          clear H1
          have H' := Aside0.mk H
          clear H
          have hcz28_0 := cz BK128 0 (.string ((rd_T41 l0 x12_1).f0))
          have hcz28_1 := cz BK128 1 (.slice A127_1 ((rd_T41 l0 x12_1).f1).length c127_1)
          have hcz28_2 := cz BK128 2 (.slice A127_2 ((rd_T41 l0 x12_1).f2).length c127_2)
          have hfz28_0 := fz BK128 0
          have hfz28_1 := fz BK128 1
          have hfz28_2 := fz BK128 2
          go_wp2
          go_loopg [51] kj5 (fun kq v51 w' => ∃ (x51_3 : Int), v51 = .int .i64 x51_3 ∧ Aside0 (spec_GoodAssets.l1 kq l0 l0 (l0.length : Int) x12_1 ((rd_T41 l0 x12_1).f1) (((rd_T41 l0 x12_1).f1).length : Int) x51_3 = some r) ∧ Aside0 (kq ≤ kj5) ∧ Aside0 (w'.heap[gb128]? = some (.cells #[.string ((rd_T41 l0 x12_1).f0), (.slice A127_1 ((rd_T41 l0 x12_1).f1).length c127_1), (.slice A127_2 ((rd_T41 l0 x12_1).f2).length c127_2)] 41 (0, 0))) ∧ Aside0 (Below w.heap.size w w'))
          case atStart => exact ⟨(0), tE, H', ⟨Nat.le_refl _⟩, ⟨by refine bU ?_; exact BK128.out⟩, ⟨by repeat (first | (with_reducible first | exact HB.out | apply below_alloc | apply pw_below_drewN | apply below_drew1 | refine below_set ?_ GE128.out) | exact HB.out)⟩⟩
          case round =>
           clear H'
           try clear c1
           try clear c2
           try clear p2
           try clear c11
           try clear c12
           try clear c23
           try clear c25
           try clear c26
           try clear c27
           try clear hcz28_0
           try clear hcz28_1
           try clear hcz28_2
           try clear hfz28_0
           try clear hfz28_1
           try clear hfz28_2
           try clear p2
           obtain ⟨x51_3, rfl, HA, HK3, BK128, HB⟩ := hrel
           cases gk with
           | zero => exact absurd HA.out (by simp [spec_GoodAssets.l1])
           | succ k3 =>
            have H := HA.out
            clear HA
            simp only [spec_GoodAssets.l1] at H
            by_cases c29 : x51_3 < (((rd_T41 l0 x12_1).f1).length : Int)
            ·rw [if_pos c29] at H
             have c29b0 : decide (x51_3 < (((rd_T41 l0 x12_1).f1).length : Int)) = true := decide_eq_true c29
             clear c29
             by_cases c30 : 0 ≤ x51_3
             ·rw [if_pos c30] at H
              have c30b0 : decide (0 ≤ x51_3) = true := decide_eq_true c30
              clear c30
              by_cases c31 : x51_3 < (((rd_T41 l0 x12_1).f1).length : Int)
              ·rw [if_pos c31] at H
               have c31b0 : decide (x51_3 < (((rd_T41 l0 x12_1).f1).length : Int)) = true := decide_eq_true c31
               clear c31
               replace H := Option.bind_eq_some_iff.mp H
               obtain ⟨t134, A320, H⟩ := H
               replace H : (if t134 < 0 then (some false) else (spec_GoodAssets.l1 k3 l0 l0 (l0.length : Int) x12_1 ((rd_T41 l0 x12_1).f1) (((rd_T41 l0 x12_1).f1).length : Int) (wrap64 (x51_3 + 1)))) = some r := H
               have A32 := Aside0.mk A320
               clear A320
               by_cases c33 : t134 < 0
               ·rw [if_pos c33] at H
                have c33b0 : decide (t134 < 0) = true := decide_eq_true c33
                clear c33
                obtain rfl := Option.some.inj H
                have p133 : 0 ≤ (x51_3 : Int) := of_decide_eq_true hE
                have q133 : x51_3 < (((rd_T41 l0 x12_1).f1).length : Int) := of_decide_eq_true hE
                obtain ⟨ad133, e133, hx133_0⟩ := Kd.at_string HR127_1.out x51_3 p133 q133
                cases e133
                replace hx133_0 := (HB.out.cell (World.block_lt_of_cell? w _ hx133_0)).trans hx133_0
                replace p133 := eq_true p133
                replace q133 := eq_true q133
                go_wp2_with (first | ((with_reducible refine gate_callee (f := 16) rfl ?_); refine goesL_ (some 57) rfl rfl Try.func16 (by kernel_rfl) rfl #[.slice (some ad127) l0.length c0, .string (rdOf ByteArray.empty ((rd_T41 l0 x12_1).f1) x51_3)] rfl aE ?_; (with_reducible refine (spec_l21At.calls k3 _ _ l0 (rdOf ByteArray.empty ((rd_T41 l0 x12_1).f1) x51_3) t134 _ ?side1 ?side2 A32.out).mono ?_); (case side1 => exact cU (Kd.C_below HR0.out HB.out)); (case side2 => exact HC0.out); rintro e w34 ⟨rfl, hb⟩; refine ⟨_, rfl, ?_⟩; replace BK128 := bB (bV BK128) hb; replace HB := bH (lV1 GE128) hb; (try clear hb)))
                go_ret
                exact ⟨eE, lV1 GE128⟩
               ·rw [if_neg c33] at H
                have c33b0 : decide (t134 < 0) = false := decide_eq_false c33
                clear c33
                have H' := Aside0.mk H
                clear H
                have p133 : 0 ≤ (x51_3 : Int) := of_decide_eq_true hE
                have q133 : x51_3 < (((rd_T41 l0 x12_1).f1).length : Int) := of_decide_eq_true hE
                obtain ⟨ad133, e133, hx133_0⟩ := Kd.at_string HR127_1.out x51_3 p133 q133
                cases e133
                replace hx133_0 := (HB.out.cell (World.block_lt_of_cell? w _ hx133_0)).trans hx133_0
                replace p133 := eq_true p133
                replace q133 := eq_true q133
                go_wp2_with (first | ((with_reducible refine gate_callee (f := 16) rfl ?_); refine goesL_ (some 57) rfl rfl Try.func16 (by kernel_rfl) rfl #[.slice (some ad127) l0.length c0, .string (rdOf ByteArray.empty ((rd_T41 l0 x12_1).f1) x51_3)] rfl aE ?_; (with_reducible refine (spec_l21At.calls k3 _ _ l0 (rdOf ByteArray.empty ((rd_T41 l0 x12_1).f1) x51_3) t134 _ ?side1 ?side2 A32.out).mono ?_); (case side1 => exact cU (Kd.C_below HR0.out HB.out)); (case side2 => exact HC0.out); rintro e w35 ⟨rfl, hb⟩; refine ⟨_, rfl, ?_⟩; replace BK128 := bB (bV BK128) hb; replace HB := bH (lV1 GE128) hb; (try clear hb)))
                go_roundg k3
                case measure => have := HK1.out; have := HJ5.out; have := HK3.out; omega
                case rel => exact ⟨(wrap64 (x51_3 + 1)), tE, H', ⟨by have := HK1.out; have := HJ5.out; have := HK3.out; omega⟩, ⟨by refine bU ?_; exact BK128.out⟩, ⟨by repeat (first | (with_reducible first | exact HB.out | apply below_alloc | apply pw_below_drewN | apply below_drew1 | refine below_set ?_ GE128.out) | exact HB.out)⟩⟩
              ·rw [if_neg c31] at H
               exact absurd H (by simp)
             ·rw [if_neg c30] at H
              exact absurd H (by simp)
            ·rw [if_neg c29] at H
             have c29b0 : decide (x51_3 < (((rd_T41 l0 x12_1).f1).length : Int)) = false := decide_eq_false c29
             clear c29
             have H' := Aside0.mk H
             clear H
             go_wp2
             go_roundg k3
             case measure => have := HK1.out; have := HJ5.out; have := HK3.out; omega
             case rel => exact ⟨(wrap64 (x12_1 + 1)), tE, H', ⟨by have := HK1.out; have := HJ5.out; have := HK3.out; omega⟩, ⟨by repeat (first | (with_reducible first | exact HB.out | apply below_alloc | apply pw_below_drewN | apply below_drew1 | refine below_set ?_ GE128.out) | exact HB.out)⟩⟩
      ·rw [if_neg c5] at H
       exact absurd H (by simp)
     ·rw [if_neg c4] at H
      exact absurd H (by simp)
    ·rw [if_neg c3] at H
     have c3b0 : decide (x12_1 < (l0.length : Int)) = false := decide_eq_false c3
     clear c3
     replace H := Option.bind_eq_some_iff.mp H
     obtain ⟨t124, A360, H⟩ := H
     replace H : (some ((t124.length : Int) == (l0.length : Int))) = some r := H
     have A36 := Aside0.mk A360
     clear A360
     obtain rfl := Option.some.inj H
     go_wp2_with (first | ((with_reducible refine gate_callee (f := 27) rfl ?_); refine goesL_ (some 62) rfl rfl Try.func27 (by kernel_rfl) rfl #[.slice A0 l0.length c0] rfl aE ?_; (with_reducible refine (spec_l21Order.calls k1 _ _ l0 t124 _ ?side1 ?side2 A36.out).mono ?_); (case side1 => exact cU (Kd.C_below HR0.out HB.out)); (case side2 => exact HC0.out); rintro e w37 ⟨v125, rfl, ho0, hb⟩; refine ⟨_, rfl, ?_⟩; have HO126 := Aside0.mk (Kd.R_lower ho0 (below_size (lU))); replace HB := bH (lU) hb; (try clear hb); (try clear ho0); obtain ⟨Ao38, co38, eo38⟩ := Kd.R_slice HO126.out; subst eo38))
     go_ret
     exact ⟨eE, lU⟩
end Go.Proofs.Ytehkpnnidbghhab.PFnExactStaleBetween
