/- Texts of a row. -/
import Derived.Test.YtnacjhgpanedoacZFnExactGoodEntries0
import Derived.Deep.RegionLaw
import Derived.Lib.SliceRun
import Derived.Laws.Externs
import Derived.Lib.Bytealg
import Derived.Laws.CopyOwn
import Derived.Lib.Overlaps
import Derived.Lib.AppendZerosOnto
import Derived.Laws.AppendOwn
import Derived.Shelf.Small.Utf8
import Derived.Shelf.Small.Strs
import Derived.Shelf.Strings.Search1
import Derived.Shelf.Strings.Runes
import Derived.Shelf.Strings.IndexAny
import Derived.Shelf.Strings.AsciiSet
import Derived.Shelf.Strings.IndexAnyAll
import Derived.Test.YtnacjhgpanedoacProg
import Derived.WalkMore
import Derived.Lib.OthersKept
import Derived.Deep.RegionWith
import Derived.Laws.RangeAny
import Derived.Laws.Runes
import Derived.Laws.RangeString
import Derived.Laws.Strings3
import Derived.Deep.LoopGhost
import Derived.Lib.IndexAny
import Derived.Lib.IndexBytes
import Derived.Test.YtnacjhgpanedoacZFnExactGoodEntries1
import Derived.Below
import Derived.Deep.Draws
import Derived.Deep.AppendLies
import Derived.Maps.AppendAt
import Derived.OwnWalk
import Derived.Laws.BytesArg
import Derived.Laws.MakeOwn
import Derived.Laws.OwnMore
import Derived.Deep.OwnRows
import Derived.Tactics
import Derived.Lib.ConvBytes
import Derived.Laws.Slices
import Derived.WalkKit
import Derived.KernelRfl
import Derived.RowKit3
import Derived.Deep.QuietTactic
import Derived.BigQuiet
import Derived.WideLaws
import Derived.Deep.DeepCutAuto
import Derived.Deep.CutBlock
import Derived.Deep.RegionHeld3
import Derived.Laws.Rows
import Derived.Lib.AppendStr
import Derived.ArgAppend
import Derived.Laws.IdiomCopy
import Derived.OrdersHeld
import Derived.Laws.BitsLemmas
import Derived.RowKit
import Derived.Laws.Cover1
import Derived.Test.YtnacjhgpanedoacZFnExactGoodEntries2
namespace Go.Proofs.YtnacjhgpanedoacW.PrintWords
open Go.RowKit
namespace Kd
section
variable {P : Program} {α : Type}
end
end Kd
end Go.Proofs.YtnacjhgpanedoacW.PrintWords
namespace Go.Proofs.YtnacjhgpanedoacW.PrintLast
open Go.RowKit Go.Proofs.YtnacjhgpanedoacW.PrintWords
def bz (n m : Nat) : Array Bool := ((List.range n).map fun i => m.testBit i).toArray
section
variable {P : Program} {ops : Array Oper} {Q : Exit → Act → World → Prop} {md : Region.Mode} {S : World → Prop} {ds : List Nat}
theorem pureA (i : Nat) (N : Tmp) {oi : Oper} {v : Value} {fuel : Nat} {l : Array Bool} {a : Act} {w : World} (l' : Array Bool) {a' : Act} (hi : ops[i]? = some oi) (hN : oi.dst = some N) (hc : anyB md ops l l' i = true) (h : wpAnyLast P md ops Q S ds fuel l' a' w)
    (hQ : ∀ c a w, Q (.panic c) (a.put oi.dst v) w → Q (.panic c) a w := by exact fun _ _ _ h => h) (hw : Region.wanted oi (yielded ops a.tmps) = true := by rfl)
    (hy : ∀ w, (execOp a.eval oi).run P w = .ok (.value v) w := by intro w'; go_simp; with_reducible rfl) (ha : a.put (some N) v = a' := by simp only [Act.put, List.setIfInBounds_toArray, List.set_cons_zero, List.set_cons_succ, i64_w, i32_w]; rfl) : wpAnyLast P md ops Q S ds (fuel + 1) l a w :=
  pure_ l' hi hN hc hQ (Or.inl ⟨hw, hy⟩) ha h
theorem takeA (i : Nat) (N : Tmp) {oi : Oper} {v : Value} {fuel : Nat} {l : Array Bool} {a : Act} {w : World} (l' : Array Bool) {a' : Act} (hi : ops[i]? = some oi) (hN : oi.dst = some N) (hc : takeB md ops ds l l' i = true) (hS : S w) (hy : ∀ w, S w → (execOp a.eval oi).run P w = .ok (.value v) w) (h : wpAnyLast P md ops Q S ds fuel l' a' w)
    (hQ : ∀ c a w, Q (.panic c) (a.put oi.dst v) w → Q (.panic c) a w := by exact fun _ _ _ h => h) (hw : Region.wanted oi (yielded ops a.tmps) = true := by rfl)
    (ha : a.put (some N) v = a' := by simp only [Act.put, List.setIfInBounds_toArray, List.set_cons_zero, List.set_cons_succ, i64_w, i32_w]; rfl) : wpAnyLast P md ops Q S ds (fuel + 1) l a w :=
  take_ l' hi hN hc hQ (Or.inl ⟨hw, hy⟩) hS ha h
end
end Go.Proofs.YtnacjhgpanedoacW.PrintLast
namespace Go.Proofs.YtnacjhgpanedoacW.PrintWords
open Go.RowKit
end Go.Proofs.YtnacjhgpanedoacW.PrintWords
namespace Go.Proofs.YtnacjhgpanedoacW.PrintWords
open Go.RowKit
section
variable {P : Program} {ops : Array Oper} {o : Oper} {a : Act} {Q : Exit → Act → World → Prop} {Kc : Act → World → Prop}
end
end Go.Proofs.YtnacjhgpanedoacW.PrintWords
namespace Go.Proofs.YtnacjhgpanedoacW.PrintWords
open Go.RowKit
namespace Kd
section
variable {α : Type} {d : Kd α} {e base : Nat} {ok : Nat → Prop} {W : World} {u : Value} {xs : List α} {PS : Nat → Prop} {L : List Nat}
end
end Kd
end Go.Proofs.YtnacjhgpanedoacW.PrintWords
namespace Go.Proofs.YtnacjhgpanedoacW.PrintWords
open Go.RowKit
end Go.Proofs.YtnacjhgpanedoacW.PrintWords
set_option linter.unusedSimpArgs false
set_option linter.unusedVariables false
namespace Go
end Go
namespace Go.Proofs.YtnacjhgpanedoacW.PrintWords
open Go.RowKit
namespace Kd
section
variable {P : Program} {α : Type}
def T (d : Kd α) (e : Nat) (W : World) (base : Nat) (ok : Nat → Prop) (g c : Nat) (pre : List α) : Prop :=
  ok g ∧ ∃ inner cur, base ≤ g ∧ W.heap[g]? = some (.cells cur e (0, 0)) ∧ cur.size = c * d.sz ∧ pre.length ≤ c ∧ c ≤ maxLen ∧ cur.toList.take (pre.length * d.sz) = inner ∧ Reps (d.M W base (fun k' => ok k' ∧ some k' ≠ some g)) d.sz pre inner
end
end Kd
end Go.Proofs.YtnacjhgpanedoacW.PrintWords
namespace Go.Proofs.YtnacjhgpanedoacW.PrintLast
section
variable {P : Program} {ops : Array Oper} {Q : Exit → Act → World → Prop} {md : Region.Mode} {S T : World → Prop} {ds : List Nat}
end
end Go.Proofs.YtnacjhgpanedoacW.PrintLast
namespace Go.Proofs
open Go.Shelf
def Try.lays119_ren : Go.Shelf.Ren := ⟨fun | 119 => 39 | n => n, fun | 21 => 21 | 4 => 4 | n => n, fun | n => n⟩
theorem Try.lays119 : Go.Proofs.Lays.n119 Try.prog Try.lays119_ren := {
  mixed := by kernel_rfl
  f119 := Try.func39.trans (congrArg some (by kernel_rfl))
  t4 := Try.underlying4
  a4 := Try.isAgg4
  z4 := Try.sizeOf4
  v4 := Try.zeroValue4
  t21 := Try.underlying21
  a21 := Try.isAgg21
  z21 := Try.sizeOf21
  v21 := Try.zeroValue21 }
theorem Try.utf8_ValidRune (r : Int) (w : World) :
    Calls Try.prog 39 #[.int .i32 r] w fun e w' => e = .returned (.bool (Lib.validRune r)) ∧ w' = w := Any.utf8_ValidRune Try.lays119 r w
def Try.lays137_ren : Go.Shelf.Ren := ⟨fun | 137 => 33 | 217 => 38 | 266 => 42 | n => n, fun | 9 => 9 | 5 => 5 | 3 => 3 | n => n, fun | n => n⟩
theorem Try.lays137 : Go.Proofs.Lays.n137 Try.prog Try.lays137_ren := {
  mixed := by kernel_rfl
  f137 := Try.func33.trans (congrArg some (by kernel_rfl))
  f217 := Try.func38.trans (congrArg some (by kernel_rfl))
  f266 := Try.func42.trans (congrArg some (by kernel_rfl))
  t3 := Try.underlying3
  a3 := Try.isAgg3
  z3 := Try.sizeOf3
  v3 := Try.zeroValue3
  t5 := Try.underlying5
  a5 := Try.isAgg5
  z5 := Try.sizeOf5
  v5 := Try.zeroValue5
  t9 := Try.underlying9
  a9 := Try.isAgg9
  z9 := Try.sizeOf9
  v9 := Try.zeroValue9 }
open Go.RowKit in
theorem Try.strings_IndexByte (s : ByteArray) (c : Int) (w : World) :
    Calls Try.prog 33 #[.string s, .int .u8 c] w fun e w' => e = .returned (.int .i64 (Lib.indexByte s.data.toList c.toNat.toUInt8)) ∧ w' = w := Any.strings_IndexByte Try.lays137 s c w
def Try.lays224_ren : Go.Shelf.Ren := ⟨fun | 224 => 40 | n => n, fun | 3 => 3 | n => n, fun | n => n⟩
theorem Try.lays224 : Go.Proofs.Lays.n224 Try.prog Try.lays224_ren := {
  mixed := by kernel_rfl
  f224 := Try.func40.trans (congrArg some (by kernel_rfl))
  t3 := Try.underlying3
  a3 := Try.isAgg3
  z3 := Try.sizeOf3
  v3 := Try.zeroValue3 }
open Go.RowKit Go.Lib in
theorem Try.bytealg_Cutover (n : Int) (h0 : 0 ≤ n) (h1 : n < 4611686018427387904) (w : World) :
    Calls Try.prog 40 #[.int .i64 n] w fun e w' => e = .returned (.int .i64 ((n + 16) / 8)) ∧ w' = w := Any.bytealg_Cutover Try.lays224 n h0 h1 w
def Try.lays152_ren : Go.Shelf.Ren := ⟨fun | 152 => 34 | 137 => 33 | 119 => 39 | 224 => 40 | 225 => 41 | 217 => 38 | 266 => 42 | n => n, fun | 9 => 9 | 21 => 21 | 3 => 3 | 4 => 4 | 5 => 5 | 0 => 0 | 46 => 64 | n => n, fun | n => n⟩
theorem Try.lays152 : Go.Proofs.Lays.n152 Try.prog Try.lays152_ren := {
  mixed := by kernel_rfl
  f119 := Try.func39.trans (congrArg some (by kernel_rfl))
  f137 := Try.func33.trans (congrArg some (by kernel_rfl))
  f152 := Try.func34.trans (congrArg some (by kernel_rfl))
  f217 := Try.func38.trans (congrArg some (by kernel_rfl))
  f224 := Try.func40.trans (congrArg some (by kernel_rfl))
  f225 := Try.func41.trans (congrArg some (by kernel_rfl))
  f266 := Try.func42.trans (congrArg some (by kernel_rfl))
  t0 := Try.underlying0
  a0 := Try.isAgg0
  z0 := Try.sizeOf0
  v0 := Try.zeroValue0
  t3 := Try.underlying3
  a3 := Try.isAgg3
  z3 := Try.sizeOf3
  v3 := Try.zeroValue3
  t4 := Try.underlying4
  a4 := Try.isAgg4
  z4 := Try.sizeOf4
  v4 := Try.zeroValue4
  t5 := Try.underlying5
  a5 := Try.isAgg5
  z5 := Try.sizeOf5
  v5 := Try.zeroValue5
  t9 := Try.underlying9
  a9 := Try.isAgg9
  z9 := Try.sizeOf9
  v9 := Try.zeroValue9
  t21 := Try.underlying21
  a21 := Try.isAgg21
  z21 := Try.sizeOf21
  v21 := Try.zeroValue21
  t46 := Try.underlying64
  a46 := Try.isAgg64
  z46 := Try.sizeOf64
  v46 := Try.zeroValue64 }
open Go.RowKit Go.Lib in
theorem Try.strings_IndexRune_ascii (s : ByteArray) (r : Int) (w : World) (h0 : 0 ≤ r) (h1 : r < 128) :
    Calls Try.prog 34 #[.string s, .int .i32 r] w fun e w' => e = .returned (.int .i64 (Lib.indexByte s.data.toList r.toNat.toUInt8)) ∧ w' = w := Any.strings_IndexRune_ascii Try.lays152 s r w h0 h1
def Try.lays226_ren : Go.Shelf.Ren := ⟨fun | 226 => 35 | n => n, fun | 3 => 3 | 4 => 4 | n => n, fun | n => n⟩
theorem Try.lays226 : Go.Proofs.Lays.n226 Try.prog Try.lays226_ren := {
  mixed := by kernel_rfl
  f226 := Try.func35.trans (congrArg some (by kernel_rfl))
  t3 := Try.underlying3
  a3 := Try.isAgg3
  z3 := Try.sizeOf3
  v3 := Try.zeroValue3
  t4 := Try.underlying4
  a4 := Try.isAgg4
  z4 := Try.sizeOf4
  v4 := Try.zeroValue4 }
open Go.RowKit Go.Lib in
theorem Try.strings_shouldUseASCIISet (n : Int) (w : World) :
    Calls Try.prog 35 #[.int .i64 n] w fun e w' => e = .returned (.bool (decide (8 < n))) ∧ w' = w := Any.strings_shouldUseASCIISet Try.lays226 n w
def Try.lays153_ren : Go.Shelf.Ren := ⟨fun | 153 => 32 | 152 => 34 | 226 => 35 | 227 => 36 | 228 => 37 | 137 => 33 | 119 => 39 | 224 => 40 | 225 => 41 | 217 => 38 | 266 => 42 | n => n, fun | 9 => 9 | 3 => 3 | 4 => 4 | 5 => 5 | 21 => 21 | 117 => 60 | 116 => 59 | 0 => 0 | 46 => 64 | 124 => 65 | n => n, fun | n => n⟩
theorem Try.lays153 : Go.Proofs.Lays.n153 Try.prog Try.lays153_ren := {
  mixed := by kernel_rfl
  f119 := Try.func39.trans (congrArg some (by kernel_rfl))
  f137 := Try.func33.trans (congrArg some (by kernel_rfl))
  f152 := Try.func34.trans (congrArg some (by kernel_rfl))
  f153 := Try.func32.trans (congrArg some (by kernel_rfl))
  f217 := Try.func38.trans (congrArg some (by kernel_rfl))
  f224 := Try.func40.trans (congrArg some (by kernel_rfl))
  f225 := Try.func41.trans (congrArg some (by kernel_rfl))
  f226 := Try.func35.trans (congrArg some (by kernel_rfl))
  f227 := Try.func36.trans (congrArg some (by kernel_rfl))
  f228 := Try.func37.trans (congrArg some (by kernel_rfl))
  f266 := Try.func42.trans (congrArg some (by kernel_rfl))
  t0 := Try.underlying0
  a0 := Try.isAgg0
  z0 := Try.sizeOf0
  v0 := Try.zeroValue0
  t3 := Try.underlying3
  a3 := Try.isAgg3
  z3 := Try.sizeOf3
  v3 := Try.zeroValue3
  t4 := Try.underlying4
  a4 := Try.isAgg4
  z4 := Try.sizeOf4
  v4 := Try.zeroValue4
  t5 := Try.underlying5
  a5 := Try.isAgg5
  z5 := Try.sizeOf5
  v5 := Try.zeroValue5
  t9 := Try.underlying9
  a9 := Try.isAgg9
  z9 := Try.sizeOf9
  v9 := Try.zeroValue9
  t21 := Try.underlying21
  a21 := Try.isAgg21
  z21 := Try.sizeOf21
  v21 := Try.zeroValue21
  t46 := Try.underlying64
  a46 := Try.isAgg64
  z46 := Try.sizeOf64
  v46 := Try.zeroValue64
  t116 := Try.underlying59
  a116 := Try.isAgg59
  z116 := Try.sizeOf59
  t117 := Try.underlying60
  a117 := Try.isAgg60
  z117 := Try.sizeOf60
  v117 := Try.zeroValue60
  t124 := Try.underlying65
  a124 := Try.isAgg65
  z124 := Try.sizeOf65
  v124 := Try.zeroValue65 }
open Go.RowKit Go.Lib in
theorem Try.strings_IndexAny_long (hv116 : ∀ w, (zeroValue 59).run Try.prog w = .ok (.agg (Array.replicate 256 (.bool false))) w) (s chars : ByteArray) (w : World) (h2 : 2 ≤ chars.size) (h8 : 8 < s.size) (hs : s.size < 4294967281) (hcs : chars.size < 4294967281) (hascii : ∀ (j : Nat) b, chars.data.toList[j]? = some b → b.toNat < 128) :
    Calls Try.prog 32 #[.string s, .string chars] w fun e w' => e = .returned (.int .i64 (Lib.indexAny s.data.toList chars.data.toList)) ∧ w' = ((w.alloc (.cells (Lib.setCells chars.data.toList) 59)).alloc (.cells (Lib.setCells chars.data.toList) 59)) := Any.strings_IndexAny_long Try.lays153 hv116 (by kernel_rfl) s chars w h2 h8 hs hcs hascii
open Go.RowKit Go.Lib in
theorem Try.strings_IndexAny (hv116 : ∀ w, (zeroValue 59).run Try.prog w = .ok (.agg (Array.replicate 256 (.bool false))) w) (s chars : ByteArray) (w : World) (hs : s.size < 4294967281) (hcs : chars.size < 4294967281) (has : ∀ (j : Nat) b, s.data.toList[j]? = some b → b.toNat < 128) (hac : ∀ (j : Nat) b, chars.data.toList[j]? = some b → b.toNat < 128) :
    Calls Try.prog 32 #[.string s, .string chars] w fun e w' => e = .returned (.int .i64 (Lib.indexAny s.data.toList chars.data.toList)) ∧ Below w.heap.size w w' := Any.strings_IndexAny Try.lays153 hv116 (by kernel_rfl) s chars w hs hcs has hac
end Go.Proofs
namespace Go.Proofs
open Go.Shelf Go.RowKit Go.Lib
def braces : ByteArray := ⟨#[123, 125]⟩
set_option maxHeartbeats 4000000 in
set_option maxRecDepth 1000000 in
theorem Try.IndexRune_high (r : Int) (h : 128 ≤ r) (h1 : r ≤ 2147483647) (w : World) :
    Calls Try.prog 34 #[.string braces, .int .i32 r] w fun e w' => e = .returned (.int .i64 (-1)) ∧ Below w.heap.size w w' := by
  have hz1 : (0 : Int) ≤ r := by omega
  have hz2 : ¬ (r < (128 : Int)) := by omega
  by_cases hE : r = 65533
  · subst hE
    go_enter Try.func34, Try.ntmps34
    go_wp2
    go_loopg [5, 6] 2 (fun g _ _ wx => ∃ i : Nat, i + g = 2 ∧ wx = w.iter braces i)
    case atStart => exact ⟨0, by omega, rfl⟩
    case round =>
      obtain ⟨i, hig, rfl⟩ := hrel
      cases gk with
      | zero =>
        obtain rfl : i = 2 := by omega
        have hnx := fun ty => run_next_end (P := Try.prog) w braces 2 ty (by decide)
        go_wp2
        go_ret
        exact ⟨rfl, (Below.refl _ _).alloc (Nat.le_refl _) _⟩
      | succ g =>
        have hi : i < braces.size := by show i < 2; omega
        obtain ⟨c, hc⟩ : ∃ c : Nat, (braces[i]'hi).toNat = c := ⟨_, rfl⟩
        have hc2 : c < 128 := by
          have : i = 0 ∨ i = 1 := by omega
          rcases this with rfl | rfl
          · rw [← hc]; show (123 : UInt8).toNat < 128; decide
          · rw [← hc]; show (125 : UInt8).toNat < 128; decide
        have hnx := fun ty => run_next_ascii (P := Try.prog) w braces i ty hi (by rw [hc]; exact hc2)
        rw [hc] at hnx
        have hne : ¬ ((c : Int) = 65533) := by omega
        go_wp2
        go_roundg g
        case measure => omega
        case rel => exact ⟨i + 1, by omega, rfl⟩
  · have hv : Lib.validRune r = true ∨ Lib.validRune r = false := by cases Lib.validRune r <;> simp
    rcases hv with hv | hv
    · go_enter Try.func34, Try.ntmps34
      go_wp2_with (go_at_call 39; refine (Try.utf8_ValidRune _ _).mono ?_; rintro e w' ⟨rfl, hw⟩; rw [hw, hv])
      have hval : Utf8.valid r = true := by
        unfold Lib.validRune at hv
        unfold Utf8.valid
        have := of_decide_eq_true hv
        simp
        omega
      obtain ⟨e1, e2, e3⟩ := encode_facts r hval h
      obtain ⟨e, he⟩ : ∃ e, Utf8.encode r = e := ⟨_, rfl⟩
      rw [he] at e1 e2 e3
      have hw1 : wrap64 ((e.size : Int) - 1) = (e.size : Int) - 1 := by unfold wrap64; omega
      go_step3
      go_wp2_with (simp only [he])
      (try simp only [he, hw1])
      go_loopg [9] 0 (fun g s9 wx => s9 = .int .i64 ((e.size : Int) - 1) ∧ wx = w)
      case atStart => exact ⟨rfl, rfl⟩
      case round =>
        obtain ⟨rfl, rfl⟩ := hrel
        by_cases hn : e.size = 2
        · have h2 : (e.size : Int) - 1 = 1 := by omega
          rw [h2]
          have hlt : (1 : Int) < 2 := by omega
          have hlt2 : (1 : Int) < (e.size : Int) := by omega
          have hb : (braces.size : Int) = 2 := rfl
          obtain ⟨x, hx⟩ : ∃ x : UInt8, e[1]'(by omega) = x := ⟨_, rfl⟩
          have hx2 : 128 ≤ x.toNat := by
            have := e3 (by omega)
            simp only [show e.size - 1 = 1 by omega] at this
            rwa [hx] at this
          have hbt : braces[1]'(by decide) = 125 := rfl
          go_wp2
          go_step3
          go_wp2
          go_region
          go_wp2
          go_region_with (go_at_call 33; refine (Try.strings_IndexByte _ _ _).mono ?_; rintro e' w' ⟨rfl, hw⟩; rw [hw])
          all_goals
            have hib : indexByte (List.take (braces.size - 2) (List.drop 2 braces.data.toList)) x = -1 := rfl
            simp only [hib]
            go_wp2
            simp only [Exit.noGoto_ret, Exit.inBlock, Exit.then]
            go_ret
            exact ⟨rfl, (Below.refl _ _).trans ⟨rfl, rfl, rfl, Nat.le_refl _, fun _ _ => rfl⟩⟩
        · have hlt : ¬ ((e.size : Int) - 1 < 2) := by omega
          have hb : (braces.size : Int) = 2 := rfl
          go_wp2
          go_ret
          exact ⟨rfl, Below.refl _ _⟩
    · go_enter Try.func34, Try.ntmps34
      go_wp2_with (go_at_call 39; refine (Try.utf8_ValidRune _ _).mono ?_; rintro e w' ⟨rfl, hw⟩; rw [hw, hv])
      go_ret
      exact ⟨rfl, Below.refl _ _⟩
theorem get_b (s : ByteArray) (i : Nat) (h : i < s.size) : s.get! i = s[i]'h := by
  simp [ByteArray.get!, getElem!_pos, h]
  rfl
theorem decode_span (s : ByteArray) (pos : Nat) (h : pos < s.size) (ha : 128 ≤ (s[pos]'h).toNat) : pos + (Utf8.decode s pos).2 ≤ s.size ∧ ∀ j, pos ≤ j → j < pos + (Utf8.decode s pos).2 → 128 ≤ (s.get! j).toNat := by
  have e0 : s.get! (pos + 0) = s[pos]'h := get_b s pos h
  have hn : ¬ (s[pos]'h).toNat < 128 := by omega
  have b0 : 128 ≤ (s.get! pos).toNat := by rw [get_b s pos h]; exact ha
  simp only [Utf8.decode, e0, hn, if_false]
  repeat' split
  all_goals simp only [Bool.and_eq_true, decide_eq_true_eq, beq_iff_eq] at *
  all_goals refine ⟨by omega, fun j h1 h2 => ?_⟩
  all_goals
    have hj : j = pos ∨ j = pos + 1 ∨ j = pos + 2 ∨ j = pos + 3 := by omega
    rcases hj with rfl | rfl | rfl | rfl <;> omega
set_option maxHeartbeats 8000000 in
set_option maxRecDepth 1000000 in
theorem Try.IndexAny_short (s : ByteArray) (w : World) (h8 : s.size ≤ 8) :
    Calls Try.prog 32 #[.string s, .string braces] w fun e w' => e = .returned (.int .i64 (Lib.indexAny s.data.toList braces.data.toList)) ∧ Below w.heap.size w w' := by
  have hemp : braces.toList.isEmpty = false := by rw [Lib.toList_data]; rfl
  have hn1 : ((braces.size : Int) == 1) = false := rfl
  have h8z : decide ((8 : Int) < (s.size : Int)) = false := decide_eq_false (by omega)
  go_enter Try.func32, Try.ntmps32
  go_wp2_with (go_at_call 35; refine (Try.strings_shouldUseASCIISet _ _).mono ?_; rintro e w' ⟨rfl, hw⟩; rw [hw, h8z])
  go_loopg [9, 10] s.size (fun g _ _ wx => ∃ i : Nat, s.size ≤ i + g ∧ wx.heap[w.heap.size]? = some (.stringIter s i) ∧ Below w.heap.size w wx ∧ Lib.NoAny s.data.toList braces.data.toList i)
  case atStart => exact ⟨0, by omega, World.iter_heap w s 0, (Below.refl _ _).alloc (Nat.le_refl _) _, Lib.NoAny.zero _ _⟩
  case round =>
    obtain ⟨i, hig, hit, hbw, hno⟩ := hrel
    have hsz : w.heap.size < wr.heap.size := (Array.getElem?_eq_some_iff.1 hit).1
    have HN : Aside (Lib.NoAny s.data.toList braces.data.toList i) := hno
    clear hno
    by_cases hi : i < s.size
    · obtain ⟨g, rfl⟩ : ∃ g, gk = g + 1 := ⟨gk - 1, by omega⟩
      obtain ⟨x, hx⟩ : ∃ x : UInt8, s[i]'hi = x := ⟨_, rfl⟩
      have hxl : s.data.toList[i]? = some x := by rw [← hx]; exact Lib.data_getElem? s i hi
      have Hx : Aside (s.data.toList[i]? = some x) := hxl
      clear hxl
      have hit2 := fun p => Lib.iterAt_heap wr w.heap.size s i p hit
      have hbw2 := fun p => Lib.below_iterAt hbw (k := w.heap.size) (Nat.le_refl _) s p
      by_cases hlo : x.toNat < 128
      · have hnx := fun ty => Lib.run_next_ascii_at (P := Try.prog) wr w.heap.size s i ty hit hi (by rw [hx]; exact hlo)
        rw [hx] at hnx
        clear hx
        have hcon := Lib.contains_iff_indexByte braces.data.toList x
        have hback : ((x.toNat : Int)).toNat.toUInt8 = x := by simp
        cases hin : braces.data.toList.contains x
        · rw [hin] at hcon
          have hlt : ¬ ((0 : Int) ≤ Lib.indexByte braces.data.toList x) := of_decide_eq_false hcon.symm
          clear hcon
          go_wp2_with (go_at_call 34; refine (Try.strings_IndexRune_ascii _ _ _ (by omega) (by omega)).mono ?_; rintro e w' ⟨rfl, hw⟩; rw [hw, hback])
          go_roundg g
          case measure => omega
          case rel => exact ⟨i + 1, by omega, hit2 _, hbw2 _, HN.out.succ Hx.out hin⟩
        · rw [hin] at hcon
          have hge : (0 : Int) ≤ Lib.indexByte braces.data.toList x := of_decide_eq_true hcon.symm
          clear hcon
          go_wp2_with (go_at_call 34; refine (Try.strings_IndexRune_ascii _ _ _ (by omega) (by omega)).mono ?_; rintro e w' ⟨rfl, hw⟩; rw [hw, hback])
          go_ret
          exact ⟨by rw [Lib.indexAny_hit HN.out Hx.out hin]; rfl, hbw2 _⟩
      · have hd := decode_high s i hi (by rw [hx]; omega)
        have hd2 := decode_le s i
        obtain ⟨hs1, hs2⟩ := decode_span s i hi (by rw [hx]; omega)
        have hnx := fun ty => Lib.run_next_any_at (P := Try.prog) wr w.heap.size s i ty hit hi
        have HN2 : Aside (Lib.NoAny s.data.toList braces.data.toList (i + (Utf8.decode s i).2)) := by
          intro j b hj hb
          rcases Nat.lt_or_ge j i with h | h
          · exact HN.out j b h hb
          · have h3 := hs2 j h hj
            have hjs : j < s.size := by omega
            rw [get_b s j hjs] at h3
            have hb2 := Lib.data_getElem? s j hjs
            rw [hb] at hb2
            injection hb2 with hb2
            rw [← hb2] at h3
            cases hc : braces.data.toList.contains b with
            | false => rfl
            | true =>
              have : b = 123 ∨ b = 125 := by simpa [braces] using hc
              rcases this with rfl | rfl <;> revert h3 <;> decide
        obtain ⟨c, hc⟩ : ∃ c, Utf8.decode s i = c := ⟨_, rfl⟩
        rw [hc] at hd hd2 hs1 hnx HN2
        clear hs2 hx hc
        have hneg : ¬ ((0 : Int) ≤ -1) := by decide
        go_wp2_with (go_at_call 34; refine (Try.IndexRune_high _ (by omega) (by omega) _).mono ?_; rintro e w' ⟨rfl, hw⟩)
        go_roundg g
        case measure => omega
        case rel =>
          have hs : w.heap.size < (wr.iterAt w.heap.size s (i + c.2)).heap.size := by rw [Lib.iterAt_size]; exact hsz
          exact ⟨i + c.2, by omega, (hw.block _ hs).trans (hit2 _), (hbw2 _).trans (hw.mono (Nat.le_of_lt hs)), HN2.out⟩
    · have hnx := fun ty => Lib.run_next_end_at (P := Try.prog) wr w.heap.size s i ty hit hi
      go_wp2
      go_ret
      refine ⟨?_, hbw⟩
      rw [Lib.indexAny_none (fun j b hj hb => HN.out j b (by rw [← Lib.size_eq] at hj; omega) hb)]
      rfl
theorem Try.IndexAny_braces (s : ByteArray) (w : World) (hs : s.size < 4294967281) :
    Calls Try.prog 32 #[.string s, .string braces] w fun e w' => e = .returned (.int .i64 (Lib.indexAny s.data.toList braces.data.toList)) ∧ Below w.heap.size w w' := by
  by_cases h8 : s.size ≤ 8
  · exact Try.IndexAny_short s w h8
  · refine (Try.strings_IndexAny_long (zero_of_info (show (Try.prog.info? 59).map (fun i => (i.zero, i.size)) = some (some (.agg (Array.replicate 256 (.bool false))), 256) by kernel_rfl)).1 s braces w (by decide) (by omega) hs (by decide) (fun j b hb => ?_)).mono fun e w' h => ⟨h.1, ?_⟩
    · have : j = 0 ∨ j = 1 ∨ 2 ≤ j := by omega
      rcases this with rfl | rfl | h
      · injection hb with hb; rw [← hb]; decide
      · injection hb with hb; rw [← hb]; decide
      · rw [List.getElem?_eq_none (by show 2 ≤ j; exact h)] at hb; cases hb
    · rw [h.2]; exact ((Below.refl _ _).alloc (Nat.le_refl _) _).alloc (by simp) _
end Go.Proofs
namespace Go.Proofs.Ytnacjhgpanedoac.PFnExactGoodEntries
open Go.RowKit Go.Proofs.YtnacjhgpanedoacW.PrintWords Go.Proofs.YtnacjhgpanedoacW.PrintLast Go.Proofs.YtnacjhgpanedoacW.PrintMore
attribute [local go_sem] max2_int min2_int max_two min_two max_three min_three max_four min_four   -- for this text's walks alone
set_option linter.unusedVariables false
set_option linter.unusedSimpArgs false
def errW : Option Int → Value
 | none => .nilIface
 | some c => .iface 0 (.int .i64 c)
theorem errW_none : errW none = .nilIface := rfl
theorem errW_some (c : Int) : errW (some c) = .iface 0 (.int .i64 c) := rfl
theorem info9 : (Try.prog.info? 9).map (fun i => (i.zero, i.size, i.bytes)) = some (some (.string ⟨#[]⟩), 1, 16) := by kernel_rfl
theorem info36 : (Try.prog.info? 36).map (fun i => (i.zero, i.size, i.bytes)) = some (some (.agg #[(.string ⟨#[]⟩), (.slice none 0 0), (.bool false)]), 3, 48) := by kernel_rfl
structure S32 where
 f0 : ByteArray
 f1 : (List ByteArray)
 f2 : Bool
def z32 : S32 := ⟨(⟨#[]⟩ : ByteArray), ([] : List ByteArray), false⟩
def k32 : Kd S32 := Kd.iso (Kd.pair Kd.string (Kd.pair (Kd.slice 9 Kd.string) Kd.bool)) (fun x : S32 => (x.f0, x.f1, x.f2))
theorem k32_open {w : World} {x : S32} {cs : List Value} (h : k32.K w x cs) : ∃ A1 c1, cs = [.string x.f0, .slice A1 x.f1.length c1, .bool x.f2] ∧ x.f1.length ≤ c1 ∧ Kd.string.C w A1 x.f1.length x.f1 := by
 obtain ⟨_, _, rfl, rfl, ⟨_, _, rfl, ⟨A1, c1, rfl, l1, g1⟩, rfl⟩⟩ := h
 exact ⟨A1, c1, rfl, l1, g1⟩
def rd_T32 (xs : List S32) (i : Int) : S32 := xs.getD i.toNat z32
theorem at_T32 {w : World} {A : Option Addr} {n : Nat} {xs : List S32} (h : Kd.C k32 w A n xs) (i : Int) (h0 : 0 ≤ i) (h1 : i < n) : ∃ ad A1 c1, A = some ad ∧ w.cell? (ad.add (i.toNat * 3)) = some (.string (rd_T32 xs i).f0) ∧ w.cell? ⟨(ad.add (i.toNat * 3)).block, (ad.add (i.toNat * 3)).off + 1, none⟩ = some (.slice A1 (rd_T32 xs i).f1.length c1) ∧ w.cell? ⟨(ad.add (i.toNat * 3)).block, (ad.add (i.toNat * 3)).off + 2, none⟩ = some (.bool (rd_T32 xs i).f2) ∧ (rd_T32 xs i).f1.length ≤ c1 ∧ Kd.string.C w A1 (rd_T32 xs i).f1.length (rd_T32 xs i).f1 := by
 obtain ⟨ad, c, e, _, hK, hc0⟩ := Kd.C_get h z32 i h0 h1
 have hc : ∀ j u, c[j]? = some u → w.cell? (ad.add (i.toNat * 3 + j)) = some u := hc0
 obtain ⟨A1, c1, rfl, l1, g1⟩ := k32_open hK
 exact ⟨ad, A1, c1, e, hc 0 _ rfl, by rw [← add_field _ _ 1 (by omega)]; exact hc 1 _ rfl, by rw [← add_field _ _ 2 (by omega)]; exact hc 2 _ rfl, l1, g1⟩
structure S36 where
 f0 : ByteArray
 f1 : (List ByteArray)
 f2 : Bool
def z36 : S36 := ⟨(⟨#[]⟩ : ByteArray), ([] : List ByteArray), false⟩
def k36 : Kd S36 := Kd.iso (Kd.pair Kd.string (Kd.pair (Kd.slice 9 Kd.string) Kd.bool)) (fun x : S36 => (x.f0, x.f1, x.f2))
theorem k36_open {w : World} {x : S36} {cs : List Value} (h : k36.K w x cs) : ∃ A1 c1, cs = [.string x.f0, .slice A1 x.f1.length c1, .bool x.f2] ∧ x.f1.length ≤ c1 ∧ Kd.string.C w A1 x.f1.length x.f1 := by
 obtain ⟨_, _, rfl, rfl, ⟨_, _, rfl, ⟨A1, c1, rfl, l1, g1⟩, rfl⟩⟩ := h
 exact ⟨A1, c1, rfl, l1, g1⟩
theorem k36_openM {w : World} {base : Nat} {ok : Nat → Prop} {x : S36} {cs : List Value} (h : k36.M w base ok x cs) : ∃ v1, cs = [.string x.f0, v1, .bool x.f2] ∧ Kd.string.R 9 w base ok v1 x.f1 := by
 obtain ⟨_, _, rfl, rfl, ⟨_, _, rfl, ⟨v1, rfl, g1⟩, rfl⟩⟩ := h
 exact ⟨v1, rfl, g1⟩
theorem k36_mkM (w : World) (base : Nat) (ok : Nat → Prop) (x : S36) {v1 : Value} (g1 : Kd.string.R 9 w base ok v1 x.f1) : k36.M w base ok x [.string x.f0, v1, .bool x.f2] := ⟨[.string x.f0], [v1, .bool x.f2], rfl, rfl, ⟨[v1], [.bool x.f2], rfl, ⟨v1, rfl, g1⟩, rfl⟩⟩
def rd_T36 (xs : List S36) (i : Int) : S36 := xs.getD i.toNat z36
theorem at_T36 {w : World} {A : Option Addr} {n : Nat} {xs : List S36} (h : Kd.C k36 w A n xs) (i : Int) (h0 : 0 ≤ i) (h1 : i < n) : ∃ ad A1 c1, A = some ad ∧ w.cell? (ad.add (i.toNat * 3)) = some (.string (rd_T36 xs i).f0) ∧ w.cell? ⟨(ad.add (i.toNat * 3)).block, (ad.add (i.toNat * 3)).off + 1, none⟩ = some (.slice A1 (rd_T36 xs i).f1.length c1) ∧ w.cell? ⟨(ad.add (i.toNat * 3)).block, (ad.add (i.toNat * 3)).off + 2, none⟩ = some (.bool (rd_T36 xs i).f2) ∧ (rd_T36 xs i).f1.length ≤ c1 ∧ Kd.string.C w A1 (rd_T36 xs i).f1.length (rd_T36 xs i).f1 := by
 obtain ⟨ad, c, e, _, hK, hc0⟩ := Kd.C_get h z36 i h0 h1
 have hc : ∀ j u, c[j]? = some u → w.cell? (ad.add (i.toNat * 3 + j)) = some u := hc0
 obtain ⟨A1, c1, rfl, l1, g1⟩ := k36_open hK
 exact ⟨ad, A1, c1, e, hc 0 _ rfl, by rw [← add_field _ _ 1 (by omega)]; exact hc 1 _ rfl, by rw [← add_field _ _ 2 (by omega)]; exact hc 2 _ rfl, l1, g1⟩
structure S46 where
 f0 : ByteArray
 f1 : ByteArray
def z46 : S46 := ⟨(⟨#[]⟩ : ByteArray), (⟨#[]⟩ : ByteArray)⟩
def k46 : Kd S46 := Kd.iso (Kd.pair Kd.string Kd.string) (fun x : S46 => (x.f0, x.f1))
theorem k46_open {w : World} {x : S46} {cs : List Value} (h : k46.K w x cs) : cs = [.string x.f0, .string x.f1] := by
 obtain ⟨_, _, rfl, rfl, rfl⟩ := h
 exact rfl
def rd_T46 (xs : List S46) (i : Int) : S46 := xs.getD i.toNat z46
theorem at_T46 {w : World} {A : Option Addr} {n : Nat} {xs : List S46} (h : Kd.C k46 w A n xs) (i : Int) (h0 : 0 ≤ i) (h1 : i < n) : ∃ ad , A = some ad ∧ w.cell? (ad.add (i.toNat * 2)) = some (.string (rd_T46 xs i).f0) ∧ w.cell? ⟨(ad.add (i.toNat * 2)).block, (ad.add (i.toNat * 2)).off + 1, none⟩ = some (.string (rd_T46 xs i).f1) := by
 obtain ⟨ad, c, e, _, hK, hc0⟩ := Kd.C_get h z46 i h0 h1
 have hc : ∀ j u, c[j]? = some u → w.cell? (ad.add (i.toNat * 2 + j)) = some u := hc0
 obtain rfl := k46_open hK
 exact ⟨ad, e, hc 0 _ rfl, by rw [← add_field _ _ 1 (by omega)]; exact hc 1 _ rfl⟩
end Go.Proofs.Ytnacjhgpanedoac.PFnExactGoodEntries
namespace Go.Proofs.Ytnacjhgpanedoac.PFnExactGoodEntries
open Go.RowKit Go.Proofs.YtnacjhgpanedoacW.PrintWords Go.Proofs.YtnacjhgpanedoacW.PrintLast Go.Proofs.YtnacjhgpanedoacW.PrintMore
attribute [local go_sem] max2_int min2_int max_two min_two max_three min_three max_four min_four   -- for this text's walks alone
set_option linter.unusedVariables false
set_option linter.unusedSimpArgs false
def laws_szStringS.l0 : Nat → List ByteArray → Int → Int → Option (Int)
 | 0, _, _, _ => none
 | k + 1, x0, x1, x5 => if x5 < (x0.length : Int) then (if 0 ≤ x5 then (if (wrap64 (x1 - ((rdOf ByteArray.empty x0 x5).size : Int))) < 0 then (some (-1)) else (laws_szStringS.l0 k x0 (wrap64 (x1 - ((rdOf ByteArray.empty x0 x5).size : Int))) (wrap64 (x5 + 1)))) else (none)) else (some x1)
def laws_szStringS.f (k : Nat) (l0 : List ByteArray) (a1 : Int) : Option (Int) := if (wrap64 (a1 - (l0.length : Int))) < 0 then (some (-1)) else (laws_szStringS.l0 k l0 (wrap64 (a1 - (l0.length : Int))) 0)
theorem laws_szStringS.mono_l : ∀ k, (∀ y0 y1 y2, LeO (laws_szStringS.l0 k y0 y1 y2) (laws_szStringS.l0 (k + 1) y0 y1 y2))
 | 0 => fun _ _ _ r h => by simp [laws_szStringS.l0] at h
 | k + 1 => by
  have ih0 := laws_szStringS.mono_l k
  ·intro y0 y1 y2
   unfold laws_szStringS.l0
   repeat' first
   | (with_reducible exact ih0 _ _ _)
   | (with_reducible first | exact LeO.refl _ | exact LeO.none _ | refine LeO.ite ?_ ?_ | refine LeO.bind ?_ (fun _ => ?_))
   | exact ih0 _ _ _ | exact LeO.none _ | refine LeO.ite ?_ ?_ | refine LeO.bind ?_ (fun _ => ?_)
theorem laws_szStringS.mono : ∀ a0 a1 k, LeO (laws_szStringS.f k a0 a1) (laws_szStringS.f (k + 1) a0 a1) := by
 intro a0 a1 k
 have ih0 := laws_szStringS.mono_l k
 unfold laws_szStringS.f
 repeat' first
   | (with_reducible exact ih0 _ _ _)
   | (with_reducible first | exact LeO.refl _ | exact LeO.none _ | refine LeO.ite ?_ ?_ | refine LeO.bind ?_ (fun _ => ?_))
   | exact ih0 _ _ _ | exact LeO.none _ | refine LeO.ite ?_ ?_ | refine LeO.bind ?_ (fun _ => ?_)
set_option maxHeartbeats 8000000 in
set_option maxRecDepth 100000 in
theorem laws_szStringS.calls (k : Nat) (A0 : Option Addr) (c0 : Nat) (l0 : List ByteArray) (a1 : Int) (r : Int) (w : World) (hr0 : Kd.C Kd.string w A0 l0.length l0) (hc0 : l0.length ≤ c0) (h : laws_szStringS.f k l0 a1 = some r) :
  Calls Try.prog 20 #[.slice A0 l0.length c0, .int .i64 a1] w fun e w' => e = .returned (.int .i64 r) ∧ Drawn0 w w' := by
 have HR0 := Aside0.mk hr0
 have HC0 := Aside0.mk hc0
 clear hr0 hc0
 have H : (if (wrap64 (a1 - (l0.length : Int))) < 0 then (some (-1)) else (laws_szStringS.l0 k l0 (wrap64 (a1 - (l0.length : Int))) 0)) = some r := h
 clear h
 by_cases c3 : (wrap64 (a1 - (l0.length : Int))) < 0
 ·rw [if_pos c3] at H
  have c3b0 : decide ((wrap64 (a1 - (l0.length : Int))) < 0) = true := decide_eq_true c3
  clear c3
  obtain rfl := Option.some.inj H
  go_enter Try.func20, Try.ntmps20
  go_wp2
  go_ret
  exact ⟨by first | rfl | (simp; done) | (simp [*]; done) | exact not_isEmpty _ | exact (not_isEmpty _).symm | exact is_empty _ | exact (is_empty _).symm, by repeat (first | exact Drawn0.refl _ | apply Drawn0.step)⟩
 ·rw [if_neg c3] at H
  have c3b0 : decide ((wrap64 (a1 - (l0.length : Int))) < 0) = false := decide_eq_false c3
  clear c3
  have H' := Aside0.mk H
  clear H
  go_enter Try.func20, Try.ntmps20
  go_wp2
  go_loopg [1, 5] k (fun kq v1 v5 w' => ∃ (x1_1 : Int) (x5_1 : Int), v1 = .int .i64 x1_1 ∧ v5 = .int .i64 x5_1 ∧ Aside0 (laws_szStringS.l0 kq l0 x1_1 x5_1 = some r) ∧ Aside0 (kq ≤ k) ∧ Drawn0 w w')
  case atStart => exact ⟨(wrap64 (a1 - (l0.length : Int))), (0), tE, tE, H', ⟨Nat.le_refl _⟩, by repeat (first | exact Drawn0.refl _ | apply Drawn0.step)⟩
  case round =>
   clear H'
   try clear c2
   try clear p2
   try clear c3
   try clear c3b0
   obtain ⟨x1_1, x5_1, rfl, rfl, HA, HK1, ⟨m1, rfl⟩⟩ := hrel
   cases gk with
   | zero => exact absurd HA.out (by simp [laws_szStringS.l0])
   | succ k1 =>
    have H := HA.out
    clear HA
    simp only [laws_szStringS.l0] at H
    by_cases c4 : x5_1 < (l0.length : Int)
    ·rw [if_pos c4] at H
     have c4b0 : decide (x5_1 < (l0.length : Int)) = true := decide_eq_true c4
     clear c4
     by_cases c5 : 0 ≤ x5_1
     ·rw [if_pos c5] at H
      have c5b0 : decide (0 ≤ x5_1) = true := decide_eq_true c5
      clear c5
      by_cases c6 : (wrap64 (x1_1 - ((rdOf ByteArray.empty l0 x5_1).size : Int))) < 0
      ·rw [if_pos c6] at H
       have c6b0 : decide ((wrap64 (x1_1 - ((rdOf ByteArray.empty l0 x5_1).size : Int))) < 0) = true := decide_eq_true c6
       clear c6
       obtain rfl := Option.some.inj H
       have p101 : 0 ≤ (x5_1 : Int) := of_decide_eq_true hE
       have q101 : x5_1 < (l0.length : Int) := of_decide_eq_true hE
       obtain ⟨ad101, e101, hx101_0⟩ := Kd.at_string HR0.out x5_1 p101 q101
       cases e101
       replace p101 := eq_true p101
       replace q101 := eq_true q101
       go_wp2
       go_ret
       exact ⟨by first | rfl | (simp; done) | (simp [*]; done) | exact not_isEmpty _ | exact (not_isEmpty _).symm | exact is_empty _ | exact (is_empty _).symm, by repeat (first | exact Drawn0.refl _ | apply Drawn0.step)⟩
      ·rw [if_neg c6] at H
       have c6b0 : decide ((wrap64 (x1_1 - ((rdOf ByteArray.empty l0 x5_1).size : Int))) < 0) = false := decide_eq_false c6
       clear c6
       have H' := Aside0.mk H
       clear H
       have p101 : 0 ≤ (x5_1 : Int) := of_decide_eq_true hE
       have q101 : x5_1 < (l0.length : Int) := of_decide_eq_true hE
       obtain ⟨ad101, e101, hx101_0⟩ := Kd.at_string HR0.out x5_1 p101 q101
       cases e101
       replace p101 := eq_true p101
       replace q101 := eq_true q101
       go_wp2
       go_roundg k1
       case measure => have := HK1.out; omega
       case rel => exact ⟨(wrap64 (x1_1 - ((rdOf ByteArray.empty l0 x5_1).size : Int))), (wrap64 (x5_1 + 1)), tE, tE, H', ⟨by have := HK1.out; omega⟩, by repeat (first | exact Drawn0.refl _ | apply Drawn0.step)⟩
     ·rw [if_neg c5] at H
      exact absurd H (by simp)
    ·rw [if_neg c4] at H
     have c4b0 : decide (x5_1 < (l0.length : Int)) = false := decide_eq_false c4
     clear c4
     obtain rfl := Option.some.inj H
     go_wp2
     go_ret
     exact ⟨by first | rfl | (simp; done) | (simp [*]; done) | exact not_isEmpty _ | exact (not_isEmpty _).symm | exact is_empty _ | exact (is_empty _).symm, by repeat (first | exact Drawn0.refl _ | apply Drawn0.step)⟩
def laws_szEntry.f (k : Nat) (a0_0 : ByteArray) (l0_1 : List ByteArray) (a0_2 : Bool) (a1 : Int) : Option (Int) := if (wrap64 (a1 - (a0_0.size : Int))) < 0 then (some (-1)) else ((laws_szStringS.f k l0_1 (wrap64 (a1 - (a0_0.size : Int)))).bind fun t103 => (if t103 < 0 then (some (-1)) else (some t103)))
theorem laws_szEntry.mono : ∀ a0 a1 a2 a3 k, LeO (laws_szEntry.f k a0 a1 a2 a3) (laws_szEntry.f (k + 1) a0 a1 a2 a3) := by
 intro a0 a1 a2 a3 k
 unfold laws_szEntry.f
 repeat' first
   | (with_reducible exact laws_szStringS.mono _ _ _)
   | (with_reducible first | exact LeO.refl _ | exact LeO.none _ | refine LeO.ite ?_ ?_ | refine LeO.bind ?_ (fun _ => ?_))
   | exact laws_szStringS.mono _ _ _ | exact LeO.none _ | refine LeO.ite ?_ ?_ | refine LeO.bind ?_ (fun _ => ?_)
set_option maxHeartbeats 8000000 in
set_option maxRecDepth 100000 in
theorem laws_szEntry.calls (k : Nat) (a0_0 : ByteArray) (A0_1 : Option Addr) (c0_1 : Nat) (l0_1 : List ByteArray) (a0_2 : Bool) (a1 : Int) (r : Int) (w : World) (hr0_1 : Kd.C Kd.string w A0_1 l0_1.length l0_1) (hc0_1 : l0_1.length ≤ c0_1) (h : laws_szEntry.f k a0_0 l0_1 a0_2 a1 = some r) :
  Calls Try.prog 9 #[.agg #[.string a0_0, .slice A0_1 l0_1.length c0_1, .bool a0_2], .int .i64 a1] w fun e w' => e = .returned (.int .i64 r) ∧ Below w.heap.size w w' := by
 have hu32 := Try.underlying32
 have HR0_1 := Aside0.mk hr0_1
 have HC0_1 := Aside0.mk hc0_1
 clear hr0_1 hc0_1
 have HB := Aside0.mk (Below.refl w.heap.size w)
 have H : (if (wrap64 (a1 - (a0_0.size : Int))) < 0 then (some (-1)) else ((laws_szStringS.f k l0_1 (wrap64 (a1 - (a0_0.size : Int)))).bind fun t103 => (if t103 < 0 then (some (-1)) else (some t103)))) = some r := h
 clear h
 by_cases c3 : (wrap64 (a1 - (a0_0.size : Int))) < 0
 ·rw [if_pos c3] at H
  have c3b0 : decide ((wrap64 (a1 - (a0_0.size : Int))) < 0) = true := decide_eq_true c3
  clear c3
  obtain rfl := Option.some.inj H
  go_enter Try.func9, Try.ntmps9
  go_wp2_with (first | ((with_reducible refine gate_dst (N := 2) rfl ?_); refine box_event rfl (N := 2) rfl (cs := #[.string a0_0, .slice A0_1 l0_1.length c0_1, .bool a0_2]) (t := 32) sE ?_; intro gb102 hg w4 hbox hb; have BK102 := Aside0.mk hbox; have GW102 := gS w hg (lU); have GE102 := gS w hg (lU); replace HB := bH (lU) hb; clear hb hbox hg; have hcz5_0 := cz BK102 0 (.string a0_0); have hcz5_1 := cz BK102 1 (.slice A0_1 l0_1.length c0_1); have hcz5_2 := cz BK102 2 (.bool a0_2); have hfz5_0 := fz BK102 0; have hfz5_1 := fz BK102 1; have hfz5_2 := fz BK102 2))
  go_ret
  exact ⟨eE, lV1 GE102⟩
 ·rw [if_neg c3] at H
  have c3b0 : decide ((wrap64 (a1 - (a0_0.size : Int))) < 0) = false := decide_eq_false c3
  clear c3
  replace H := Option.bind_eq_some_iff.mp H
  obtain ⟨t103, A60, H⟩ := H
  replace H : (if t103 < 0 then (some (-1)) else (some t103)) = some r := H
  have A6 := Aside0.mk A60
  clear A60
  by_cases c7 : t103 < 0
  ·rw [if_pos c7] at H
   have c7b0 : decide (t103 < 0) = true := decide_eq_true c7
   clear c7
   obtain rfl := Option.some.inj H
   go_enter Try.func9, Try.ntmps9
   go_wp2_with (first | ((with_reducible refine gate_dst (N := 2) rfl ?_); refine box_event rfl (N := 2) rfl (cs := #[.string a0_0, .slice A0_1 l0_1.length c0_1, .bool a0_2]) (t := 32) sE ?_; intro gb102 hg w8 hbox hb; have BK102 := Aside0.mk hbox; have GW102 := gS w hg (lU); have GE102 := gS w hg (lU); replace HB := bH (lU) hb; clear hb hbox hg; have hcz9_0 := cz BK102 0 (.string a0_0); have hcz9_1 := cz BK102 1 (.slice A0_1 l0_1.length c0_1); have hcz9_2 := cz BK102 2 (.bool a0_2); have hfz9_0 := fz BK102 0; have hfz9_1 := fz BK102 1; have hfz9_2 := fz BK102 2) | ((with_reducible refine gate_callee (f := 20) rfl ?_); refine goesL_ (some 15) rfl rfl Try.func20 (by kernel_rfl) rfl #[.slice A0_1 l0_1.length c0_1, .int .i64 (wrap64 (a1 - (a0_0.size : Int)))] rfl aE ?_; (with_reducible refine (laws_szStringS.calls k _ _ l0_1 (wrap64 (a1 - (a0_0.size : Int))) t103 _ ?side1 ?side2 A6.out).mono ?_); (case side1 => exact cU (Kd.C_below HR0_1.out HB.out)); (case side2 => exact HC0_1.out); rintro e w' ⟨rfl, ⟨nd, rfl⟩⟩; refine ⟨_, rfl, ?_⟩))
   go_ret
   exact ⟨eE, lV1 GE102⟩
  ·rw [if_neg c7] at H
   have c7b0 : decide (t103 < 0) = false := decide_eq_false c7
   clear c7
   obtain rfl := Option.some.inj H
   go_enter Try.func9, Try.ntmps9
   go_wp2_with (first | ((with_reducible refine gate_dst (N := 2) rfl ?_); refine box_event rfl (N := 2) rfl (cs := #[.string a0_0, .slice A0_1 l0_1.length c0_1, .bool a0_2]) (t := 32) sE ?_; intro gb102 hg w10 hbox hb; have BK102 := Aside0.mk hbox; have GW102 := gS w hg (lU); have GE102 := gS w hg (lU); replace HB := bH (lU) hb; clear hb hbox hg; have hcz11_0 := cz BK102 0 (.string a0_0); have hcz11_1 := cz BK102 1 (.slice A0_1 l0_1.length c0_1); have hcz11_2 := cz BK102 2 (.bool a0_2); have hfz11_0 := fz BK102 0; have hfz11_1 := fz BK102 1; have hfz11_2 := fz BK102 2) | ((with_reducible refine gate_callee (f := 20) rfl ?_); refine goesL_ (some 15) rfl rfl Try.func20 (by kernel_rfl) rfl #[.slice A0_1 l0_1.length c0_1, .int .i64 (wrap64 (a1 - (a0_0.size : Int)))] rfl aE ?_; (with_reducible refine (laws_szStringS.calls k _ _ l0_1 (wrap64 (a1 - (a0_0.size : Int))) t103 _ ?side1 ?side2 A6.out).mono ?_); (case side1 => exact cU (Kd.C_below HR0_1.out HB.out)); (case side2 => exact HC0_1.out); rintro e w' ⟨rfl, ⟨nd, rfl⟩⟩; refine ⟨_, rfl, ?_⟩))
   go_ret
   exact ⟨eE, lV1 GE102⟩
def laws_szEntryS.l0 : Nat → List (S32) → Int → Int → Option (Int)
 | 0, _, _, _ => none
 | k + 1, x0, x1, x5 => if x5 < (x0.length : Int) then (if 0 ≤ x5 then ((laws_szEntry.f k ((rd_T32 x0 x5).f0) ((rd_T32 x0 x5).f1) ((rd_T32 x0 x5).f2) x1).bind fun t105 => (if t105 < 0 then (some (-1)) else (laws_szEntryS.l0 k x0 t105 (wrap64 (x5 + 1))))) else (none)) else (some x1)
def laws_szEntryS.f (k : Nat) (l0 : List (S32)) (a1 : Int) : Option (Int) := if (wrap64 (a1 - (l0.length : Int))) < 0 then (some (-1)) else (laws_szEntryS.l0 k l0 (wrap64 (a1 - (l0.length : Int))) 0)
theorem laws_szEntryS.mono_l : ∀ k, (∀ y0 y1 y2, LeO (laws_szEntryS.l0 k y0 y1 y2) (laws_szEntryS.l0 (k + 1) y0 y1 y2))
 | 0 => fun _ _ _ r h => by simp [laws_szEntryS.l0] at h
 | k + 1 => by
  have ih0 := laws_szEntryS.mono_l k
  ·intro y0 y1 y2
   unfold laws_szEntryS.l0
   repeat' first
   | (with_reducible exact ih0 _ _ _)
   | (with_reducible exact laws_szEntry.mono _ _ _ _ _)
   | (with_reducible first | exact LeO.refl _ | exact LeO.none _ | refine LeO.ite ?_ ?_ | refine LeO.bind ?_ (fun _ => ?_))
   | exact ih0 _ _ _
   | exact laws_szEntry.mono _ _ _ _ _ | exact LeO.none _ | refine LeO.ite ?_ ?_ | refine LeO.bind ?_ (fun _ => ?_)
theorem laws_szEntryS.mono : ∀ a0 a1 k, LeO (laws_szEntryS.f k a0 a1) (laws_szEntryS.f (k + 1) a0 a1) := by
 intro a0 a1 k
 have ih0 := laws_szEntryS.mono_l k
 unfold laws_szEntryS.f
 repeat' first
   | (with_reducible exact ih0 _ _ _)
   | (with_reducible exact laws_szEntry.mono _ _ _ _ _)
   | (with_reducible first | exact LeO.refl _ | exact LeO.none _ | refine LeO.ite ?_ ?_ | refine LeO.bind ?_ (fun _ => ?_))
   | exact ih0 _ _ _
   | exact laws_szEntry.mono _ _ _ _ _ | exact LeO.none _ | refine LeO.ite ?_ ?_ | refine LeO.bind ?_ (fun _ => ?_)
set_option maxHeartbeats 8000000 in
set_option maxRecDepth 100000 in
theorem laws_szEntryS.calls (k : Nat) (A0 : Option Addr) (c0 : Nat) (l0 : List (S32)) (a1 : Int) (r : Int) (w : World) (hr0 : Kd.C k32 w A0 l0.length l0) (hc0 : l0.length ≤ c0) (h : laws_szEntryS.f k l0 a1 = some r) :
  Calls Try.prog 4 #[.slice A0 l0.length c0, .int .i64 a1] w fun e w' => e = .returned (.int .i64 r) ∧ Below w.heap.size w w' := by
 have hu32 := Try.underlying32
 have HR0 := Aside0.mk hr0
 have HC0 := Aside0.mk hc0
 clear hr0 hc0
 have HB := Aside0.mk (Below.refl w.heap.size w)
 have H : (if (wrap64 (a1 - (l0.length : Int))) < 0 then (some (-1)) else (laws_szEntryS.l0 k l0 (wrap64 (a1 - (l0.length : Int))) 0)) = some r := h
 clear h
 by_cases c3 : (wrap64 (a1 - (l0.length : Int))) < 0
 ·rw [if_pos c3] at H
  have c3b0 : decide ((wrap64 (a1 - (l0.length : Int))) < 0) = true := decide_eq_true c3
  clear c3
  obtain rfl := Option.some.inj H
  go_enter Try.func4, Try.ntmps4
  go_wp2
  go_ret
  exact ⟨eE, lU⟩
 ·rw [if_neg c3] at H
  have c3b0 : decide ((wrap64 (a1 - (l0.length : Int))) < 0) = false := decide_eq_false c3
  clear c3
  have H' := Aside0.mk H
  clear H
  go_enter Try.func4, Try.ntmps4
  go_wp2
  go_loopg [1, 5] k (fun kq v1 v5 w' => ∃ (x1_1 : Int) (x5_1 : Int), v1 = .int .i64 x1_1 ∧ v5 = .int .i64 x5_1 ∧ Aside0 (laws_szEntryS.l0 kq l0 x1_1 x5_1 = some r) ∧ Aside0 (kq ≤ k) ∧ Aside0 (Below w.heap.size w w'))
  case atStart => exact ⟨(wrap64 (a1 - (l0.length : Int))), (0), tE, tE, H', ⟨Nat.le_refl _⟩, ⟨by repeat (first | (with_reducible first | exact HB.out | apply below_alloc | apply pw_below_drewN | apply below_drew1) | exact HB.out)⟩⟩
  case round =>
   clear H'
   try clear p2
   try clear c3
   try clear c3b0
   obtain ⟨x1_1, x5_1, rfl, rfl, HA, HK1, HB⟩ := hrel
   cases gk with
   | zero => exact absurd HA.out (by simp [laws_szEntryS.l0])
   | succ k1 =>
    have H := HA.out
    clear HA
    simp only [laws_szEntryS.l0] at H
    by_cases c4 : x5_1 < (l0.length : Int)
    ·rw [if_pos c4] at H
     have c4b0 : decide (x5_1 < (l0.length : Int)) = true := decide_eq_true c4
     clear c4
     by_cases c5 : 0 ≤ x5_1
     ·rw [if_pos c5] at H
      have c5b0 : decide (0 ≤ x5_1) = true := decide_eq_true c5
      clear c5
      replace H := Option.bind_eq_some_iff.mp H
      obtain ⟨t105, A60, H⟩ := H
      replace H : (if t105 < 0 then (some (-1)) else (laws_szEntryS.l0 k1 l0 t105 (wrap64 (x5_1 + 1)))) = some r := H
      have A6 := Aside0.mk A60
      clear A60
      by_cases c7 : t105 < 0
      ·rw [if_pos c7] at H
       have c7b0 : decide (t105 < 0) = true := decide_eq_true c7
       clear c7
       obtain rfl := Option.some.inj H
       have p104 : 0 ≤ (x5_1 : Int) := of_decide_eq_true hE
       have q104 : x5_1 < (l0.length : Int) := of_decide_eq_true hE
       obtain ⟨ad104, A104_1, c104_1, e104, hx104_0, hx104_1, hx104_2, hl104_1, hi104_1⟩ := at_T32 HR0.out x5_1 p104 q104
       cases e104
       replace hx104_0 := (HB.out.cell (World.block_lt_of_cell? w _ hx104_0)).trans hx104_0
       replace hx104_1 := (HB.out.cell (World.block_lt_of_cell? w _ hx104_1)).trans hx104_1
       replace hx104_2 := (HB.out.cell (World.block_lt_of_cell? w _ hx104_2)).trans hx104_2
       have HR104_1 := Aside0.mk hi104_1
       have HC104_1 := Aside0.mk hl104_1
       clear hi104_1 hl104_1
       replace p104 := eq_true p104
       replace q104 := eq_true q104
       go_wp2_with (first | ((with_reducible refine gate_callee (f := 9) rfl ?_); refine goesL_ (some 23) rfl rfl Try.func9 (by kernel_rfl) rfl #[.agg #[.string ((rd_T32 l0 x5_1).f0), .slice A104_1 ((rd_T32 l0 x5_1).f1).length c104_1, .bool ((rd_T32 l0 x5_1).f2)], .int .i64 x1_1] rfl aE ?_; (with_reducible refine (laws_szEntry.calls k1 ((rd_T32 l0 x5_1).f0) _ _ ((rd_T32 l0 x5_1).f1) ((rd_T32 l0 x5_1).f2) x1_1 t105 _ ?side1 ?side2 A6.out).mono ?_); (case side1 => exact cU (Kd.C_below HR104_1.out HB.out)); (case side2 => exact HC104_1.out); rintro e w8 ⟨rfl, hb⟩; refine ⟨_, rfl, ?_⟩; replace HB := bH (lU) hb; (try clear hb)))
       go_ret
       exact ⟨eE, lU⟩
      ·rw [if_neg c7] at H
       have c7b0 : decide (t105 < 0) = false := decide_eq_false c7
       clear c7
       have H' := Aside0.mk H
       clear H
       have p104 : 0 ≤ (x5_1 : Int) := of_decide_eq_true hE
       have q104 : x5_1 < (l0.length : Int) := of_decide_eq_true hE
       obtain ⟨ad104, A104_1, c104_1, e104, hx104_0, hx104_1, hx104_2, hl104_1, hi104_1⟩ := at_T32 HR0.out x5_1 p104 q104
       cases e104
       replace hx104_0 := (HB.out.cell (World.block_lt_of_cell? w _ hx104_0)).trans hx104_0
       replace hx104_1 := (HB.out.cell (World.block_lt_of_cell? w _ hx104_1)).trans hx104_1
       replace hx104_2 := (HB.out.cell (World.block_lt_of_cell? w _ hx104_2)).trans hx104_2
       have HR104_1 := Aside0.mk hi104_1
       have HC104_1 := Aside0.mk hl104_1
       clear hi104_1 hl104_1
       replace p104 := eq_true p104
       replace q104 := eq_true q104
       go_wp2_with (first | ((with_reducible refine gate_callee (f := 9) rfl ?_); refine goesL_ (some 23) rfl rfl Try.func9 (by kernel_rfl) rfl #[.agg #[.string ((rd_T32 l0 x5_1).f0), .slice A104_1 ((rd_T32 l0 x5_1).f1).length c104_1, .bool ((rd_T32 l0 x5_1).f2)], .int .i64 x1_1] rfl aE ?_; (with_reducible refine (laws_szEntry.calls k1 ((rd_T32 l0 x5_1).f0) _ _ ((rd_T32 l0 x5_1).f1) ((rd_T32 l0 x5_1).f2) x1_1 t105 _ ?side1 ?side2 A6.out).mono ?_); (case side1 => exact cU (Kd.C_below HR104_1.out HB.out)); (case side2 => exact HC104_1.out); rintro e w9 ⟨rfl, hb⟩; refine ⟨_, rfl, ?_⟩; replace HB := bH (lU) hb; (try clear hb)))
       go_roundg k1
       case measure => have := HK1.out; omega
       case rel => exact ⟨(t105), (wrap64 (x5_1 + 1)), tE, tE, H', ⟨by have := HK1.out; omega⟩, ⟨by repeat (first | (with_reducible first | exact HB.out | apply below_alloc | apply pw_below_drewN | apply below_drew1) | exact HB.out)⟩⟩
     ·rw [if_neg c5] at H
      exact absurd H (by simp)
    ·rw [if_neg c4] at H
     have c4b0 : decide (x5_1 < (l0.length : Int)) = false := decide_eq_false c4
     clear c4
     obtain rfl := Option.some.inj H
     go_wp2
     go_ret
     exact ⟨eE, lU⟩
mutual
def spec_FormsOf.j0 : Nat → ByteArray → Bool → Option (List Int)
 | 0, _, _ => none
 | k + 1, x3, x4 => if x4 = true then (some (([1, 5] : List Int))) else (if x3.toList = ([106, 97] : List UInt8) then (some (([5] : List Int))) else (if x3.toList = ([99, 115] : List UInt8) then (some (([1, 3, 5] : List Int))) else (if x3.toList = ([112, 108] : List UInt8) then (spec_FormsOf.j1 k x3 true) else (spec_FormsOf.j1 k x3 (x3.toList == ([114, 117] : List UInt8))))))
def spec_FormsOf.j1 : Nat → ByteArray → Bool → Option (List Int)
 | 0, _, _ => none
 | k + 1, x3, x14 => if x14 = true then (some (([1, 3, 4] : List Int))) else (if x3.toList = ([97, 114] : List UInt8) then (some (([1, 2, 3, 4, 5] : List Int))) else (some ([] : List Int)))
end
def spec_FormsOf.f (k : Nat) (a0 : ByteArray) : Option (List Int) := if a0.toList = ([101, 110] : List UInt8) then (spec_FormsOf.j0 k a0 true) else (spec_FormsOf.j0 k a0 (a0.toList == ([102, 114] : List UInt8)))
theorem spec_FormsOf.mono_l : ∀ k, (∀ y0 y1, LeO (spec_FormsOf.j0 k y0 y1) (spec_FormsOf.j0 (k + 1) y0 y1)) ∧ (∀ y0 y1, LeO (spec_FormsOf.j1 k y0 y1) (spec_FormsOf.j1 (k + 1) y0 y1))
 | 0 => ⟨fun _ _ r h => by simp [spec_FormsOf.j0] at h, fun _ _ r h => by simp [spec_FormsOf.j1] at h⟩
 | k + 1 => by
  obtain ⟨ih0, ih1⟩ := spec_FormsOf.mono_l k
  refine ⟨?_, ?_⟩
  ·intro y0 y1
   unfold spec_FormsOf.j0
   repeat' first
   | (with_reducible exact ih0 _ _)
   | (with_reducible exact ih1 _ _)
   | (with_reducible first | exact LeO.refl _ | exact LeO.none _ | refine LeO.ite ?_ ?_ | refine LeO.bind ?_ (fun _ => ?_))
   | exact ih0 _ _
   | exact ih1 _ _ | exact LeO.none _ | refine LeO.ite ?_ ?_ | refine LeO.bind ?_ (fun _ => ?_)
  ·intro y0 y1
   unfold spec_FormsOf.j1
   repeat' first
   | (with_reducible exact ih0 _ _)
   | (with_reducible exact ih1 _ _)
   | (with_reducible first | exact LeO.refl _ | exact LeO.none _ | refine LeO.ite ?_ ?_ | refine LeO.bind ?_ (fun _ => ?_))
   | exact ih0 _ _
   | exact ih1 _ _ | exact LeO.none _ | refine LeO.ite ?_ ?_ | refine LeO.bind ?_ (fun _ => ?_)
theorem spec_FormsOf.mono : ∀ a0 k, LeO (spec_FormsOf.f k a0) (spec_FormsOf.f (k + 1) a0) := by
 intro a0 k
 obtain ⟨ih0, ih1⟩ := spec_FormsOf.mono_l k
 unfold spec_FormsOf.f
 repeat' first
   | (with_reducible exact ih0 _ _)
   | (with_reducible exact ih1 _ _)
   | (with_reducible first | exact LeO.refl _ | exact LeO.none _ | refine LeO.ite ?_ ?_ | refine LeO.bind ?_ (fun _ => ?_))
   | exact ih0 _ _
   | exact ih1 _ _ | exact LeO.none _ | refine LeO.ite ?_ ?_ | refine LeO.bind ?_ (fun _ => ?_)
set_option maxHeartbeats 8000000 in
set_option maxRecDepth 100000 in
theorem spec_FormsOf.calls (k : Nat) (a0 : ByteArray) (r : List Int) (w : World) (h : spec_FormsOf.f k a0 = some r) :
  Calls Try.prog 10 #[.string a0] w fun e w' => ∃ v0_ : Value, e = .returned (v0_) ∧ Kd.R (Kd.int .i64) 3 w' w.heap.size (fun _ => True) v0_ r ∧ Below w.heap.size w w' := by
 have HB := Aside0.mk (Below.refl w.heap.size w)
 have H : (if a0.toList = ([101, 110] : List UInt8) then (spec_FormsOf.j0 k a0 true) else (spec_FormsOf.j0 k a0 (a0.toList == ([102, 114] : List UInt8)))) = some r := h
 clear h
 have HC2 := Aside0.mk H
 clear H
 go_enter Try.func10, Try.ntmps10
 go_upto_if 4 with (fail)
 go_cut [4] (fun v4 wc => ∃ (kq : Nat) (x4_1 : Bool), v4 = .bool x4_1 ∧ Aside0 (spec_FormsOf.j0 kq a0 x4_1 = some r) ∧ Aside0 (kq ≤ k) ∧ Aside0 (Below w.heap.size w wc))
 case first =>
  have H := HC2.out
  clear HC2
  by_cases c3 : a0.toList = ([101, 110] : List UInt8)
  ·rw [if_pos c3] at H
   have c3b0 : (a0.toList == ([101, 110] : List UInt8)) = true := beq_iff_eq.mpr c3
   have c3b1 : (a0.toList != ([101, 110] : List UInt8)) = false := bne_eq_false_iff_eq.mpr c3
   clear c3
   (first | rw [c3b0] | (simp only [i64_w, i32_w]; rw [c3b0]) | (rw [c3b2]; simp only [Bool.not_false, Bool.not_true]) | skip)
   have H' := Aside0.mk H
   clear H
   go_wp2
   go_meet
   case rel => exact ⟨_, (true), tE, H', ⟨by first | omega | exact Nat.le_refl _⟩, ⟨by repeat (first | (with_reducible first | exact HB.out | apply below_alloc | apply pw_below_drewN | apply below_drew1) | exact HB.out)⟩⟩
  ·rw [if_neg c3] at H
   have c3b0 : (a0.toList == ([101, 110] : List UInt8)) = false := beq_eq_false_iff_ne.mpr c3
   have c3b1 : (a0.toList != ([101, 110] : List UInt8)) = true := bne_iff_ne.mpr c3
   (first | rw [c3b0] | (simp only [i64_w, i32_w]; rw [c3b0]) | (rw [c3b2]; simp only [Bool.not_false, Bool.not_true]) | skip)
   have H' := Aside0.mk H
   clear H
   go_wp2
   go_meet
   case rel => exact ⟨_, ((a0.toList == ([102, 114] : List UInt8))), tE, H', ⟨by first | omega | exact Nat.le_refl _⟩, ⟨by repeat (first | (with_reducible first | exact HB.out | apply below_alloc | apply pw_below_drewN | apply below_drew1) | exact HB.out)⟩⟩
 case rest =>
  clear HC2
  try clear c1
  try clear p2
  try clear c3
  try clear c3b0
  try clear c3b1
  try clear c3b2
  obtain ⟨kq, x4_1, rfl, HA, HJ1, HB⟩ := hcut
  cases kq with
  | zero => exact absurd HA.out (by simp [spec_FormsOf.j0])
  | succ kj1 =>
   have H := HA.out
   clear HA
   simp only [spec_FormsOf.j0] at H
   by_cases c4 : x4_1 = true
   ·subst c4
    have H1 : (some (([1, 5] : List Int))) = some r := by rw [if_pos rfl] at H; exact H
    clear H
    have H := H1
    clear H1
    obtain ⟨y106, hy106⟩ : ∃ y_ : List Int, y_ = (([1, 5] : List Int)) := ⟨_, rfl⟩
    replace H : (some y106) = some r := by first | (rw [hy106]; with_reducible exact H) | (have H2_ := (Option.bind_some _ _).symm.trans H; rw [hy106]; with_reducible exact H2_) | (have H2_ := (Option.bind_some _ _).symm.trans H; with_reducible exact H2_) | with_reducible exact H | (rw [hy106]; exact H) | exact H
    have Ny106 := Aside0.mk hy106
    clear hy106
    obtain rfl := Option.some.inj H
    go_wp2_with (first | ((with_reducible refine gate_dst (N := 7) rfl ?_); refine Kd.R_lit (Kd.int .i64) _ 3 ?hg (N := 7) ?hd (xs := ([1, 5] : List Int)) (inner := [.int .i64 1, .int .i64 5]) (ok := fun _ => True) (okp := fun _ => True) ?hr ?hp (fun _ hk => hk) trivial (Below.refl _ _) (Nat.le_refl _) (by simp) ?_; (case hd => rfl); (case hg => rfl); (case hr => exact sE); (case hp => exact (Reps.one (show Kd.M (Kd.int .i64) _ _ _ 1 [.int .i64 1] from rfl) (Reps.one (show Kd.M (Kd.int .i64) _ _ _ 5 [.int .i64 5] from rfl) (Reps.none _ _)))); intro v107 w5 ho6 hb hg_ hnew_; clear hg_ hnew_; (first | rw [← Ny106.out] at ho6 | (simp only [Int.reduceToNat] at ho6; rw [← Ny106.out] at ho6)); have HO108 := Aside0.mk (Kd.R_lower ho6 (below_size (lU))); replace HB := bH (lU) hb; clear hb ho6))
    go_ret
    exact ⟨_, eE, by (with_reducible repeat (first | apply Kd.R_alloc | apply Kd.R_drewN | apply Kd.R_drew)); exact HO108.out, lU⟩
   ·replace c4 := Bool.eq_false_iff.mpr c4
    subst c4
    have H1 : (if a0.toList = ([106, 97] : List UInt8) then (some (([5] : List Int))) else (if a0.toList = ([99, 115] : List UInt8) then (some (([1, 3, 5] : List Int))) else (if a0.toList = ([112, 108] : List UInt8) then (spec_FormsOf.j1 kj1 a0 true) else (spec_FormsOf.j1 kj1 a0 (a0.toList == ([114, 117] : List UInt8)))))) = some r := by rw [if_neg (show ¬ (false = true) by decide)] at H; exact H
    clear H
    have H := H1
    clear H1
    by_cases c7 : a0.toList = ([106, 97] : List UInt8)
    ·rw [if_pos c7] at H
     have c7b0 : (a0.toList == ([106, 97] : List UInt8)) = true := beq_iff_eq.mpr c7
     have c7b1 : (a0.toList != ([106, 97] : List UInt8)) = false := bne_eq_false_iff_eq.mpr c7
     clear c7
     obtain ⟨y109, hy109⟩ : ∃ y_ : List Int, y_ = (([5] : List Int)) := ⟨_, rfl⟩
     replace H : (some y109) = some r := by first | (rw [hy109]; with_reducible exact H) | (have H2_ := (Option.bind_some _ _).symm.trans H; rw [hy109]; with_reducible exact H2_) | (have H2_ := (Option.bind_some _ _).symm.trans H; with_reducible exact H2_) | with_reducible exact H | (rw [hy109]; exact H) | exact H
     have Ny109 := Aside0.mk hy109
     clear hy109
     obtain rfl := Option.some.inj H
     go_wp2_with (first | ((with_reducible refine gate_dst (N := 10) rfl ?_); refine Kd.R_lit (Kd.int .i64) _ 3 ?hg (N := 10) ?hd (xs := ([5] : List Int)) (inner := [.int .i64 5]) (ok := fun _ => True) (okp := fun _ => True) ?hr ?hp (fun _ hk => hk) trivial (Below.refl _ _) (Nat.le_refl _) (by simp) ?_; (case hd => rfl); (case hg => rfl); (case hr => exact sE); (case hp => exact (Reps.one (show Kd.M (Kd.int .i64) _ _ _ 5 [.int .i64 5] from rfl) (Reps.none _ _))); intro v110 w8 ho9 hb hg_ hnew_; clear hg_ hnew_; (first | rw [← Ny109.out] at ho9 | (simp only [Int.reduceToNat] at ho9; rw [← Ny109.out] at ho9)); have HO111 := Aside0.mk (Kd.R_lower ho9 (below_size (lU))); replace HB := bH (lU) hb; clear hb ho9))
     go_ret
     exact ⟨_, eE, by (with_reducible repeat (first | apply Kd.R_alloc | apply Kd.R_drewN | apply Kd.R_drew)); exact HO111.out, lU⟩
    ·rw [if_neg c7] at H
     have c7b0 : (a0.toList == ([106, 97] : List UInt8)) = false := beq_eq_false_iff_ne.mpr c7
     have c7b1 : (a0.toList != ([106, 97] : List UInt8)) = true := bne_iff_ne.mpr c7
     by_cases c10 : a0.toList = ([99, 115] : List UInt8)
     ·rw [if_pos c10] at H
      have c10b0 : (a0.toList == ([99, 115] : List UInt8)) = true := beq_iff_eq.mpr c10
      have c10b1 : (a0.toList != ([99, 115] : List UInt8)) = false := bne_eq_false_iff_eq.mpr c10
      clear c10
      obtain ⟨y112, hy112⟩ : ∃ y_ : List Int, y_ = (([1, 3, 5] : List Int)) := ⟨_, rfl⟩
      replace H : (some y112) = some r := by first | (rw [hy112]; with_reducible exact H) | (have H2_ := (Option.bind_some _ _).symm.trans H; rw [hy112]; with_reducible exact H2_) | (have H2_ := (Option.bind_some _ _).symm.trans H; with_reducible exact H2_) | with_reducible exact H | (rw [hy112]; exact H) | exact H
      have Ny112 := Aside0.mk hy112
      clear hy112
      obtain rfl := Option.some.inj H
      go_wp2_with (first | ((with_reducible refine gate_dst (N := 13) rfl ?_); refine Kd.R_lit (Kd.int .i64) _ 3 ?hg (N := 13) ?hd (xs := ([1, 3, 5] : List Int)) (inner := [.int .i64 1, .int .i64 3, .int .i64 5]) (ok := fun _ => True) (okp := fun _ => True) ?hr ?hp (fun _ hk => hk) trivial (Below.refl _ _) (Nat.le_refl _) (by simp) ?_; (case hd => rfl); (case hg => rfl); (case hr => exact sE); (case hp => exact (Reps.one (show Kd.M (Kd.int .i64) _ _ _ 1 [.int .i64 1] from rfl) (Reps.one (show Kd.M (Kd.int .i64) _ _ _ 3 [.int .i64 3] from rfl) (Reps.one (show Kd.M (Kd.int .i64) _ _ _ 5 [.int .i64 5] from rfl) (Reps.none _ _))))); intro v113 w11 ho12 hb hg_ hnew_; clear hg_ hnew_; (first | rw [← Ny112.out] at ho12 | (simp only [Int.reduceToNat] at ho12; rw [← Ny112.out] at ho12)); have HO114 := Aside0.mk (Kd.R_lower ho12 (below_size (lU))); replace HB := bH (lU) hb; clear hb ho12))
      go_ret
      exact ⟨_, eE, by (with_reducible repeat (first | apply Kd.R_alloc | apply Kd.R_drewN | apply Kd.R_drew)); exact HO114.out, lU⟩
     ·rw [if_neg c10] at H
      have c10b0 : (a0.toList == ([99, 115] : List UInt8)) = false := beq_eq_false_iff_ne.mpr c10
      have c10b1 : (a0.toList != ([99, 115] : List UInt8)) = true := bne_iff_ne.mpr c10
      have HC13 := Aside0.mk H
      clear H
      go_upto_if 14 with (fail)
      go_cut [14] (fun v14 wc => ∃ (kq : Nat) (x14_12 : Bool), v14 = .bool x14_12 ∧ Aside0 (spec_FormsOf.j1 kq a0 x14_12 = some r) ∧ Aside0 (kq ≤ kj1) ∧ Aside0 (Below w.heap.size w wc))
      case first =>
       have H := HC13.out
       clear HC13
       by_cases c14 : a0.toList = ([112, 108] : List UInt8)
       ·rw [if_pos c14] at H
        have c14b0 : (a0.toList == ([112, 108] : List UInt8)) = true := beq_iff_eq.mpr c14
        have c14b1 : (a0.toList != ([112, 108] : List UInt8)) = false := bne_eq_false_iff_eq.mpr c14
        clear c14
        (first | rw [c14b0] | (simp only [i64_w, i32_w]; rw [c14b0]) | (rw [c14b2]; simp only [Bool.not_false, Bool.not_true]) | skip)
        have H' := Aside0.mk H
        clear H
        go_wp2
        go_meet
        case rel => exact ⟨_, (true), tE, H', ⟨by have := HJ1.out; first | omega | exact Nat.le_refl _⟩, ⟨by repeat (first | (with_reducible first | exact HB.out | apply below_alloc | apply pw_below_drewN | apply below_drew1) | exact HB.out)⟩⟩
       ·rw [if_neg c14] at H
        have c14b0 : (a0.toList == ([112, 108] : List UInt8)) = false := beq_eq_false_iff_ne.mpr c14
        have c14b1 : (a0.toList != ([112, 108] : List UInt8)) = true := bne_iff_ne.mpr c14
        (first | rw [c14b0] | (simp only [i64_w, i32_w]; rw [c14b0]) | (rw [c14b2]; simp only [Bool.not_false, Bool.not_true]) | skip)
        have H' := Aside0.mk H
        clear H
        go_wp2
        go_meet
        case rel => exact ⟨_, ((a0.toList == ([114, 117] : List UInt8))), tE, H', ⟨by have := HJ1.out; first | omega | exact Nat.le_refl _⟩, ⟨by repeat (first | (with_reducible first | exact HB.out | apply below_alloc | apply pw_below_drewN | apply below_drew1) | exact HB.out)⟩⟩
      case rest =>
       clear HC13
       try clear c1
       try clear p2
       try clear c3
       try clear c3b0
       try clear c3b1
       try clear c3b2
       try clear c4
       try clear c7
       try clear c7b0
       try clear c7b1
       try clear c10
       try clear c10b0
       try clear c10b1
       try clear c14
       try clear c14b0
       try clear c14b1
       try clear c14b2
       try clear p2
       obtain ⟨kq, x14_12, rfl, HA, HJ12, HB⟩ := hcut
       cases kq with
       | zero => exact absurd HA.out (by simp [spec_FormsOf.j1])
       | succ kj12 =>
        have H := HA.out
        clear HA
        simp only [spec_FormsOf.j1] at H
        by_cases c15 : x14_12 = true
        ·subst c15
         have H1 : (some (([1, 3, 4] : List Int))) = some r := by rw [if_pos rfl] at H; exact H
         clear H
         have H := H1
         clear H1
         obtain ⟨y115, hy115⟩ : ∃ y_ : List Int, y_ = (([1, 3, 4] : List Int)) := ⟨_, rfl⟩
         replace H : (some y115) = some r := by first | (rw [hy115]; with_reducible exact H) | (have H2_ := (Option.bind_some _ _).symm.trans H; rw [hy115]; with_reducible exact H2_) | (have H2_ := (Option.bind_some _ _).symm.trans H; with_reducible exact H2_) | with_reducible exact H | (rw [hy115]; exact H) | exact H
         have Ny115 := Aside0.mk hy115
         clear hy115
         obtain rfl := Option.some.inj H
         go_wp2_with (first | ((with_reducible refine gate_dst (N := 17) rfl ?_); refine Kd.R_lit (Kd.int .i64) _ 3 ?hg (N := 17) ?hd (xs := ([1, 3, 4] : List Int)) (inner := [.int .i64 1, .int .i64 3, .int .i64 4]) (ok := fun _ => True) (okp := fun _ => True) ?hr ?hp (fun _ hk => hk) trivial (Below.refl _ _) (Nat.le_refl _) (by simp) ?_; (case hd => rfl); (case hg => rfl); (case hr => exact sE); (case hp => exact (Reps.one (show Kd.M (Kd.int .i64) _ _ _ 1 [.int .i64 1] from rfl) (Reps.one (show Kd.M (Kd.int .i64) _ _ _ 3 [.int .i64 3] from rfl) (Reps.one (show Kd.M (Kd.int .i64) _ _ _ 4 [.int .i64 4] from rfl) (Reps.none _ _))))); intro v116 w16 ho17 hb hg_ hnew_; clear hg_ hnew_; (first | rw [← Ny115.out] at ho17 | (simp only [Int.reduceToNat] at ho17; rw [← Ny115.out] at ho17)); have HO117 := Aside0.mk (Kd.R_lower ho17 (below_size (lU))); replace HB := bH (lU) hb; clear hb ho17))
         go_ret
         exact ⟨_, eE, by (with_reducible repeat (first | apply Kd.R_alloc | apply Kd.R_drewN | apply Kd.R_drew)); exact HO117.out, lU⟩
        ·replace c15 := Bool.eq_false_iff.mpr c15
         subst c15
         have H1 : (if a0.toList = ([97, 114] : List UInt8) then (some (([1, 2, 3, 4, 5] : List Int))) else (some ([] : List Int))) = some r := by rw [if_neg (show ¬ (false = true) by decide)] at H; exact H
         clear H
         have H := H1
         clear H1
         by_cases c18 : a0.toList = ([97, 114] : List UInt8)
         ·rw [if_pos c18] at H
          have c18b0 : (a0.toList == ([97, 114] : List UInt8)) = true := beq_iff_eq.mpr c18
          have c18b1 : (a0.toList != ([97, 114] : List UInt8)) = false := bne_eq_false_iff_eq.mpr c18
          clear c18
          obtain ⟨y118, hy118⟩ : ∃ y_ : List Int, y_ = (([1, 2, 3, 4, 5] : List Int)) := ⟨_, rfl⟩
          replace H : (some y118) = some r := by first | (rw [hy118]; with_reducible exact H) | (have H2_ := (Option.bind_some _ _).symm.trans H; rw [hy118]; with_reducible exact H2_) | (have H2_ := (Option.bind_some _ _).symm.trans H; with_reducible exact H2_) | with_reducible exact H | (rw [hy118]; exact H) | exact H
          have Ny118 := Aside0.mk hy118
          clear hy118
          obtain rfl := Option.some.inj H
          go_wp2_with (first | ((with_reducible refine gate_dst (N := 20) rfl ?_); refine Kd.R_lit (Kd.int .i64) _ 3 ?hg (N := 20) ?hd (xs := ([1, 2, 3, 4, 5] : List Int)) (inner := [.int .i64 1, .int .i64 2, .int .i64 3, .int .i64 4, .int .i64 5]) (ok := fun _ => True) (okp := fun _ => True) ?hr ?hp (fun _ hk => hk) trivial (Below.refl _ _) (Nat.le_refl _) (by simp) ?_; (case hd => rfl); (case hg => rfl); (case hr => exact sE); (case hp => exact (Reps.one (show Kd.M (Kd.int .i64) _ _ _ 1 [.int .i64 1] from rfl) (Reps.one (show Kd.M (Kd.int .i64) _ _ _ 2 [.int .i64 2] from rfl) (Reps.one (show Kd.M (Kd.int .i64) _ _ _ 3 [.int .i64 3] from rfl) (Reps.one (show Kd.M (Kd.int .i64) _ _ _ 4 [.int .i64 4] from rfl) (Reps.one (show Kd.M (Kd.int .i64) _ _ _ 5 [.int .i64 5] from rfl) (Reps.none _ _))))))); intro v119 w19 ho20 hb hg_ hnew_; clear hg_ hnew_; (first | rw [← Ny118.out] at ho20 | (simp only [Int.reduceToNat] at ho20; rw [← Ny118.out] at ho20)); have HO120 := Aside0.mk (Kd.R_lower ho20 (below_size (lU))); replace HB := bH (lU) hb; clear hb ho20))
          go_ret
          exact ⟨_, eE, by (with_reducible repeat (first | apply Kd.R_alloc | apply Kd.R_drewN | apply Kd.R_drew)); exact HO120.out, lU⟩
         ·rw [if_neg c18] at H
          have c18b0 : (a0.toList == ([97, 114] : List UInt8)) = false := beq_eq_false_iff_ne.mpr c18
          have c18b1 : (a0.toList != ([97, 114] : List UInt8)) = true := bne_iff_ne.mpr c18
          obtain rfl := Option.some.inj H
          go_wp2
          go_ret
          exact ⟨_, eE, by first | exact Kd.R_nil _ _ _ _ _ | exact Kd.N_nil _ _ _ _ _ | exact Kd.V_nil _ _ _ _ _ | exact Kd.Q_nil _ _ _ _ _ | exact Kd.S_nil _ _ _ _ _, lU⟩
def spec_l1Digit.f (a0 : Int) : Option (Bool) := if a0 ≥ 48 then (some (decide (a0 ≤ 57))) else (some false)
set_option maxHeartbeats 8000000 in
set_option maxRecDepth 100000 in
theorem spec_l1Digit.calls (a0 : Int) (r : Bool) (w : World) (h : spec_l1Digit.f a0 = some r) :
  Calls Try.prog 27 #[.int .u8 a0] w fun e w' => e = .returned (.bool r) ∧ Drawn0 w w' := by
 have H : (if a0 ≥ 48 then (some (decide (a0 ≤ 57))) else (some false)) = some r := h
 clear h
 by_cases c2 : a0 ≥ 48
 ·rw [if_pos c2] at H
  have c2b0 : decide (48 ≤ a0) = true := decide_eq_true c2
  clear c2
  obtain rfl := Option.some.inj H
  go_enter Try.func27, Try.ntmps27
  go_wp2
  go_ret
  exact ⟨by first | rfl | (simp; done) | (simp [*]; done) | exact not_isEmpty _ | exact (not_isEmpty _).symm | exact is_empty _ | exact (is_empty _).symm, by repeat (first | exact Drawn0.refl _ | apply Drawn0.step)⟩
 ·rw [if_neg c2] at H
  have c2b0 : decide (48 ≤ a0) = false := decide_eq_false c2
  clear c2
  obtain rfl := Option.some.inj H
  go_enter Try.func27, Try.ntmps27
  go_wp2
  go_ret
  exact ⟨by first | rfl | (simp; done) | (simp [*]; done) | exact not_isEmpty _ | exact (not_isEmpty _).symm | exact is_empty _ | exact (is_empty _).symm, by repeat (first | exact Drawn0.refl _ | apply Drawn0.step)⟩
def spec_l1Letter.f (a0 : Int) : Option (Bool) := if a0 ≥ 97 then (if a0 ≤ 122 then (some true) else (if a0 ≥ 65 then (if a0 ≤ 90 then (some true) else (some (a0 == 95))) else (some (a0 == 95)))) else (if a0 ≥ 65 then (if a0 ≤ 90 then (some true) else (some (a0 == 95))) else (some (a0 == 95)))
set_option maxHeartbeats 8000000 in
set_option maxRecDepth 100000 in
theorem spec_l1Letter.calls (a0 : Int) (r : Bool) (w : World) (h : spec_l1Letter.f a0 = some r) :
  Calls Try.prog 28 #[.int .u8 a0] w fun e w' => e = .returned (.bool r) ∧ Drawn0 w w' := by
 have H : (if a0 ≥ 97 then (if a0 ≤ 122 then (some true) else (if a0 ≥ 65 then (if a0 ≤ 90 then (some true) else (some (a0 == 95))) else (some (a0 == 95)))) else (if a0 ≥ 65 then (if a0 ≤ 90 then (some true) else (some (a0 == 95))) else (some (a0 == 95)))) = some r := h
 clear h
 by_cases c2 : a0 ≥ 97
 ·rw [if_pos c2] at H
  have c2b0 : decide (97 ≤ a0) = true := decide_eq_true c2
  clear c2
  by_cases c3 : a0 ≤ 122
  ·rw [if_pos c3] at H
   have c3b0 : decide (a0 ≤ 122) = true := decide_eq_true c3
   clear c3
   obtain rfl := Option.some.inj H
   go_enter Try.func28, Try.ntmps28
   go_wp2
   go_ret
   exact ⟨by first | rfl | (simp; done) | (simp [*]; done) | exact not_isEmpty _ | exact (not_isEmpty _).symm | exact is_empty _ | exact (is_empty _).symm, by repeat (first | exact Drawn0.refl _ | apply Drawn0.step)⟩
  ·rw [if_neg c3] at H
   have c3b0 : decide (a0 ≤ 122) = false := decide_eq_false c3
   clear c3
   by_cases c4 : a0 ≥ 65
   ·rw [if_pos c4] at H
    have c4b0 : decide (65 ≤ a0) = true := decide_eq_true c4
    clear c4
    by_cases c5 : a0 ≤ 90
    ·rw [if_pos c5] at H
     have c5b0 : decide (a0 ≤ 90) = true := decide_eq_true c5
     clear c5
     obtain rfl := Option.some.inj H
     go_enter Try.func28, Try.ntmps28
     go_wp2
     go_ret
     exact ⟨by first | rfl | (simp; done) | (simp [*]; done) | exact not_isEmpty _ | exact (not_isEmpty _).symm | exact is_empty _ | exact (is_empty _).symm, by repeat (first | exact Drawn0.refl _ | apply Drawn0.step)⟩
    ·rw [if_neg c5] at H
     have c5b0 : decide (a0 ≤ 90) = false := decide_eq_false c5
     clear c5
     obtain rfl := Option.some.inj H
     go_enter Try.func28, Try.ntmps28
     go_wp2
     go_ret
     exact ⟨by first | rfl | (simp; done) | (simp [*]; done) | exact not_isEmpty _ | exact (not_isEmpty _).symm | exact is_empty _ | exact (is_empty _).symm, by repeat (first | exact Drawn0.refl _ | apply Drawn0.step)⟩
   ·rw [if_neg c4] at H
    have c4b0 : decide (65 ≤ a0) = false := decide_eq_false c4
    clear c4
    obtain rfl := Option.some.inj H
    go_enter Try.func28, Try.ntmps28
    go_wp2
    go_ret
    exact ⟨by first | rfl | (simp; done) | (simp [*]; done) | exact not_isEmpty _ | exact (not_isEmpty _).symm | exact is_empty _ | exact (is_empty _).symm, by repeat (first | exact Drawn0.refl _ | apply Drawn0.step)⟩
 ·rw [if_neg c2] at H
  have c2b0 : decide (97 ≤ a0) = false := decide_eq_false c2
  clear c2
  by_cases c6 : a0 ≥ 65
  ·rw [if_pos c6] at H
   have c6b0 : decide (65 ≤ a0) = true := decide_eq_true c6
   clear c6
   by_cases c7 : a0 ≤ 90
   ·rw [if_pos c7] at H
    have c7b0 : decide (a0 ≤ 90) = true := decide_eq_true c7
    clear c7
    obtain rfl := Option.some.inj H
    go_enter Try.func28, Try.ntmps28
    go_wp2
    go_ret
    exact ⟨by first | rfl | (simp; done) | (simp [*]; done) | exact not_isEmpty _ | exact (not_isEmpty _).symm | exact is_empty _ | exact (is_empty _).symm, by repeat (first | exact Drawn0.refl _ | apply Drawn0.step)⟩
   ·rw [if_neg c7] at H
    have c7b0 : decide (a0 ≤ 90) = false := decide_eq_false c7
    clear c7
    obtain rfl := Option.some.inj H
    go_enter Try.func28, Try.ntmps28
    go_wp2
    go_ret
    exact ⟨by first | rfl | (simp; done) | (simp [*]; done) | exact not_isEmpty _ | exact (not_isEmpty _).symm | exact is_empty _ | exact (is_empty _).symm, by repeat (first | exact Drawn0.refl _ | apply Drawn0.step)⟩
  ·rw [if_neg c6] at H
   have c6b0 : decide (65 ≤ a0) = false := decide_eq_false c6
   clear c6
   obtain rfl := Option.some.inj H
   go_enter Try.func28, Try.ntmps28
   go_wp2
   go_ret
   exact ⟨by first | rfl | (simp; done) | (simp [*]; done) | exact not_isEmpty _ | exact (not_isEmpty _).symm | exact is_empty _ | exact (is_empty _).symm, by repeat (first | exact Drawn0.refl _ | apply Drawn0.step)⟩
end Go.Proofs.Ytnacjhgpanedoac.PFnExactGoodEntries
namespace Go.Proofs.Ytnacjhgpanedoac.PFnExactGoodEntries
open Go.RowKit Go.Proofs.YtnacjhgpanedoacW.PrintWords Go.Proofs.YtnacjhgpanedoacW.PrintLast Go.Proofs.YtnacjhgpanedoacW.PrintMore
attribute [local go_sem] max2_int min2_int max_two min_two max_three min_three max_four min_four   -- for this text's walks alone
set_option linter.unusedVariables false
set_option linter.unusedSimpArgs false
mutual
def spec_GoodName.j0 : Nat → ByteArray → Bool → Option (Bool)
 | 0, _, _ => none
 | k + 1, x0, x16 => if x16 = true then (some false) else (spec_GoodName.l0 k x0 0)
def spec_GoodName.l0 : Nat → ByteArray → Int → Option (Bool)
 | 0, _, _ => none
 | k + 1, x0, x3 => if x3 < (x0.size : Int) then (if 0 ≤ x3 then ((spec_l1Letter.f (bt x0 x3)).bind fun t122 => (if t122 = true then (spec_GoodName.l0 k x0 (wrap64 (x3 + 1))) else ((spec_l1Digit.f (bt x0 x3)).bind fun t123 => (if t123 = true then (spec_GoodName.l0 k x0 (wrap64 (x3 + 1))) else (some false))))) else (none)) else (some true)
end
def spec_GoodName.f (k : Nat) (a0 : ByteArray) : Option (Bool) := if (a0.size : Int) < 1 then (spec_GoodName.j0 k a0 true) else (if (a0.size : Int) > 20 then (spec_GoodName.j0 k a0 true) else (if 0 < (a0.size : Int) then ((spec_l1Digit.f (bt a0 0)).bind fun t121 => (spec_GoodName.j0 k a0 t121)) else (none)))
theorem spec_GoodName.mono_l : ∀ k, (∀ y0 y1, LeO (spec_GoodName.j0 k y0 y1) (spec_GoodName.j0 (k + 1) y0 y1)) ∧ (∀ y0 y1, LeO (spec_GoodName.l0 k y0 y1) (spec_GoodName.l0 (k + 1) y0 y1))
 | 0 => ⟨fun _ _ r h => by simp [spec_GoodName.j0] at h, fun _ _ r h => by simp [spec_GoodName.l0] at h⟩
 | k + 1 => by
  obtain ⟨ih0, ih1⟩ := spec_GoodName.mono_l k
  refine ⟨?_, ?_⟩
  ·intro y0 y1
   unfold spec_GoodName.j0
   repeat' first
   | (with_reducible exact ih0 _ _)
   | (with_reducible exact ih1 _ _)
   | (with_reducible first | exact LeO.refl _ | exact LeO.none _ | refine LeO.ite ?_ ?_ | refine LeO.bind ?_ (fun _ => ?_))
   | exact ih0 _ _
   | exact ih1 _ _ | exact LeO.none _ | refine LeO.ite ?_ ?_ | refine LeO.bind ?_ (fun _ => ?_)
  ·intro y0 y1
   unfold spec_GoodName.l0
   repeat' first
   | (with_reducible exact ih0 _ _)
   | (with_reducible exact ih1 _ _)
   | (with_reducible first | exact LeO.refl _ | exact LeO.none _ | refine LeO.ite ?_ ?_ | refine LeO.bind ?_ (fun _ => ?_))
   | exact ih0 _ _
   | exact ih1 _ _ | exact LeO.none _ | refine LeO.ite ?_ ?_ | refine LeO.bind ?_ (fun _ => ?_)
theorem spec_GoodName.mono : ∀ a0 k, LeO (spec_GoodName.f k a0) (spec_GoodName.f (k + 1) a0) := by
 intro a0 k
 obtain ⟨ih0, ih1⟩ := spec_GoodName.mono_l k
 unfold spec_GoodName.f
 repeat' first
   | (with_reducible exact ih0 _ _)
   | (with_reducible exact ih1 _ _)
   | (with_reducible first | exact LeO.refl _ | exact LeO.none _ | refine LeO.ite ?_ ?_ | refine LeO.bind ?_ (fun _ => ?_))
   | exact ih0 _ _
   | exact ih1 _ _ | exact LeO.none _ | refine LeO.ite ?_ ?_ | refine LeO.bind ?_ (fun _ => ?_)
set_option maxHeartbeats 8000000 in
set_option maxRecDepth 100000 in
theorem spec_GoodName.calls (k : Nat) (a0 : ByteArray) (r : Bool) (w : World) (h : spec_GoodName.f k a0 = some r) :
  Calls Try.prog 21 #[.string a0] w fun e w' => e = .returned (.bool r) ∧ Drawn0 w w' := by
 have H : (if (a0.size : Int) < 1 then (spec_GoodName.j0 k a0 true) else (if (a0.size : Int) > 20 then (spec_GoodName.j0 k a0 true) else (if 0 < (a0.size : Int) then ((spec_l1Digit.f (bt a0 0)).bind fun t121 => (spec_GoodName.j0 k a0 t121)) else (none)))) = some r := h
 clear h
 have HC2 := Aside0.mk H
 clear H
 go_enter Try.func21, Try.ntmps21
 go_upto_region 1 with (fail)
 go_cut [16] (fun v16 wc => ∃ (kq : Nat) (x16_1 : Bool), v16 = .bool x16_1 ∧ Aside0 (spec_GoodName.j0 kq a0 x16_1 = some r) ∧ Aside0 (kq ≤ k) ∧ Drawn0 w wc)
 case first =>
  have H := HC2.out
  clear HC2
  by_cases c3 : (a0.size : Int) < 1
  ·rw [if_pos c3] at H
   have c3b0 : decide ((a0.size : Int) < 1) = true := decide_eq_true c3
   have c3b1 : decide (a0.size < 1) = true := decide_eq_true (by omega)
   clear c3
   (first | rw [c3b0] | (simp only [i64_w, i32_w]; rw [c3b0]) | (rw [c3b2]; simp only [Bool.not_false, Bool.not_true]) | skip)
   have H' := Aside0.mk H
   clear H
   go_wp2
   go_meet
   case rel => exact ⟨_, (true), tE, H', ⟨by first | omega | exact Nat.le_refl _⟩, by repeat (first | exact Drawn0.refl _ | apply Drawn0.step)⟩
  ·rw [if_neg c3] at H
   have c3b0 : decide ((a0.size : Int) < 1) = false := decide_eq_false c3
   have c3b1 : decide (a0.size < 1) = false := decide_eq_false (by omega)
   clear c3
   (first | rw [c3b0] | (simp only [i64_w, i32_w]; rw [c3b0]) | (rw [c3b2]; simp only [Bool.not_false, Bool.not_true]) | skip)
   by_cases c4 : (a0.size : Int) > 20
   ·rw [if_pos c4] at H
    have c4b0 : decide (20 < (a0.size : Int)) = true := decide_eq_true c4
    have c4b1 : decide (20 < a0.size) = true := decide_eq_true (by omega)
    clear c4
    have H' := Aside0.mk H
    clear H
    go_wp2
    go_meet
    case rel => exact ⟨_, (true), tE, H', ⟨by first | omega | exact Nat.le_refl _⟩, by repeat (first | exact Drawn0.refl _ | apply Drawn0.step)⟩
   ·rw [if_neg c4] at H
    have c4b0 : decide (20 < (a0.size : Int)) = false := decide_eq_false c4
    have c4b1 : decide (20 < a0.size) = false := decide_eq_false (by omega)
    clear c4
    by_cases c5 : 0 < (a0.size : Int)
    ·rw [if_pos c5] at H
     have c5b0 : decide (0 < (a0.size : Int)) = true := decide_eq_true c5
     have c5b1 : decide (0 < a0.size) = true := decide_eq_true (by omega)
     clear c5
     replace H := Option.bind_eq_some_iff.mp H
     obtain ⟨t121, A70, H⟩ := H
     replace H : (spec_GoodName.j0 k a0 t121) = some r := H
     have A7 := Aside0.mk A70
     clear A70
     have H' := Aside0.mk H
     clear H
     have p6 : 0 ≤ (0 : Int) := (by omega)
     have q6 : 0 < a0.size := (by have : (0 : Int) < (a0.size : Int) := of_decide_eq_true hE; omega)
     have hx6 : ∀ h : 0 < a0.size, ((a0[0]'h).toNat : Int) = bt a0 0 := bt_at a0 0
     clear p6
     have qi6 : (0 < (a0.size : Int)) = True := eq_true (of_decide_eq_true hE)
     replace q6 := eq_true q6
     go_wp2_with (first | (go_at_call 27; (with_reducible refine (spec_l1Digit.calls (bt a0 0) t121 _ A7.out).mono ?_); rintro e w' ⟨rfl, ⟨nd, rfl⟩⟩))
     go_meet
     case rel => exact ⟨_, (t121), tE, H', ⟨by first | omega | exact Nat.le_refl _⟩, by repeat (first | exact Drawn0.refl _ | apply Drawn0.step)⟩
    ·rw [if_neg c5] at H
     exact absurd H (by simp)
 case rest =>
  clear HC2
  try clear c2
  try clear p2
  try clear c3
  try clear c3b0
  try clear c3b1
  try clear c3b2
  try clear c4
  try clear c4b0
  try clear c4b1
  try clear c5
  try clear c5b0
  try clear c5b1
  try clear p6
  try clear q6
  try clear hx6
  try clear qi6
  try clear p6
  try clear q6
  obtain ⟨kq, x16_1, rfl, HA, HJ1, ⟨mc1, rfl⟩⟩ := hcut
  cases kq with
  | zero => exact absurd HA.out (by simp [spec_GoodName.j0])
  | succ kj1 =>
   have H := HA.out
   clear HA
   simp only [spec_GoodName.j0] at H
   by_cases c8 : x16_1 = true
   ·subst c8
    have H1 : (some false) = some r := by rw [if_pos rfl] at H; exact H
    clear H
    have H := H1
    clear H1
    obtain rfl := Option.some.inj H
    go_wp2
    go_ret
    exact ⟨by first | rfl | (simp; done) | (simp [*]; done) | exact not_isEmpty _ | exact (not_isEmpty _).symm | exact is_empty _ | exact (is_empty _).symm, by repeat (first | exact Drawn0.refl _ | apply Drawn0.step)⟩
   ·replace c8 := Bool.eq_false_iff.mpr c8
    subst c8
    have H1 : (spec_GoodName.l0 kj1 a0 0) = some r := by rw [if_neg (show ¬ (false = true) by decide)] at H; exact H
    clear H
    have H := H1
    clear H1
    have H' := Aside0.mk H
    clear H
    go_wp2
    go_loopg [3] kj1 (fun kq v3 w' => ∃ (x3_2 : Int), v3 = .int .i64 x3_2 ∧ Aside0 (spec_GoodName.l0 kq a0 x3_2 = some r) ∧ Aside0 (kq ≤ kj1) ∧ Drawn0 w w')
    case atStart => exact ⟨(0), tE, H', ⟨Nat.le_refl _⟩, by repeat (first | exact Drawn0.refl _ | apply Drawn0.step)⟩
    case round =>
     clear H'
     try clear c1
     try clear c2
     try clear p2
     try clear c3
     try clear c3b0
     try clear c3b1
     try clear c3b2
     try clear c4
     try clear c4b0
     try clear c4b1
     try clear c5
     try clear c5b0
     try clear c5b1
     try clear p6
     try clear q6
     try clear hx6
     try clear qi6
     try clear c8
     try clear p2
     try clear p6
     try clear q6
     obtain ⟨x3_2, rfl, HA, HK2, ⟨m2, rfl⟩⟩ := hrel
     cases gk with
     | zero => exact absurd HA.out (by simp [spec_GoodName.l0])
     | succ k2 =>
      have H := HA.out
      clear HA
      simp only [spec_GoodName.l0] at H
      by_cases c9 : x3_2 < (a0.size : Int)
      ·rw [if_pos c9] at H
       have c9b0 : decide (x3_2 < (a0.size : Int)) = true := decide_eq_true c9
       clear c9
       by_cases c10 : 0 ≤ x3_2
       ·rw [if_pos c10] at H
        have c10b0 : decide (0 ≤ x3_2) = true := decide_eq_true c10
        clear c10
        replace H := Option.bind_eq_some_iff.mp H
        obtain ⟨t122, A120, H⟩ := H
        replace H : (if t122 = true then (spec_GoodName.l0 k2 a0 (wrap64 (x3_2 + 1))) else ((spec_l1Digit.f (bt a0 x3_2)).bind fun t123 => (if t123 = true then (spec_GoodName.l0 k2 a0 (wrap64 (x3_2 + 1))) else (some false)))) = some r := H
        have A12 := Aside0.mk A120
        clear A120
        by_cases c13 : t122 = true
        ·subst c13
         have H1 : (spec_GoodName.l0 k2 a0 (wrap64 (x3_2 + 1))) = some r := by rw [if_pos rfl] at H; exact H
         clear H
         have H := H1
         clear H1
         have H' := Aside0.mk H
         clear H
         have p11 : 0 ≤ (x3_2 : Int) := of_decide_eq_true hE
         have q11 : x3_2 < (a0.size : Int) := of_decide_eq_true hE
         have hx11 := bt_at a0 x3_2
         replace p11 := eq_true p11
         replace q11 := eq_true q11
         go_wp2_with (first | ((with_reducible refine gate_callee (f := 28) rfl ?_); refine goesL_ (some 26) rfl rfl Try.func28 (by kernel_rfl) rfl #[.int .u8 (bt a0 x3_2)] rfl aE ?_; (with_reducible refine (spec_l1Letter.calls (bt a0 x3_2) true _ A12.out).mono ?_); rintro e w' ⟨rfl, ⟨nd, rfl⟩⟩; refine ⟨_, rfl, ?_⟩))
         go_roundg k2
         case measure => have := HJ1.out; have := HK2.out; omega
         case rel => exact ⟨(wrap64 (x3_2 + 1)), tE, H', ⟨by have := HJ1.out; have := HK2.out; omega⟩, by repeat (first | exact Drawn0.refl _ | apply Drawn0.step)⟩
        ·replace c13 := Bool.eq_false_iff.mpr c13
         subst c13
         have H1 : ((spec_l1Digit.f (bt a0 x3_2)).bind fun t123 => (if t123 = true then (spec_GoodName.l0 k2 a0 (wrap64 (x3_2 + 1))) else (some false))) = some r := by rw [if_neg (show ¬ (false = true) by decide)] at H; exact H
         clear H
         have H := H1
         clear H1
         replace H := Option.bind_eq_some_iff.mp H
         obtain ⟨t123, A150, H⟩ := H
         replace H : (if t123 = true then (spec_GoodName.l0 k2 a0 (wrap64 (x3_2 + 1))) else (some false)) = some r := H
         have A15 := Aside0.mk A150
         clear A150
         by_cases c16 : t123 = true
         ·subst c16
          have H1 : (spec_GoodName.l0 k2 a0 (wrap64 (x3_2 + 1))) = some r := by rw [if_pos rfl] at H; exact H
          clear H
          have H := H1
          clear H1
          have H' := Aside0.mk H
          clear H
          have p11 : 0 ≤ (x3_2 : Int) := of_decide_eq_true hE
          have q11 : x3_2 < (a0.size : Int) := of_decide_eq_true hE
          have hx11 := bt_at a0 x3_2
          replace p11 := eq_true p11
          replace q11 := eq_true q11
          go_wp2_with (first | ((with_reducible refine gate_callee (f := 28) rfl ?_); refine goesL_ (some 26) rfl rfl Try.func28 (by kernel_rfl) rfl #[.int .u8 (bt a0 x3_2)] rfl aE ?_; (with_reducible refine (spec_l1Letter.calls (bt a0 x3_2) false _ A12.out).mono ?_); rintro e w' ⟨rfl, ⟨nd, rfl⟩⟩; refine ⟨_, rfl, ?_⟩; have p14 : 0 ≤ (x3_2 : Int) := of_decide_eq_true hE; have q14 : x3_2 < (a0.size : Int) := of_decide_eq_true hE; have hx14 := bt_at a0 x3_2; replace p14 := eq_true p14; replace q14 := eq_true q14) | (go_at_call 27; (with_reducible refine (spec_l1Digit.calls (bt a0 x3_2) true _ A15.out).mono ?_); rintro e w' ⟨rfl, ⟨nd, rfl⟩⟩))
          go_roundg k2
          case measure => have := HJ1.out; have := HK2.out; omega
          case rel => exact ⟨(wrap64 (x3_2 + 1)), tE, H', ⟨by have := HJ1.out; have := HK2.out; omega⟩, by repeat (first | exact Drawn0.refl _ | apply Drawn0.step)⟩
         ·replace c16 := Bool.eq_false_iff.mpr c16
          subst c16
          have H1 : (some false) = some r := by rw [if_neg (show ¬ (false = true) by decide)] at H; exact H
          clear H
          have H := H1
          clear H1
          obtain rfl := Option.some.inj H
          have p11 : 0 ≤ (x3_2 : Int) := of_decide_eq_true hE
          have q11 : x3_2 < (a0.size : Int) := of_decide_eq_true hE
          have hx11 := bt_at a0 x3_2
          replace p11 := eq_true p11
          replace q11 := eq_true q11
          go_wp2_with (first | ((with_reducible refine gate_callee (f := 28) rfl ?_); refine goesL_ (some 26) rfl rfl Try.func28 (by kernel_rfl) rfl #[.int .u8 (bt a0 x3_2)] rfl aE ?_; (with_reducible refine (spec_l1Letter.calls (bt a0 x3_2) false _ A12.out).mono ?_); rintro e w' ⟨rfl, ⟨nd, rfl⟩⟩; refine ⟨_, rfl, ?_⟩; have p14 : 0 ≤ (x3_2 : Int) := of_decide_eq_true hE; have q14 : x3_2 < (a0.size : Int) := of_decide_eq_true hE; have hx14 := bt_at a0 x3_2; replace p14 := eq_true p14; replace q14 := eq_true q14) | (go_at_call 27; (with_reducible refine (spec_l1Digit.calls (bt a0 x3_2) false _ A15.out).mono ?_); rintro e w' ⟨rfl, ⟨nd, rfl⟩⟩))
          go_ret
          exact ⟨by first | rfl | (simp; done) | (simp [*]; done) | exact not_isEmpty _ | exact (not_isEmpty _).symm | exact is_empty _ | exact (is_empty _).symm, by repeat (first | exact Drawn0.refl _ | apply Drawn0.step)⟩
       ·rw [if_neg c10] at H
        exact absurd H (by simp)
      ·rw [if_neg c9] at H
       have c9b0 : decide (x3_2 < (a0.size : Int)) = false := decide_eq_false c9
       clear c9
       obtain rfl := Option.some.inj H
       go_wp2
       go_ret
       exact ⟨by first | rfl | (simp; done) | (simp [*]; done) | exact not_isEmpty _ | exact (not_isEmpty _).symm | exact is_empty _ | exact (is_empty _).symm, by repeat (first | exact Drawn0.refl _ | apply Drawn0.step)⟩
def spec_l19Keys.l0 : Nat → List (S36) → List (S36) → Int → Int → Option (Bool)
 | 0, _, _, _, _ => none
 | k + 1, x0, x8, x9, x10 => if x10 < x9 then (if 0 ≤ x10 then (if x10 < (x8.length : Int) then ((spec_GoodName.f k ((rd_T36 x8 x10).f0)).bind fun t126 => (if t126 = true then (if x10 > 0 then (if 0 ≤ (wrap64 (x10 - 1)) then (if (wrap64 (x10 - 1)) < (x0.length : Int) then (if ((Op.bytesLess (((rd_T36 x0 (wrap64 (x10 - 1))).f0).toList) (((rd_T36 x8 x10).f0).toList)) = true) then (spec_l19Keys.l0 k x0 x8 x9 (wrap64 (x10 + 1))) else (some false)) else (none)) else (none)) else (spec_l19Keys.l0 k x0 x8 x9 (wrap64 (x10 + 1)))) else (some false))) else (none)) else (none)) else (some true)
def spec_l19Keys.f (k : Nat) (l0 : List (S36)) : Option (Bool) := if (l0.length : Int) > 60 then (some false) else (spec_l19Keys.l0 k l0 l0 (l0.length : Int) 0)
theorem spec_l19Keys.mono_l : ∀ k, (∀ y0 y1 y2 y3, LeO (spec_l19Keys.l0 k y0 y1 y2 y3) (spec_l19Keys.l0 (k + 1) y0 y1 y2 y3))
 | 0 => fun _ _ _ _ r h => by simp [spec_l19Keys.l0] at h
 | k + 1 => by
  have ih0 := spec_l19Keys.mono_l k
  ·intro y0 y1 y2 y3
   unfold spec_l19Keys.l0
   repeat' first
   | (with_reducible exact ih0 _ _ _ _)
   | (with_reducible exact spec_GoodName.mono _ _)
   | (with_reducible first | exact LeO.refl _ | exact LeO.none _ | refine LeO.ite ?_ ?_ | refine LeO.bind ?_ (fun _ => ?_))
   | exact ih0 _ _ _ _
   | exact spec_GoodName.mono _ _ | exact LeO.none _ | refine LeO.ite ?_ ?_ | refine LeO.bind ?_ (fun _ => ?_)
theorem spec_l19Keys.mono : ∀ a0 k, LeO (spec_l19Keys.f k a0) (spec_l19Keys.f (k + 1) a0) := by
 intro a0 k
 have ih0 := spec_l19Keys.mono_l k
 unfold spec_l19Keys.f
 repeat' first
   | (with_reducible exact ih0 _ _ _ _)
   | (with_reducible exact spec_GoodName.mono _ _)
   | (with_reducible first | exact LeO.refl _ | exact LeO.none _ | refine LeO.ite ?_ ?_ | refine LeO.bind ?_ (fun _ => ?_))
   | exact ih0 _ _ _ _
   | exact spec_GoodName.mono _ _ | exact LeO.none _ | refine LeO.ite ?_ ?_ | refine LeO.bind ?_ (fun _ => ?_)
set_option maxHeartbeats 8000000 in
set_option maxRecDepth 100000 in
theorem spec_l19Keys.calls (k : Nat) (A0 : Option Addr) (c0 : Nat) (l0 : List (S36)) (r : Bool) (w : World) (hr0 : Kd.C k36 w A0 l0.length l0) (hc0 : l0.length ≤ c0) (h : spec_l19Keys.f k l0 = some r) :
  Calls Try.prog 11 #[.slice A0 l0.length c0] w fun e w' => e = .returned (.bool r) ∧ Below w.heap.size w w' := by
 have hu36 := Try.underlying36
 have HR0 := Aside0.mk hr0
 have HC0 := Aside0.mk hc0
 clear hr0 hc0
 have HB := Aside0.mk (Below.refl w.heap.size w)
 have H : (if (l0.length : Int) > 60 then (some false) else (spec_l19Keys.l0 k l0 l0 (l0.length : Int) 0)) = some r := h
 clear h
 by_cases c2 : (l0.length : Int) > 60
 ·rw [if_pos c2] at H
  have c2b0 : decide (60 < (l0.length : Int)) = true := decide_eq_true c2
  have c2b1 : decide (60 < l0.length) = true := decide_eq_true (by omega)
  clear c2
  obtain rfl := Option.some.inj H
  go_enter Try.func11, Try.ntmps11
  go_wp2
  repeat (go_quiet (fail); try go_wp2)
  go_ret
  exact ⟨eE, lU⟩
 ·rw [if_neg c2] at H
  have c2b0 : decide (60 < (l0.length : Int)) = false := decide_eq_false c2
  have c2b1 : decide (60 < l0.length) = false := decide_eq_false (by omega)
  clear c2
  have H' := Aside0.mk H
  clear H
  go_enter Try.func11, Try.ntmps11
  go_wp2
  repeat (go_quiet (fail); try go_wp2)
  go_loopg [10] k (fun kq v10 w' => ∃ (x10_1 : Int), v10 = .int .i64 x10_1 ∧ Aside0 (spec_l19Keys.l0 kq l0 l0 (l0.length : Int) x10_1 = some r) ∧ Aside0 (kq ≤ k) ∧ Aside0 (Below w.heap.size w w'))
  case atStart => exact ⟨(0), tE, H', ⟨Nat.le_refl _⟩, ⟨by repeat (first | (with_reducible first | exact HB.out | apply below_alloc | apply pw_below_drewN | apply below_drew1) | exact HB.out)⟩⟩
  case round =>
   clear H'
   try clear c1
   try clear c2
   try clear c2b0
   try clear c2b1
   try clear p2
   obtain ⟨x10_1, rfl, HA, HK1, HB⟩ := hrel
   cases gk with
   | zero => exact absurd HA.out (by simp [spec_l19Keys.l0])
   | succ k1 =>
    have H := HA.out
    clear HA
    simp only [spec_l19Keys.l0] at H
    by_cases c3 : x10_1 < (l0.length : Int)
    ·rw [if_pos c3] at H
     have c3b0 : decide (x10_1 < (l0.length : Int)) = true := decide_eq_true c3
     clear c3
     by_cases c4 : 0 ≤ x10_1
     ·rw [if_pos c4] at H
      have c4b0 : decide (0 ≤ x10_1) = true := decide_eq_true c4
      clear c4
      by_cases c5 : x10_1 < (l0.length : Int)
      ·rw [if_pos c5] at H
       have c5b0 : decide (x10_1 < (l0.length : Int)) = true := decide_eq_true c5
       clear c5
       replace H := Option.bind_eq_some_iff.mp H
       obtain ⟨t126, A60, H⟩ := H
       replace H : (if t126 = true then (if x10_1 > 0 then (if 0 ≤ (wrap64 (x10_1 - 1)) then (if (wrap64 (x10_1 - 1)) < (l0.length : Int) then (if ((Op.bytesLess (((rd_T36 l0 (wrap64 (x10_1 - 1))).f0).toList) (((rd_T36 l0 x10_1).f0).toList)) = true) then (spec_l19Keys.l0 k1 l0 l0 (l0.length : Int) (wrap64 (x10_1 + 1))) else (some false)) else (none)) else (none)) else (spec_l19Keys.l0 k1 l0 l0 (l0.length : Int) (wrap64 (x10_1 + 1)))) else (some false)) = some r := H
       have A6 := Aside0.mk A60
       clear A60
       by_cases c7 : t126 = true
       ·subst c7
        have H1 : (if x10_1 > 0 then (if 0 ≤ (wrap64 (x10_1 - 1)) then (if (wrap64 (x10_1 - 1)) < (l0.length : Int) then (if ((Op.bytesLess (((rd_T36 l0 (wrap64 (x10_1 - 1))).f0).toList) (((rd_T36 l0 x10_1).f0).toList)) = true) then (spec_l19Keys.l0 k1 l0 l0 (l0.length : Int) (wrap64 (x10_1 + 1))) else (some false)) else (none)) else (none)) else (spec_l19Keys.l0 k1 l0 l0 (l0.length : Int) (wrap64 (x10_1 + 1)))) = some r := by rw [if_pos rfl] at H; exact H
        clear H
        have H := H1
        clear H1
        by_cases c8 : x10_1 > 0
        ·rw [if_pos c8] at H
         have c8b0 : decide (0 < x10_1) = true := decide_eq_true c8
         clear c8
         obtain ⟨ji9, hji9⟩ : ∃ j_ : Int, (wrap64 (x10_1 - 1)) = j_ := ⟨_, rfl⟩
         replace H : (if 0 ≤ (ji9) then (if (ji9) < (l0.length : Int) then (if ((Op.bytesLess (((rd_T36 l0 (ji9)).f0).toList) (((rd_T36 l0 x10_1).f0).toList)) = true) then (spec_l19Keys.l0 k1 l0 l0 (l0.length : Int) (wrap64 (x10_1 + 1))) else (some false)) else (none)) else (none)) = some r := by first | (rw [hji9] at H; exact H) | (simp only [hji9] at H ⊢; exact H)
         (try rw [hji9] at A6)
         have hji9w : (IntKind.i64.wrap (x10_1 - 1)) = ji9 := (i64_w _).trans hji9
         by_cases c10 : 0 ≤ (ji9)
         ·rw [if_pos c10] at H
          have c10b0 : decide (0 ≤ (ji9)) = true := decide_eq_true c10
          clear c10
          by_cases c11 : (ji9) < (l0.length : Int)
          ·rw [if_pos c11] at H
           have c11b0 : decide ((ji9) < (l0.length : Int)) = true := decide_eq_true c11
           clear c11
           by_cases c12 : ((Op.bytesLess (((rd_T36 l0 (ji9)).f0).toList) (((rd_T36 l0 x10_1).f0).toList)) = true)
           ·rw [if_pos c12] at H
            have c12b0 : (Op.bytesLess (((rd_T36 l0 (ji9)).f0).toList) (((rd_T36 l0 x10_1).f0).toList)) = true := c12
            clear c12
            have H' := Aside0.mk H
            clear H
            have p124 : 0 ≤ (x10_1 : Int) := of_decide_eq_true hE
            have q124 : x10_1 < (l0.length : Int) := of_decide_eq_true hE
            obtain ⟨ad124, A124_1, c124_1, e124, hx124_0, hx124_1, hx124_2, hl124_1, hi124_1⟩ := at_T36 HR0.out x10_1 p124 q124
            cases e124
            replace hx124_0 := (HB.out.cell (World.block_lt_of_cell? w _ hx124_0)).trans hx124_0
            replace hx124_1 := (HB.out.cell (World.block_lt_of_cell? w _ hx124_1)).trans hx124_1
            replace hx124_2 := (HB.out.cell (World.block_lt_of_cell? w _ hx124_2)).trans hx124_2
            have HR124_1 := Aside0.mk hi124_1
            have HC124_1 := Aside0.mk hl124_1
            clear hi124_1 hl124_1
            replace p124 := eq_true p124
            replace q124 := eq_true q124
            go_wp2_with (first | ((with_reducible refine gate_dst (N := 4) rfl ?_); refine box_event rfl (N := 4) rfl (cs := #[.string (⟨#[]⟩ : ByteArray), .slice none 0 0, .bool false]) (t := 36) sE ?_; intro gb125 hg w13 hbox hb; have BK125 := Aside0.mk hbox; have GW125 := gS w hg (lU); have GE125 := gS w hg (lU); replace HB := bH (lU) hb; clear hb hbox hg; have hcz14_0 := cz BK125 0 (.string (⟨#[]⟩ : ByteArray)); have hcz14_1 := cz BK125 1 (.slice none 0 0); have hcz14_2 := cz BK125 2 (.bool false); have hfz14_0 := fz BK125 0; have hfz14_1 := fz BK125 1; have hfz14_2 := fz BK125 2) | ((with_reducible refine gate_store (t := 36) (p := 4) rfl ?_); (try (rw [drewN_self w13]; generalize hq_ : World.drewN w13 _ = w13; replace BK125 := Aside0.mk (blk_at hq_ BK125.out); replace HB := Aside0.mk (below_at hq_ HB.out); clear hq_)); refine store_event (t := 36) (p := 4) (v := ?vo_w15) (w1 := (((w13.setCell ⟨gb125, 0, none⟩ (.string ((rd_T36 l0 x10_1).f0))).setCell ⟨gb125, 1, none⟩ (.slice A124_1 ((rd_T36 l0 x10_1).f1).length c124_1)).setCell ⟨gb125, 2, none⟩ (.bool ((rd_T36 l0 x10_1).f2)))) ?hg ?ho ?hn ?hr ?_; (case ho => rfl); (case hg => rfl); (case hn => rfl); (case hr => first | (go_simp; done) | (go_simp; rfl) | (have hq0_ := (blk_cell BK125.out 0).trans (show _ = some _ from rfl); have hf0_ := blk_frozen BK125.out 0; have hq1_ := (blk_cell BK125.out 1).trans (show _ = some _ from rfl); have hf1_ := blk_frozen BK125.out 1; have hq2_ := (blk_cell BK125.out 2).trans (show _ = some _ from rfl); have hf2_ := blk_frozen BK125.out 2; first | (go_simp; done) | (go_simp; rfl))); intro w15 hw; replace BK125 : Aside0 (w15.heap[gb125]? = some (.cells #[.string ((rd_T36 l0 x10_1).f0), .slice A124_1 ((rd_T36 l0 x10_1).f1).length c124_1, .bool ((rd_T36 l0 x10_1).f2)] 36 (0, 0))) := ⟨(by rw [hw]; exact (by refine bU ?_; refine blk_put (cs := #[.string ((rd_T36 l0 x10_1).f0), .slice A124_1 ((rd_T36 l0 x10_1).f1).length c124_1, .bool false]) ?_ 2 _ rfl; refine bU ?_; refine blk_put (cs := #[.string ((rd_T36 l0 x10_1).f0), .slice none 0 0, .bool false]) ?_ 1 _ rfl; refine bU ?_; refine blk_put (cs := #[.string (⟨#[]⟩ : ByteArray), .slice none 0 0, .bool false]) ?_ 0 _ rfl; refine bU ?_; exact BK125.out))⟩; replace HB : Aside0 (Below w.heap.size w w15) := ⟨(by rw [hw]; exact (lV1 GE125))⟩; clear hw; have hcz16_0 := cz BK125 0 (.string ((rd_T36 l0 x10_1).f0)); have hcz16_1 := cz BK125 1 (.slice A124_1 ((rd_T36 l0 x10_1).f1).length c124_1); have hcz16_2 := cz BK125 2 (.bool ((rd_T36 l0 x10_1).f2)); have hfz16_0 := fz BK125 0; have hfz16_1 := fz BK125 1; have hfz16_2 := fz BK125 2) | (go_at_call 21; (with_reducible refine (spec_GoodName.calls k1 ((rd_T36 l0 x10_1).f0) true _ A6.out).mono ?_); rintro e w' ⟨rfl, ⟨nd, rfl⟩⟩; (try first | exact ⟨rfl, _, World.drewN_drewN _ _ _⟩ | exact ⟨rfl, _, Eq.trans (World.drewN_drewN _ _ _) (congrArg (World.drewN _) (Nat.add_assoc _ _ _))⟩); have p127 : 0 ≤ ((ji9) : Int) := of_decide_eq_true hE; have q127 : (ji9) < (l0.length : Int) := of_decide_eq_true hE; obtain ⟨ad127, A127_1, c127_1, e127, hx127_0, hx127_1, hx127_2, hl127_1, hi127_1⟩ := at_T36 HR0.out (ji9) p127 q127; obtain rfl : ad124 = ad127 := (by injection e127); replace hx127_0 := (HB.out.cell (World.block_lt_of_cell? w _ hx127_0)).trans hx127_0; replace hx127_1 := (HB.out.cell (World.block_lt_of_cell? w _ hx127_1)).trans hx127_1; replace hx127_2 := (HB.out.cell (World.block_lt_of_cell? w _ hx127_2)).trans hx127_2; have HR127_1 := Aside0.mk hi127_1; have HC127_1 := Aside0.mk hl127_1; clear hi127_1 hl127_1; replace p127 := eq_true p127; replace q127 := eq_true q127))
            repeat (go_quiet (first | ((with_reducible refine gate_dst (N := 4) rfl ?_); refine box_event rfl (N := 4) rfl (cs := #[.string (⟨#[]⟩ : ByteArray), .slice none 0 0, .bool false]) (t := 36) sE ?_; intro gb125 hg w13 hbox hb; have BK125 := Aside0.mk hbox; have GW125 := gS w hg (lU); have GE125 := gS w hg (lU); replace HB := bH (lU) hb; clear hb hbox hg; have hcz14_0 := cz BK125 0 (.string (⟨#[]⟩ : ByteArray)); have hcz14_1 := cz BK125 1 (.slice none 0 0); have hcz14_2 := cz BK125 2 (.bool false); have hfz14_0 := fz BK125 0; have hfz14_1 := fz BK125 1; have hfz14_2 := fz BK125 2) | ((with_reducible refine gate_store (t := 36) (p := 4) rfl ?_); (try (rw [drewN_self w13]; generalize hq_ : World.drewN w13 _ = w13; replace BK125 := Aside0.mk (blk_at hq_ BK125.out); replace HB := Aside0.mk (below_at hq_ HB.out); clear hq_)); refine store_event (t := 36) (p := 4) (v := ?vo_w15) (w1 := (((w13.setCell ⟨gb125, 0, none⟩ (.string ((rd_T36 l0 x10_1).f0))).setCell ⟨gb125, 1, none⟩ (.slice A124_1 ((rd_T36 l0 x10_1).f1).length c124_1)).setCell ⟨gb125, 2, none⟩ (.bool ((rd_T36 l0 x10_1).f2)))) ?hg ?ho ?hn ?hr ?_; (case ho => rfl); (case hg => rfl); (case hn => rfl); (case hr => first | (go_simp; done) | (go_simp; rfl) | (have hq0_ := (blk_cell BK125.out 0).trans (show _ = some _ from rfl); have hf0_ := blk_frozen BK125.out 0; have hq1_ := (blk_cell BK125.out 1).trans (show _ = some _ from rfl); have hf1_ := blk_frozen BK125.out 1; have hq2_ := (blk_cell BK125.out 2).trans (show _ = some _ from rfl); have hf2_ := blk_frozen BK125.out 2; first | (go_simp; done) | (go_simp; rfl))); intro w15 hw; replace BK125 : Aside0 (w15.heap[gb125]? = some (.cells #[.string ((rd_T36 l0 x10_1).f0), .slice A124_1 ((rd_T36 l0 x10_1).f1).length c124_1, .bool ((rd_T36 l0 x10_1).f2)] 36 (0, 0))) := ⟨(by rw [hw]; exact (by refine bU ?_; refine blk_put (cs := #[.string ((rd_T36 l0 x10_1).f0), .slice A124_1 ((rd_T36 l0 x10_1).f1).length c124_1, .bool false]) ?_ 2 _ rfl; refine bU ?_; refine blk_put (cs := #[.string ((rd_T36 l0 x10_1).f0), .slice none 0 0, .bool false]) ?_ 1 _ rfl; refine bU ?_; refine blk_put (cs := #[.string (⟨#[]⟩ : ByteArray), .slice none 0 0, .bool false]) ?_ 0 _ rfl; refine bU ?_; exact BK125.out))⟩; replace HB : Aside0 (Below w.heap.size w w15) := ⟨(by rw [hw]; exact (lV1 GE125))⟩; clear hw; have hcz16_0 := cz BK125 0 (.string ((rd_T36 l0 x10_1).f0)); have hcz16_1 := cz BK125 1 (.slice A124_1 ((rd_T36 l0 x10_1).f1).length c124_1); have hcz16_2 := cz BK125 2 (.bool ((rd_T36 l0 x10_1).f2)); have hfz16_0 := fz BK125 0; have hfz16_1 := fz BK125 1; have hfz16_2 := fz BK125 2) | (go_at_call 21; (with_reducible refine (spec_GoodName.calls k1 ((rd_T36 l0 x10_1).f0) true _ A6.out).mono ?_); rintro e w' ⟨rfl, ⟨nd, rfl⟩⟩; (try first | exact ⟨rfl, _, World.drewN_drewN _ _ _⟩ | exact ⟨rfl, _, Eq.trans (World.drewN_drewN _ _ _) (congrArg (World.drewN _) (Nat.add_assoc _ _ _))⟩); have p127 : 0 ≤ ((ji9) : Int) := of_decide_eq_true hE; have q127 : (ji9) < (l0.length : Int) := of_decide_eq_true hE; obtain ⟨ad127, A127_1, c127_1, e127, hx127_0, hx127_1, hx127_2, hl127_1, hi127_1⟩ := at_T36 HR0.out (ji9) p127 q127; obtain rfl : ad124 = ad127 := (by injection e127); replace hx127_0 := (HB.out.cell (World.block_lt_of_cell? w _ hx127_0)).trans hx127_0; replace hx127_1 := (HB.out.cell (World.block_lt_of_cell? w _ hx127_1)).trans hx127_1; replace hx127_2 := (HB.out.cell (World.block_lt_of_cell? w _ hx127_2)).trans hx127_2; have HR127_1 := Aside0.mk hi127_1; have HC127_1 := Aside0.mk hl127_1; clear hi127_1 hl127_1; replace p127 := eq_true p127; replace q127 := eq_true q127)); try go_wp2_with (first | ((with_reducible refine gate_dst (N := 4) rfl ?_); refine box_event rfl (N := 4) rfl (cs := #[.string (⟨#[]⟩ : ByteArray), .slice none 0 0, .bool false]) (t := 36) sE ?_; intro gb125 hg w13 hbox hb; have BK125 := Aside0.mk hbox; have GW125 := gS w hg (lU); have GE125 := gS w hg (lU); replace HB := bH (lU) hb; clear hb hbox hg; have hcz14_0 := cz BK125 0 (.string (⟨#[]⟩ : ByteArray)); have hcz14_1 := cz BK125 1 (.slice none 0 0); have hcz14_2 := cz BK125 2 (.bool false); have hfz14_0 := fz BK125 0; have hfz14_1 := fz BK125 1; have hfz14_2 := fz BK125 2) | ((with_reducible refine gate_store (t := 36) (p := 4) rfl ?_); (try (rw [drewN_self w13]; generalize hq_ : World.drewN w13 _ = w13; replace BK125 := Aside0.mk (blk_at hq_ BK125.out); replace HB := Aside0.mk (below_at hq_ HB.out); clear hq_)); refine store_event (t := 36) (p := 4) (v := ?vo_w15) (w1 := (((w13.setCell ⟨gb125, 0, none⟩ (.string ((rd_T36 l0 x10_1).f0))).setCell ⟨gb125, 1, none⟩ (.slice A124_1 ((rd_T36 l0 x10_1).f1).length c124_1)).setCell ⟨gb125, 2, none⟩ (.bool ((rd_T36 l0 x10_1).f2)))) ?hg ?ho ?hn ?hr ?_; (case ho => rfl); (case hg => rfl); (case hn => rfl); (case hr => first | (go_simp; done) | (go_simp; rfl) | (have hq0_ := (blk_cell BK125.out 0).trans (show _ = some _ from rfl); have hf0_ := blk_frozen BK125.out 0; have hq1_ := (blk_cell BK125.out 1).trans (show _ = some _ from rfl); have hf1_ := blk_frozen BK125.out 1; have hq2_ := (blk_cell BK125.out 2).trans (show _ = some _ from rfl); have hf2_ := blk_frozen BK125.out 2; first | (go_simp; done) | (go_simp; rfl))); intro w15 hw; replace BK125 : Aside0 (w15.heap[gb125]? = some (.cells #[.string ((rd_T36 l0 x10_1).f0), .slice A124_1 ((rd_T36 l0 x10_1).f1).length c124_1, .bool ((rd_T36 l0 x10_1).f2)] 36 (0, 0))) := ⟨(by rw [hw]; exact (by refine bU ?_; refine blk_put (cs := #[.string ((rd_T36 l0 x10_1).f0), .slice A124_1 ((rd_T36 l0 x10_1).f1).length c124_1, .bool false]) ?_ 2 _ rfl; refine bU ?_; refine blk_put (cs := #[.string ((rd_T36 l0 x10_1).f0), .slice none 0 0, .bool false]) ?_ 1 _ rfl; refine bU ?_; refine blk_put (cs := #[.string (⟨#[]⟩ : ByteArray), .slice none 0 0, .bool false]) ?_ 0 _ rfl; refine bU ?_; exact BK125.out))⟩; replace HB : Aside0 (Below w.heap.size w w15) := ⟨(by rw [hw]; exact (lV1 GE125))⟩; clear hw; have hcz16_0 := cz BK125 0 (.string ((rd_T36 l0 x10_1).f0)); have hcz16_1 := cz BK125 1 (.slice A124_1 ((rd_T36 l0 x10_1).f1).length c124_1); have hcz16_2 := cz BK125 2 (.bool ((rd_T36 l0 x10_1).f2)); have hfz16_0 := fz BK125 0; have hfz16_1 := fz BK125 1; have hfz16_2 := fz BK125 2) | (go_at_call 21; (with_reducible refine (spec_GoodName.calls k1 ((rd_T36 l0 x10_1).f0) true _ A6.out).mono ?_); rintro e w' ⟨rfl, ⟨nd, rfl⟩⟩; (try first | exact ⟨rfl, _, World.drewN_drewN _ _ _⟩ | exact ⟨rfl, _, Eq.trans (World.drewN_drewN _ _ _) (congrArg (World.drewN _) (Nat.add_assoc _ _ _))⟩); have p127 : 0 ≤ ((ji9) : Int) := of_decide_eq_true hE; have q127 : (ji9) < (l0.length : Int) := of_decide_eq_true hE; obtain ⟨ad127, A127_1, c127_1, e127, hx127_0, hx127_1, hx127_2, hl127_1, hi127_1⟩ := at_T36 HR0.out (ji9) p127 q127; obtain rfl : ad124 = ad127 := (by injection e127); replace hx127_0 := (HB.out.cell (World.block_lt_of_cell? w _ hx127_0)).trans hx127_0; replace hx127_1 := (HB.out.cell (World.block_lt_of_cell? w _ hx127_1)).trans hx127_1; replace hx127_2 := (HB.out.cell (World.block_lt_of_cell? w _ hx127_2)).trans hx127_2; have HR127_1 := Aside0.mk hi127_1; have HC127_1 := Aside0.mk hl127_1; clear hi127_1 hl127_1; replace p127 := eq_true p127; replace q127 := eq_true q127)))
            go_roundg k1
            case measure => have := HK1.out; omega
            case rel => exact ⟨(wrap64 (x10_1 + 1)), tE, H', ⟨by have := HK1.out; omega⟩, ⟨by repeat (first | (with_reducible first | exact HB.out | apply below_alloc | apply pw_below_drewN | apply below_drew1 | refine below_set ?_ GE125.out) | exact HB.out)⟩⟩
           ·rw [if_neg c12] at H
            have c12b0 : (Op.bytesLess (((rd_T36 l0 (ji9)).f0).toList) (((rd_T36 l0 x10_1).f0).toList)) = false := by simpa using c12
            clear c12
            obtain rfl := Option.some.inj H
            have p124 : 0 ≤ (x10_1 : Int) := of_decide_eq_true hE
            have q124 : x10_1 < (l0.length : Int) := of_decide_eq_true hE
            obtain ⟨ad124, A124_1, c124_1, e124, hx124_0, hx124_1, hx124_2, hl124_1, hi124_1⟩ := at_T36 HR0.out x10_1 p124 q124
            cases e124
            replace hx124_0 := (HB.out.cell (World.block_lt_of_cell? w _ hx124_0)).trans hx124_0
            replace hx124_1 := (HB.out.cell (World.block_lt_of_cell? w _ hx124_1)).trans hx124_1
            replace hx124_2 := (HB.out.cell (World.block_lt_of_cell? w _ hx124_2)).trans hx124_2
            have HR124_1 := Aside0.mk hi124_1
            have HC124_1 := Aside0.mk hl124_1
            clear hi124_1 hl124_1
            replace p124 := eq_true p124
            replace q124 := eq_true q124
            go_wp2_with (first | ((with_reducible refine gate_dst (N := 4) rfl ?_); refine box_event rfl (N := 4) rfl (cs := #[.string (⟨#[]⟩ : ByteArray), .slice none 0 0, .bool false]) (t := 36) sE ?_; intro gb125 hg w17 hbox hb; have BK125 := Aside0.mk hbox; have GW125 := gS w hg (lU); have GE125 := gS w hg (lU); replace HB := bH (lU) hb; clear hb hbox hg; have hcz18_0 := cz BK125 0 (.string (⟨#[]⟩ : ByteArray)); have hcz18_1 := cz BK125 1 (.slice none 0 0); have hcz18_2 := cz BK125 2 (.bool false); have hfz18_0 := fz BK125 0; have hfz18_1 := fz BK125 1; have hfz18_2 := fz BK125 2) | ((with_reducible refine gate_store (t := 36) (p := 4) rfl ?_); (try (rw [drewN_self w17]; generalize hq_ : World.drewN w17 _ = w17; replace BK125 := Aside0.mk (blk_at hq_ BK125.out); replace HB := Aside0.mk (below_at hq_ HB.out); clear hq_)); refine store_event (t := 36) (p := 4) (v := ?vo_w19) (w1 := (((w17.setCell ⟨gb125, 0, none⟩ (.string ((rd_T36 l0 x10_1).f0))).setCell ⟨gb125, 1, none⟩ (.slice A124_1 ((rd_T36 l0 x10_1).f1).length c124_1)).setCell ⟨gb125, 2, none⟩ (.bool ((rd_T36 l0 x10_1).f2)))) ?hg ?ho ?hn ?hr ?_; (case ho => rfl); (case hg => rfl); (case hn => rfl); (case hr => first | (go_simp; done) | (go_simp; rfl) | (have hq0_ := (blk_cell BK125.out 0).trans (show _ = some _ from rfl); have hf0_ := blk_frozen BK125.out 0; have hq1_ := (blk_cell BK125.out 1).trans (show _ = some _ from rfl); have hf1_ := blk_frozen BK125.out 1; have hq2_ := (blk_cell BK125.out 2).trans (show _ = some _ from rfl); have hf2_ := blk_frozen BK125.out 2; first | (go_simp; done) | (go_simp; rfl))); intro w19 hw; replace BK125 : Aside0 (w19.heap[gb125]? = some (.cells #[.string ((rd_T36 l0 x10_1).f0), .slice A124_1 ((rd_T36 l0 x10_1).f1).length c124_1, .bool ((rd_T36 l0 x10_1).f2)] 36 (0, 0))) := ⟨(by rw [hw]; exact (by refine bU ?_; refine blk_put (cs := #[.string ((rd_T36 l0 x10_1).f0), .slice A124_1 ((rd_T36 l0 x10_1).f1).length c124_1, .bool false]) ?_ 2 _ rfl; refine bU ?_; refine blk_put (cs := #[.string ((rd_T36 l0 x10_1).f0), .slice none 0 0, .bool false]) ?_ 1 _ rfl; refine bU ?_; refine blk_put (cs := #[.string (⟨#[]⟩ : ByteArray), .slice none 0 0, .bool false]) ?_ 0 _ rfl; refine bU ?_; exact BK125.out))⟩; replace HB : Aside0 (Below w.heap.size w w19) := ⟨(by rw [hw]; exact (lV1 GE125))⟩; clear hw; have hcz20_0 := cz BK125 0 (.string ((rd_T36 l0 x10_1).f0)); have hcz20_1 := cz BK125 1 (.slice A124_1 ((rd_T36 l0 x10_1).f1).length c124_1); have hcz20_2 := cz BK125 2 (.bool ((rd_T36 l0 x10_1).f2)); have hfz20_0 := fz BK125 0; have hfz20_1 := fz BK125 1; have hfz20_2 := fz BK125 2) | (go_at_call 21; (with_reducible refine (spec_GoodName.calls k1 ((rd_T36 l0 x10_1).f0) true _ A6.out).mono ?_); rintro e w' ⟨rfl, ⟨nd, rfl⟩⟩; (try first | exact ⟨rfl, _, World.drewN_drewN _ _ _⟩ | exact ⟨rfl, _, Eq.trans (World.drewN_drewN _ _ _) (congrArg (World.drewN _) (Nat.add_assoc _ _ _))⟩); have p127 : 0 ≤ ((ji9) : Int) := of_decide_eq_true hE; have q127 : (ji9) < (l0.length : Int) := of_decide_eq_true hE; obtain ⟨ad127, A127_1, c127_1, e127, hx127_0, hx127_1, hx127_2, hl127_1, hi127_1⟩ := at_T36 HR0.out (ji9) p127 q127; obtain rfl : ad124 = ad127 := (by injection e127); replace hx127_0 := (HB.out.cell (World.block_lt_of_cell? w _ hx127_0)).trans hx127_0; replace hx127_1 := (HB.out.cell (World.block_lt_of_cell? w _ hx127_1)).trans hx127_1; replace hx127_2 := (HB.out.cell (World.block_lt_of_cell? w _ hx127_2)).trans hx127_2; have HR127_1 := Aside0.mk hi127_1; have HC127_1 := Aside0.mk hl127_1; clear hi127_1 hl127_1; replace p127 := eq_true p127; replace q127 := eq_true q127))
            repeat (go_quiet (first | ((with_reducible refine gate_dst (N := 4) rfl ?_); refine box_event rfl (N := 4) rfl (cs := #[.string (⟨#[]⟩ : ByteArray), .slice none 0 0, .bool false]) (t := 36) sE ?_; intro gb125 hg w17 hbox hb; have BK125 := Aside0.mk hbox; have GW125 := gS w hg (lU); have GE125 := gS w hg (lU); replace HB := bH (lU) hb; clear hb hbox hg; have hcz18_0 := cz BK125 0 (.string (⟨#[]⟩ : ByteArray)); have hcz18_1 := cz BK125 1 (.slice none 0 0); have hcz18_2 := cz BK125 2 (.bool false); have hfz18_0 := fz BK125 0; have hfz18_1 := fz BK125 1; have hfz18_2 := fz BK125 2) | ((with_reducible refine gate_store (t := 36) (p := 4) rfl ?_); (try (rw [drewN_self w17]; generalize hq_ : World.drewN w17 _ = w17; replace BK125 := Aside0.mk (blk_at hq_ BK125.out); replace HB := Aside0.mk (below_at hq_ HB.out); clear hq_)); refine store_event (t := 36) (p := 4) (v := ?vo_w19) (w1 := (((w17.setCell ⟨gb125, 0, none⟩ (.string ((rd_T36 l0 x10_1).f0))).setCell ⟨gb125, 1, none⟩ (.slice A124_1 ((rd_T36 l0 x10_1).f1).length c124_1)).setCell ⟨gb125, 2, none⟩ (.bool ((rd_T36 l0 x10_1).f2)))) ?hg ?ho ?hn ?hr ?_; (case ho => rfl); (case hg => rfl); (case hn => rfl); (case hr => first | (go_simp; done) | (go_simp; rfl) | (have hq0_ := (blk_cell BK125.out 0).trans (show _ = some _ from rfl); have hf0_ := blk_frozen BK125.out 0; have hq1_ := (blk_cell BK125.out 1).trans (show _ = some _ from rfl); have hf1_ := blk_frozen BK125.out 1; have hq2_ := (blk_cell BK125.out 2).trans (show _ = some _ from rfl); have hf2_ := blk_frozen BK125.out 2; first | (go_simp; done) | (go_simp; rfl))); intro w19 hw; replace BK125 : Aside0 (w19.heap[gb125]? = some (.cells #[.string ((rd_T36 l0 x10_1).f0), .slice A124_1 ((rd_T36 l0 x10_1).f1).length c124_1, .bool ((rd_T36 l0 x10_1).f2)] 36 (0, 0))) := ⟨(by rw [hw]; exact (by refine bU ?_; refine blk_put (cs := #[.string ((rd_T36 l0 x10_1).f0), .slice A124_1 ((rd_T36 l0 x10_1).f1).length c124_1, .bool false]) ?_ 2 _ rfl; refine bU ?_; refine blk_put (cs := #[.string ((rd_T36 l0 x10_1).f0), .slice none 0 0, .bool false]) ?_ 1 _ rfl; refine bU ?_; refine blk_put (cs := #[.string (⟨#[]⟩ : ByteArray), .slice none 0 0, .bool false]) ?_ 0 _ rfl; refine bU ?_; exact BK125.out))⟩; replace HB : Aside0 (Below w.heap.size w w19) := ⟨(by rw [hw]; exact (lV1 GE125))⟩; clear hw; have hcz20_0 := cz BK125 0 (.string ((rd_T36 l0 x10_1).f0)); have hcz20_1 := cz BK125 1 (.slice A124_1 ((rd_T36 l0 x10_1).f1).length c124_1); have hcz20_2 := cz BK125 2 (.bool ((rd_T36 l0 x10_1).f2)); have hfz20_0 := fz BK125 0; have hfz20_1 := fz BK125 1; have hfz20_2 := fz BK125 2) | (go_at_call 21; (with_reducible refine (spec_GoodName.calls k1 ((rd_T36 l0 x10_1).f0) true _ A6.out).mono ?_); rintro e w' ⟨rfl, ⟨nd, rfl⟩⟩; (try first | exact ⟨rfl, _, World.drewN_drewN _ _ _⟩ | exact ⟨rfl, _, Eq.trans (World.drewN_drewN _ _ _) (congrArg (World.drewN _) (Nat.add_assoc _ _ _))⟩); have p127 : 0 ≤ ((ji9) : Int) := of_decide_eq_true hE; have q127 : (ji9) < (l0.length : Int) := of_decide_eq_true hE; obtain ⟨ad127, A127_1, c127_1, e127, hx127_0, hx127_1, hx127_2, hl127_1, hi127_1⟩ := at_T36 HR0.out (ji9) p127 q127; obtain rfl : ad124 = ad127 := (by injection e127); replace hx127_0 := (HB.out.cell (World.block_lt_of_cell? w _ hx127_0)).trans hx127_0; replace hx127_1 := (HB.out.cell (World.block_lt_of_cell? w _ hx127_1)).trans hx127_1; replace hx127_2 := (HB.out.cell (World.block_lt_of_cell? w _ hx127_2)).trans hx127_2; have HR127_1 := Aside0.mk hi127_1; have HC127_1 := Aside0.mk hl127_1; clear hi127_1 hl127_1; replace p127 := eq_true p127; replace q127 := eq_true q127)); try go_wp2_with (first | ((with_reducible refine gate_dst (N := 4) rfl ?_); refine box_event rfl (N := 4) rfl (cs := #[.string (⟨#[]⟩ : ByteArray), .slice none 0 0, .bool false]) (t := 36) sE ?_; intro gb125 hg w17 hbox hb; have BK125 := Aside0.mk hbox; have GW125 := gS w hg (lU); have GE125 := gS w hg (lU); replace HB := bH (lU) hb; clear hb hbox hg; have hcz18_0 := cz BK125 0 (.string (⟨#[]⟩ : ByteArray)); have hcz18_1 := cz BK125 1 (.slice none 0 0); have hcz18_2 := cz BK125 2 (.bool false); have hfz18_0 := fz BK125 0; have hfz18_1 := fz BK125 1; have hfz18_2 := fz BK125 2) | ((with_reducible refine gate_store (t := 36) (p := 4) rfl ?_); (try (rw [drewN_self w17]; generalize hq_ : World.drewN w17 _ = w17; replace BK125 := Aside0.mk (blk_at hq_ BK125.out); replace HB := Aside0.mk (below_at hq_ HB.out); clear hq_)); refine store_event (t := 36) (p := 4) (v := ?vo_w19) (w1 := (((w17.setCell ⟨gb125, 0, none⟩ (.string ((rd_T36 l0 x10_1).f0))).setCell ⟨gb125, 1, none⟩ (.slice A124_1 ((rd_T36 l0 x10_1).f1).length c124_1)).setCell ⟨gb125, 2, none⟩ (.bool ((rd_T36 l0 x10_1).f2)))) ?hg ?ho ?hn ?hr ?_; (case ho => rfl); (case hg => rfl); (case hn => rfl); (case hr => first | (go_simp; done) | (go_simp; rfl) | (have hq0_ := (blk_cell BK125.out 0).trans (show _ = some _ from rfl); have hf0_ := blk_frozen BK125.out 0; have hq1_ := (blk_cell BK125.out 1).trans (show _ = some _ from rfl); have hf1_ := blk_frozen BK125.out 1; have hq2_ := (blk_cell BK125.out 2).trans (show _ = some _ from rfl); have hf2_ := blk_frozen BK125.out 2; first | (go_simp; done) | (go_simp; rfl))); intro w19 hw; replace BK125 : Aside0 (w19.heap[gb125]? = some (.cells #[.string ((rd_T36 l0 x10_1).f0), .slice A124_1 ((rd_T36 l0 x10_1).f1).length c124_1, .bool ((rd_T36 l0 x10_1).f2)] 36 (0, 0))) := ⟨(by rw [hw]; exact (by refine bU ?_; refine blk_put (cs := #[.string ((rd_T36 l0 x10_1).f0), .slice A124_1 ((rd_T36 l0 x10_1).f1).length c124_1, .bool false]) ?_ 2 _ rfl; refine bU ?_; refine blk_put (cs := #[.string ((rd_T36 l0 x10_1).f0), .slice none 0 0, .bool false]) ?_ 1 _ rfl; refine bU ?_; refine blk_put (cs := #[.string (⟨#[]⟩ : ByteArray), .slice none 0 0, .bool false]) ?_ 0 _ rfl; refine bU ?_; exact BK125.out))⟩; replace HB : Aside0 (Below w.heap.size w w19) := ⟨(by rw [hw]; exact (lV1 GE125))⟩; clear hw; have hcz20_0 := cz BK125 0 (.string ((rd_T36 l0 x10_1).f0)); have hcz20_1 := cz BK125 1 (.slice A124_1 ((rd_T36 l0 x10_1).f1).length c124_1); have hcz20_2 := cz BK125 2 (.bool ((rd_T36 l0 x10_1).f2)); have hfz20_0 := fz BK125 0; have hfz20_1 := fz BK125 1; have hfz20_2 := fz BK125 2) | (go_at_call 21; (with_reducible refine (spec_GoodName.calls k1 ((rd_T36 l0 x10_1).f0) true _ A6.out).mono ?_); rintro e w' ⟨rfl, ⟨nd, rfl⟩⟩; (try first | exact ⟨rfl, _, World.drewN_drewN _ _ _⟩ | exact ⟨rfl, _, Eq.trans (World.drewN_drewN _ _ _) (congrArg (World.drewN _) (Nat.add_assoc _ _ _))⟩); have p127 : 0 ≤ ((ji9) : Int) := of_decide_eq_true hE; have q127 : (ji9) < (l0.length : Int) := of_decide_eq_true hE; obtain ⟨ad127, A127_1, c127_1, e127, hx127_0, hx127_1, hx127_2, hl127_1, hi127_1⟩ := at_T36 HR0.out (ji9) p127 q127; obtain rfl : ad124 = ad127 := (by injection e127); replace hx127_0 := (HB.out.cell (World.block_lt_of_cell? w _ hx127_0)).trans hx127_0; replace hx127_1 := (HB.out.cell (World.block_lt_of_cell? w _ hx127_1)).trans hx127_1; replace hx127_2 := (HB.out.cell (World.block_lt_of_cell? w _ hx127_2)).trans hx127_2; have HR127_1 := Aside0.mk hi127_1; have HC127_1 := Aside0.mk hl127_1; clear hi127_1 hl127_1; replace p127 := eq_true p127; replace q127 := eq_true q127)))
            go_ret
            exact ⟨by first | rfl | (simp [errW_none, errW_some] <;> rfl) | (simp only [← hji9]; first | rfl | (simp [errW_none, errW_some] <;> rfl)) | (simp [*, errW_none, errW_some] <;> rfl), lV1 GE125⟩
          ·rw [if_neg c11] at H
           exact absurd H (by simp)
         ·rw [if_neg c10] at H
          exact absurd H (by simp)
        ·rw [if_neg c8] at H
         have c8b0 : decide (0 < x10_1) = false := decide_eq_false c8
         clear c8
         have H' := Aside0.mk H
         clear H
         have p124 : 0 ≤ (x10_1 : Int) := of_decide_eq_true hE
         have q124 : x10_1 < (l0.length : Int) := of_decide_eq_true hE
         obtain ⟨ad124, A124_1, c124_1, e124, hx124_0, hx124_1, hx124_2, hl124_1, hi124_1⟩ := at_T36 HR0.out x10_1 p124 q124
         cases e124
         replace hx124_0 := (HB.out.cell (World.block_lt_of_cell? w _ hx124_0)).trans hx124_0
         replace hx124_1 := (HB.out.cell (World.block_lt_of_cell? w _ hx124_1)).trans hx124_1
         replace hx124_2 := (HB.out.cell (World.block_lt_of_cell? w _ hx124_2)).trans hx124_2
         have HR124_1 := Aside0.mk hi124_1
         have HC124_1 := Aside0.mk hl124_1
         clear hi124_1 hl124_1
         replace p124 := eq_true p124
         replace q124 := eq_true q124
         go_wp2_with (first | ((with_reducible refine gate_dst (N := 4) rfl ?_); refine box_event rfl (N := 4) rfl (cs := #[.string (⟨#[]⟩ : ByteArray), .slice none 0 0, .bool false]) (t := 36) sE ?_; intro gb125 hg w21 hbox hb; have BK125 := Aside0.mk hbox; have GW125 := gS w hg (lU); have GE125 := gS w hg (lU); replace HB := bH (lU) hb; clear hb hbox hg; have hcz22_0 := cz BK125 0 (.string (⟨#[]⟩ : ByteArray)); have hcz22_1 := cz BK125 1 (.slice none 0 0); have hcz22_2 := cz BK125 2 (.bool false); have hfz22_0 := fz BK125 0; have hfz22_1 := fz BK125 1; have hfz22_2 := fz BK125 2) | ((with_reducible refine gate_store (t := 36) (p := 4) rfl ?_); (try (rw [drewN_self w21]; generalize hq_ : World.drewN w21 _ = w21; replace BK125 := Aside0.mk (blk_at hq_ BK125.out); replace HB := Aside0.mk (below_at hq_ HB.out); clear hq_)); refine store_event (t := 36) (p := 4) (v := ?vo_w23) (w1 := (((w21.setCell ⟨gb125, 0, none⟩ (.string ((rd_T36 l0 x10_1).f0))).setCell ⟨gb125, 1, none⟩ (.slice A124_1 ((rd_T36 l0 x10_1).f1).length c124_1)).setCell ⟨gb125, 2, none⟩ (.bool ((rd_T36 l0 x10_1).f2)))) ?hg ?ho ?hn ?hr ?_; (case ho => rfl); (case hg => rfl); (case hn => rfl); (case hr => first | (go_simp; done) | (go_simp; rfl) | (have hq0_ := (blk_cell BK125.out 0).trans (show _ = some _ from rfl); have hf0_ := blk_frozen BK125.out 0; have hq1_ := (blk_cell BK125.out 1).trans (show _ = some _ from rfl); have hf1_ := blk_frozen BK125.out 1; have hq2_ := (blk_cell BK125.out 2).trans (show _ = some _ from rfl); have hf2_ := blk_frozen BK125.out 2; first | (go_simp; done) | (go_simp; rfl))); intro w23 hw; replace BK125 : Aside0 (w23.heap[gb125]? = some (.cells #[.string ((rd_T36 l0 x10_1).f0), .slice A124_1 ((rd_T36 l0 x10_1).f1).length c124_1, .bool ((rd_T36 l0 x10_1).f2)] 36 (0, 0))) := ⟨(by rw [hw]; exact (by refine bU ?_; refine blk_put (cs := #[.string ((rd_T36 l0 x10_1).f0), .slice A124_1 ((rd_T36 l0 x10_1).f1).length c124_1, .bool false]) ?_ 2 _ rfl; refine bU ?_; refine blk_put (cs := #[.string ((rd_T36 l0 x10_1).f0), .slice none 0 0, .bool false]) ?_ 1 _ rfl; refine bU ?_; refine blk_put (cs := #[.string (⟨#[]⟩ : ByteArray), .slice none 0 0, .bool false]) ?_ 0 _ rfl; refine bU ?_; exact BK125.out))⟩; replace HB : Aside0 (Below w.heap.size w w23) := ⟨(by rw [hw]; exact (lV1 GE125))⟩; clear hw; have hcz24_0 := cz BK125 0 (.string ((rd_T36 l0 x10_1).f0)); have hcz24_1 := cz BK125 1 (.slice A124_1 ((rd_T36 l0 x10_1).f1).length c124_1); have hcz24_2 := cz BK125 2 (.bool ((rd_T36 l0 x10_1).f2)); have hfz24_0 := fz BK125 0; have hfz24_1 := fz BK125 1; have hfz24_2 := fz BK125 2) | (go_at_call 21; (with_reducible refine (spec_GoodName.calls k1 ((rd_T36 l0 x10_1).f0) true _ A6.out).mono ?_); rintro e w' ⟨rfl, ⟨nd, rfl⟩⟩; (try first | exact ⟨rfl, _, World.drewN_drewN _ _ _⟩ | exact ⟨rfl, _, Eq.trans (World.drewN_drewN _ _ _) (congrArg (World.drewN _) (Nat.add_assoc _ _ _))⟩)))
         repeat (go_quiet (first | ((with_reducible refine gate_dst (N := 4) rfl ?_); refine box_event rfl (N := 4) rfl (cs := #[.string (⟨#[]⟩ : ByteArray), .slice none 0 0, .bool false]) (t := 36) sE ?_; intro gb125 hg w21 hbox hb; have BK125 := Aside0.mk hbox; have GW125 := gS w hg (lU); have GE125 := gS w hg (lU); replace HB := bH (lU) hb; clear hb hbox hg; have hcz22_0 := cz BK125 0 (.string (⟨#[]⟩ : ByteArray)); have hcz22_1 := cz BK125 1 (.slice none 0 0); have hcz22_2 := cz BK125 2 (.bool false); have hfz22_0 := fz BK125 0; have hfz22_1 := fz BK125 1; have hfz22_2 := fz BK125 2) | ((with_reducible refine gate_store (t := 36) (p := 4) rfl ?_); (try (rw [drewN_self w21]; generalize hq_ : World.drewN w21 _ = w21; replace BK125 := Aside0.mk (blk_at hq_ BK125.out); replace HB := Aside0.mk (below_at hq_ HB.out); clear hq_)); refine store_event (t := 36) (p := 4) (v := ?vo_w23) (w1 := (((w21.setCell ⟨gb125, 0, none⟩ (.string ((rd_T36 l0 x10_1).f0))).setCell ⟨gb125, 1, none⟩ (.slice A124_1 ((rd_T36 l0 x10_1).f1).length c124_1)).setCell ⟨gb125, 2, none⟩ (.bool ((rd_T36 l0 x10_1).f2)))) ?hg ?ho ?hn ?hr ?_; (case ho => rfl); (case hg => rfl); (case hn => rfl); (case hr => first | (go_simp; done) | (go_simp; rfl) | (have hq0_ := (blk_cell BK125.out 0).trans (show _ = some _ from rfl); have hf0_ := blk_frozen BK125.out 0; have hq1_ := (blk_cell BK125.out 1).trans (show _ = some _ from rfl); have hf1_ := blk_frozen BK125.out 1; have hq2_ := (blk_cell BK125.out 2).trans (show _ = some _ from rfl); have hf2_ := blk_frozen BK125.out 2; first | (go_simp; done) | (go_simp; rfl))); intro w23 hw; replace BK125 : Aside0 (w23.heap[gb125]? = some (.cells #[.string ((rd_T36 l0 x10_1).f0), .slice A124_1 ((rd_T36 l0 x10_1).f1).length c124_1, .bool ((rd_T36 l0 x10_1).f2)] 36 (0, 0))) := ⟨(by rw [hw]; exact (by refine bU ?_; refine blk_put (cs := #[.string ((rd_T36 l0 x10_1).f0), .slice A124_1 ((rd_T36 l0 x10_1).f1).length c124_1, .bool false]) ?_ 2 _ rfl; refine bU ?_; refine blk_put (cs := #[.string ((rd_T36 l0 x10_1).f0), .slice none 0 0, .bool false]) ?_ 1 _ rfl; refine bU ?_; refine blk_put (cs := #[.string (⟨#[]⟩ : ByteArray), .slice none 0 0, .bool false]) ?_ 0 _ rfl; refine bU ?_; exact BK125.out))⟩; replace HB : Aside0 (Below w.heap.size w w23) := ⟨(by rw [hw]; exact (lV1 GE125))⟩; clear hw; have hcz24_0 := cz BK125 0 (.string ((rd_T36 l0 x10_1).f0)); have hcz24_1 := cz BK125 1 (.slice A124_1 ((rd_T36 l0 x10_1).f1).length c124_1); have hcz24_2 := cz BK125 2 (.bool ((rd_T36 l0 x10_1).f2)); have hfz24_0 := fz BK125 0; have hfz24_1 := fz BK125 1; have hfz24_2 := fz BK125 2) | (go_at_call 21; (with_reducible refine (spec_GoodName.calls k1 ((rd_T36 l0 x10_1).f0) true _ A6.out).mono ?_); rintro e w' ⟨rfl, ⟨nd, rfl⟩⟩; (try first | exact ⟨rfl, _, World.drewN_drewN _ _ _⟩ | exact ⟨rfl, _, Eq.trans (World.drewN_drewN _ _ _) (congrArg (World.drewN _) (Nat.add_assoc _ _ _))⟩))); try go_wp2_with (first | ((with_reducible refine gate_dst (N := 4) rfl ?_); refine box_event rfl (N := 4) rfl (cs := #[.string (⟨#[]⟩ : ByteArray), .slice none 0 0, .bool false]) (t := 36) sE ?_; intro gb125 hg w21 hbox hb; have BK125 := Aside0.mk hbox; have GW125 := gS w hg (lU); have GE125 := gS w hg (lU); replace HB := bH (lU) hb; clear hb hbox hg; have hcz22_0 := cz BK125 0 (.string (⟨#[]⟩ : ByteArray)); have hcz22_1 := cz BK125 1 (.slice none 0 0); have hcz22_2 := cz BK125 2 (.bool false); have hfz22_0 := fz BK125 0; have hfz22_1 := fz BK125 1; have hfz22_2 := fz BK125 2) | ((with_reducible refine gate_store (t := 36) (p := 4) rfl ?_); (try (rw [drewN_self w21]; generalize hq_ : World.drewN w21 _ = w21; replace BK125 := Aside0.mk (blk_at hq_ BK125.out); replace HB := Aside0.mk (below_at hq_ HB.out); clear hq_)); refine store_event (t := 36) (p := 4) (v := ?vo_w23) (w1 := (((w21.setCell ⟨gb125, 0, none⟩ (.string ((rd_T36 l0 x10_1).f0))).setCell ⟨gb125, 1, none⟩ (.slice A124_1 ((rd_T36 l0 x10_1).f1).length c124_1)).setCell ⟨gb125, 2, none⟩ (.bool ((rd_T36 l0 x10_1).f2)))) ?hg ?ho ?hn ?hr ?_; (case ho => rfl); (case hg => rfl); (case hn => rfl); (case hr => first | (go_simp; done) | (go_simp; rfl) | (have hq0_ := (blk_cell BK125.out 0).trans (show _ = some _ from rfl); have hf0_ := blk_frozen BK125.out 0; have hq1_ := (blk_cell BK125.out 1).trans (show _ = some _ from rfl); have hf1_ := blk_frozen BK125.out 1; have hq2_ := (blk_cell BK125.out 2).trans (show _ = some _ from rfl); have hf2_ := blk_frozen BK125.out 2; first | (go_simp; done) | (go_simp; rfl))); intro w23 hw; replace BK125 : Aside0 (w23.heap[gb125]? = some (.cells #[.string ((rd_T36 l0 x10_1).f0), .slice A124_1 ((rd_T36 l0 x10_1).f1).length c124_1, .bool ((rd_T36 l0 x10_1).f2)] 36 (0, 0))) := ⟨(by rw [hw]; exact (by refine bU ?_; refine blk_put (cs := #[.string ((rd_T36 l0 x10_1).f0), .slice A124_1 ((rd_T36 l0 x10_1).f1).length c124_1, .bool false]) ?_ 2 _ rfl; refine bU ?_; refine blk_put (cs := #[.string ((rd_T36 l0 x10_1).f0), .slice none 0 0, .bool false]) ?_ 1 _ rfl; refine bU ?_; refine blk_put (cs := #[.string (⟨#[]⟩ : ByteArray), .slice none 0 0, .bool false]) ?_ 0 _ rfl; refine bU ?_; exact BK125.out))⟩; replace HB : Aside0 (Below w.heap.size w w23) := ⟨(by rw [hw]; exact (lV1 GE125))⟩; clear hw; have hcz24_0 := cz BK125 0 (.string ((rd_T36 l0 x10_1).f0)); have hcz24_1 := cz BK125 1 (.slice A124_1 ((rd_T36 l0 x10_1).f1).length c124_1); have hcz24_2 := cz BK125 2 (.bool ((rd_T36 l0 x10_1).f2)); have hfz24_0 := fz BK125 0; have hfz24_1 := fz BK125 1; have hfz24_2 := fz BK125 2) | (go_at_call 21; (with_reducible refine (spec_GoodName.calls k1 ((rd_T36 l0 x10_1).f0) true _ A6.out).mono ?_); rintro e w' ⟨rfl, ⟨nd, rfl⟩⟩; (try first | exact ⟨rfl, _, World.drewN_drewN _ _ _⟩ | exact ⟨rfl, _, Eq.trans (World.drewN_drewN _ _ _) (congrArg (World.drewN _) (Nat.add_assoc _ _ _))⟩))))
         go_roundg k1
         case measure => have := HK1.out; omega
         case rel => exact ⟨(wrap64 (x10_1 + 1)), tE, H', ⟨by have := HK1.out; omega⟩, ⟨by repeat (first | (with_reducible first | exact HB.out | apply below_alloc | apply pw_below_drewN | apply below_drew1 | refine below_set ?_ GE125.out) | exact HB.out)⟩⟩
       ·replace c7 := Bool.eq_false_iff.mpr c7
        subst c7
        have H1 : (some false) = some r := by rw [if_neg (show ¬ (false = true) by decide)] at H; exact H
        clear H
        have H := H1
        clear H1
        obtain rfl := Option.some.inj H
        have p124 : 0 ≤ (x10_1 : Int) := of_decide_eq_true hE
        have q124 : x10_1 < (l0.length : Int) := of_decide_eq_true hE
        obtain ⟨ad124, A124_1, c124_1, e124, hx124_0, hx124_1, hx124_2, hl124_1, hi124_1⟩ := at_T36 HR0.out x10_1 p124 q124
        cases e124
        replace hx124_0 := (HB.out.cell (World.block_lt_of_cell? w _ hx124_0)).trans hx124_0
        replace hx124_1 := (HB.out.cell (World.block_lt_of_cell? w _ hx124_1)).trans hx124_1
        replace hx124_2 := (HB.out.cell (World.block_lt_of_cell? w _ hx124_2)).trans hx124_2
        have HR124_1 := Aside0.mk hi124_1
        have HC124_1 := Aside0.mk hl124_1
        clear hi124_1 hl124_1
        replace p124 := eq_true p124
        replace q124 := eq_true q124
        go_wp2_with (first | ((with_reducible refine gate_dst (N := 4) rfl ?_); refine box_event rfl (N := 4) rfl (cs := #[.string (⟨#[]⟩ : ByteArray), .slice none 0 0, .bool false]) (t := 36) sE ?_; intro gb125 hg w25 hbox hb; have BK125 := Aside0.mk hbox; have GW125 := gS w hg (lU); have GE125 := gS w hg (lU); replace HB := bH (lU) hb; clear hb hbox hg; have hcz26_0 := cz BK125 0 (.string (⟨#[]⟩ : ByteArray)); have hcz26_1 := cz BK125 1 (.slice none 0 0); have hcz26_2 := cz BK125 2 (.bool false); have hfz26_0 := fz BK125 0; have hfz26_1 := fz BK125 1; have hfz26_2 := fz BK125 2) | ((with_reducible refine gate_store (t := 36) (p := 4) rfl ?_); (try (rw [drewN_self w25]; generalize hq_ : World.drewN w25 _ = w25; replace BK125 := Aside0.mk (blk_at hq_ BK125.out); replace HB := Aside0.mk (below_at hq_ HB.out); clear hq_)); refine store_event (t := 36) (p := 4) (v := ?vo_w27) (w1 := (((w25.setCell ⟨gb125, 0, none⟩ (.string ((rd_T36 l0 x10_1).f0))).setCell ⟨gb125, 1, none⟩ (.slice A124_1 ((rd_T36 l0 x10_1).f1).length c124_1)).setCell ⟨gb125, 2, none⟩ (.bool ((rd_T36 l0 x10_1).f2)))) ?hg ?ho ?hn ?hr ?_; (case ho => rfl); (case hg => rfl); (case hn => rfl); (case hr => first | (go_simp; done) | (go_simp; rfl) | (have hq0_ := (blk_cell BK125.out 0).trans (show _ = some _ from rfl); have hf0_ := blk_frozen BK125.out 0; have hq1_ := (blk_cell BK125.out 1).trans (show _ = some _ from rfl); have hf1_ := blk_frozen BK125.out 1; have hq2_ := (blk_cell BK125.out 2).trans (show _ = some _ from rfl); have hf2_ := blk_frozen BK125.out 2; first | (go_simp; done) | (go_simp; rfl))); intro w27 hw; replace BK125 : Aside0 (w27.heap[gb125]? = some (.cells #[.string ((rd_T36 l0 x10_1).f0), .slice A124_1 ((rd_T36 l0 x10_1).f1).length c124_1, .bool ((rd_T36 l0 x10_1).f2)] 36 (0, 0))) := ⟨(by rw [hw]; exact (by refine bU ?_; refine blk_put (cs := #[.string ((rd_T36 l0 x10_1).f0), .slice A124_1 ((rd_T36 l0 x10_1).f1).length c124_1, .bool false]) ?_ 2 _ rfl; refine bU ?_; refine blk_put (cs := #[.string ((rd_T36 l0 x10_1).f0), .slice none 0 0, .bool false]) ?_ 1 _ rfl; refine bU ?_; refine blk_put (cs := #[.string (⟨#[]⟩ : ByteArray), .slice none 0 0, .bool false]) ?_ 0 _ rfl; refine bU ?_; exact BK125.out))⟩; replace HB : Aside0 (Below w.heap.size w w27) := ⟨(by rw [hw]; exact (lV1 GE125))⟩; clear hw; have hcz28_0 := cz BK125 0 (.string ((rd_T36 l0 x10_1).f0)); have hcz28_1 := cz BK125 1 (.slice A124_1 ((rd_T36 l0 x10_1).f1).length c124_1); have hcz28_2 := cz BK125 2 (.bool ((rd_T36 l0 x10_1).f2)); have hfz28_0 := fz BK125 0; have hfz28_1 := fz BK125 1; have hfz28_2 := fz BK125 2) | (go_at_call 21; (with_reducible refine (spec_GoodName.calls k1 ((rd_T36 l0 x10_1).f0) false _ A6.out).mono ?_); rintro e w' ⟨rfl, ⟨nd, rfl⟩⟩; (try first | exact ⟨rfl, _, World.drewN_drewN _ _ _⟩ | exact ⟨rfl, _, Eq.trans (World.drewN_drewN _ _ _) (congrArg (World.drewN _) (Nat.add_assoc _ _ _))⟩)))
        repeat (go_quiet (first | ((with_reducible refine gate_dst (N := 4) rfl ?_); refine box_event rfl (N := 4) rfl (cs := #[.string (⟨#[]⟩ : ByteArray), .slice none 0 0, .bool false]) (t := 36) sE ?_; intro gb125 hg w25 hbox hb; have BK125 := Aside0.mk hbox; have GW125 := gS w hg (lU); have GE125 := gS w hg (lU); replace HB := bH (lU) hb; clear hb hbox hg; have hcz26_0 := cz BK125 0 (.string (⟨#[]⟩ : ByteArray)); have hcz26_1 := cz BK125 1 (.slice none 0 0); have hcz26_2 := cz BK125 2 (.bool false); have hfz26_0 := fz BK125 0; have hfz26_1 := fz BK125 1; have hfz26_2 := fz BK125 2) | ((with_reducible refine gate_store (t := 36) (p := 4) rfl ?_); (try (rw [drewN_self w25]; generalize hq_ : World.drewN w25 _ = w25; replace BK125 := Aside0.mk (blk_at hq_ BK125.out); replace HB := Aside0.mk (below_at hq_ HB.out); clear hq_)); refine store_event (t := 36) (p := 4) (v := ?vo_w27) (w1 := (((w25.setCell ⟨gb125, 0, none⟩ (.string ((rd_T36 l0 x10_1).f0))).setCell ⟨gb125, 1, none⟩ (.slice A124_1 ((rd_T36 l0 x10_1).f1).length c124_1)).setCell ⟨gb125, 2, none⟩ (.bool ((rd_T36 l0 x10_1).f2)))) ?hg ?ho ?hn ?hr ?_; (case ho => rfl); (case hg => rfl); (case hn => rfl); (case hr => first | (go_simp; done) | (go_simp; rfl) | (have hq0_ := (blk_cell BK125.out 0).trans (show _ = some _ from rfl); have hf0_ := blk_frozen BK125.out 0; have hq1_ := (blk_cell BK125.out 1).trans (show _ = some _ from rfl); have hf1_ := blk_frozen BK125.out 1; have hq2_ := (blk_cell BK125.out 2).trans (show _ = some _ from rfl); have hf2_ := blk_frozen BK125.out 2; first | (go_simp; done) | (go_simp; rfl))); intro w27 hw; replace BK125 : Aside0 (w27.heap[gb125]? = some (.cells #[.string ((rd_T36 l0 x10_1).f0), .slice A124_1 ((rd_T36 l0 x10_1).f1).length c124_1, .bool ((rd_T36 l0 x10_1).f2)] 36 (0, 0))) := ⟨(by rw [hw]; exact (by refine bU ?_; refine blk_put (cs := #[.string ((rd_T36 l0 x10_1).f0), .slice A124_1 ((rd_T36 l0 x10_1).f1).length c124_1, .bool false]) ?_ 2 _ rfl; refine bU ?_; refine blk_put (cs := #[.string ((rd_T36 l0 x10_1).f0), .slice none 0 0, .bool false]) ?_ 1 _ rfl; refine bU ?_; refine blk_put (cs := #[.string (⟨#[]⟩ : ByteArray), .slice none 0 0, .bool false]) ?_ 0 _ rfl; refine bU ?_; exact BK125.out))⟩; replace HB : Aside0 (Below w.heap.size w w27) := ⟨(by rw [hw]; exact (lV1 GE125))⟩; clear hw; have hcz28_0 := cz BK125 0 (.string ((rd_T36 l0 x10_1).f0)); have hcz28_1 := cz BK125 1 (.slice A124_1 ((rd_T36 l0 x10_1).f1).length c124_1); have hcz28_2 := cz BK125 2 (.bool ((rd_T36 l0 x10_1).f2)); have hfz28_0 := fz BK125 0; have hfz28_1 := fz BK125 1; have hfz28_2 := fz BK125 2) | (go_at_call 21; (with_reducible refine (spec_GoodName.calls k1 ((rd_T36 l0 x10_1).f0) false _ A6.out).mono ?_); rintro e w' ⟨rfl, ⟨nd, rfl⟩⟩; (try first | exact ⟨rfl, _, World.drewN_drewN _ _ _⟩ | exact ⟨rfl, _, Eq.trans (World.drewN_drewN _ _ _) (congrArg (World.drewN _) (Nat.add_assoc _ _ _))⟩))); try go_wp2_with (first | ((with_reducible refine gate_dst (N := 4) rfl ?_); refine box_event rfl (N := 4) rfl (cs := #[.string (⟨#[]⟩ : ByteArray), .slice none 0 0, .bool false]) (t := 36) sE ?_; intro gb125 hg w25 hbox hb; have BK125 := Aside0.mk hbox; have GW125 := gS w hg (lU); have GE125 := gS w hg (lU); replace HB := bH (lU) hb; clear hb hbox hg; have hcz26_0 := cz BK125 0 (.string (⟨#[]⟩ : ByteArray)); have hcz26_1 := cz BK125 1 (.slice none 0 0); have hcz26_2 := cz BK125 2 (.bool false); have hfz26_0 := fz BK125 0; have hfz26_1 := fz BK125 1; have hfz26_2 := fz BK125 2) | ((with_reducible refine gate_store (t := 36) (p := 4) rfl ?_); (try (rw [drewN_self w25]; generalize hq_ : World.drewN w25 _ = w25; replace BK125 := Aside0.mk (blk_at hq_ BK125.out); replace HB := Aside0.mk (below_at hq_ HB.out); clear hq_)); refine store_event (t := 36) (p := 4) (v := ?vo_w27) (w1 := (((w25.setCell ⟨gb125, 0, none⟩ (.string ((rd_T36 l0 x10_1).f0))).setCell ⟨gb125, 1, none⟩ (.slice A124_1 ((rd_T36 l0 x10_1).f1).length c124_1)).setCell ⟨gb125, 2, none⟩ (.bool ((rd_T36 l0 x10_1).f2)))) ?hg ?ho ?hn ?hr ?_; (case ho => rfl); (case hg => rfl); (case hn => rfl); (case hr => first | (go_simp; done) | (go_simp; rfl) | (have hq0_ := (blk_cell BK125.out 0).trans (show _ = some _ from rfl); have hf0_ := blk_frozen BK125.out 0; have hq1_ := (blk_cell BK125.out 1).trans (show _ = some _ from rfl); have hf1_ := blk_frozen BK125.out 1; have hq2_ := (blk_cell BK125.out 2).trans (show _ = some _ from rfl); have hf2_ := blk_frozen BK125.out 2; first | (go_simp; done) | (go_simp; rfl))); intro w27 hw; replace BK125 : Aside0 (w27.heap[gb125]? = some (.cells #[.string ((rd_T36 l0 x10_1).f0), .slice A124_1 ((rd_T36 l0 x10_1).f1).length c124_1, .bool ((rd_T36 l0 x10_1).f2)] 36 (0, 0))) := ⟨(by rw [hw]; exact (by refine bU ?_; refine blk_put (cs := #[.string ((rd_T36 l0 x10_1).f0), .slice A124_1 ((rd_T36 l0 x10_1).f1).length c124_1, .bool false]) ?_ 2 _ rfl; refine bU ?_; refine blk_put (cs := #[.string ((rd_T36 l0 x10_1).f0), .slice none 0 0, .bool false]) ?_ 1 _ rfl; refine bU ?_; refine blk_put (cs := #[.string (⟨#[]⟩ : ByteArray), .slice none 0 0, .bool false]) ?_ 0 _ rfl; refine bU ?_; exact BK125.out))⟩; replace HB : Aside0 (Below w.heap.size w w27) := ⟨(by rw [hw]; exact (lV1 GE125))⟩; clear hw; have hcz28_0 := cz BK125 0 (.string ((rd_T36 l0 x10_1).f0)); have hcz28_1 := cz BK125 1 (.slice A124_1 ((rd_T36 l0 x10_1).f1).length c124_1); have hcz28_2 := cz BK125 2 (.bool ((rd_T36 l0 x10_1).f2)); have hfz28_0 := fz BK125 0; have hfz28_1 := fz BK125 1; have hfz28_2 := fz BK125 2) | (go_at_call 21; (with_reducible refine (spec_GoodName.calls k1 ((rd_T36 l0 x10_1).f0) false _ A6.out).mono ?_); rintro e w' ⟨rfl, ⟨nd, rfl⟩⟩; (try first | exact ⟨rfl, _, World.drewN_drewN _ _ _⟩ | exact ⟨rfl, _, Eq.trans (World.drewN_drewN _ _ _) (congrArg (World.drewN _) (Nat.add_assoc _ _ _))⟩))))
        go_ret
        exact ⟨eE, lV1 GE125⟩
      ·rw [if_neg c5] at H
       exact absurd H (by simp)
     ·rw [if_neg c4] at H
      exact absurd H (by simp)
    ·rw [if_neg c3] at H
     have c3b0 : decide (x10_1 < (l0.length : Int)) = false := decide_eq_false c3
     clear c3
     obtain rfl := Option.some.inj H
     go_wp2
     repeat (go_quiet (fail); try go_wp2)
     go_ret
     exact ⟨eE, lU⟩
end Go.Proofs.Ytnacjhgpanedoac.PFnExactGoodEntries
namespace Go.Proofs.Ytnacjhgpanedoac.PFnExactGoodEntries
open Go.RowKit Go.Proofs.YtnacjhgpanedoacW.PrintWords Go.Proofs.YtnacjhgpanedoacW.PrintLast Go.Proofs.YtnacjhgpanedoacW.PrintMore
attribute [local go_sem] max2_int min2_int max_two min_two max_three min_three max_four min_four   -- for this text's walks alone
set_option linter.unusedVariables false
set_option linter.unusedSimpArgs false
mutual
def spec_l19Fill.l0 : Nat → ByteArray → List (S46) → ByteArray → Int → Option (ByteArray × Bool)
 | 0, _, _, _, _ => none
 | k + 1, x0, x1, x6, x7 => if x7 < (x0.size : Int) then (if 0 ≤ x7 then (if (bt x0 x7) = 125 then (some ((⟨#[]⟩ : ByteArray), false)) else (if (bt x0 x7) = 123 then (spec_l19Fill.l1 k x0 x1 x6 x7 (wrap64 (x7 + 1))) else (if x7 ≤ (wrap64 (x7 + 1)) then (if (wrap64 (x7 + 1)) ≤ (x0.size : Int) then (if x6.size + (x0.extract (x7 : Int).toNat ((wrap64 (x7 + 1)) : Int).toNat).size ≤ 9223372036854775807 then (spec_l19Fill.l0 k x0 x1 (x6 ++ (x0.extract (x7 : Int).toNat ((wrap64 (x7 + 1)) : Int).toNat)) (wrap64 (x7 + 1))) else (none)) else (none)) else (none)))) else (none)) else (some (x6, true))
def spec_l19Fill.j2 : Nat → ByteArray → List (S46) → ByteArray → Int → Int → Option (ByteArray × Bool)
 | 0, _, _, _, _, _ => none
 | k + 1, x0, x1, x6, x7, x8 => if x8 = (x0.size : Int) then (spec_l19Fill.j3 k x0 x1 x6 x7 x8 true) else (if 0 ≤ (wrap64 (x7 + 1)) then (if (wrap64 (x7 + 1)) ≤ x8 then (if x8 ≤ (x0.size : Int) then ((spec_GoodName.f k (x0.extract ((wrap64 (x7 + 1)) : Int).toNat (x8 : Int).toNat)).bind fun t128 => (spec_l19Fill.j3 k x0 x1 x6 x7 x8 (!t128))) else (none)) else (none)) else (none))
def spec_l19Fill.j3 : Nat → ByteArray → List (S46) → ByteArray → Int → Int → Bool → Option (ByteArray × Bool)
 | 0, _, _, _, _, _, _ => none
 | k + 1, x0, x1, x6, x7, x8, x62 => if x62 = true then (some ((⟨#[]⟩ : ByteArray), false)) else (if 0 ≤ x7 then (if x7 ≤ (wrap64 (x8 + 1)) then (if (wrap64 (x8 + 1)) ≤ (x0.size : Int) then (spec_l19Fill.l2 k x0 x1 x6 x7 x8 (x0.extract (x7 : Int).toNat ((wrap64 (x8 + 1)) : Int).toNat) x1 (x1.length : Int) 0) else (none)) else (none)) else (none))
def spec_l19Fill.l2 : Nat → ByteArray → List (S46) → ByteArray → Int → Int → ByteArray → List (S46) → Int → Int → Option (ByteArray × Bool)
 | 0, _, _, _, _, _, _, _, _, _ => none
 | k + 1, x0, x1, x6, x7, x8, x9, x68, x69, x70 => if x70 < x69 then (if 0 ≤ x70 then (if x70 < (x68.length : Int) then (if 0 ≤ (wrap64 (x7 + 1)) then (if (wrap64 (x7 + 1)) ≤ x8 then (if x8 ≤ (x0.size : Int) then (if ((rd_T46 x68 x70).f0).toList = (x0.extract ((wrap64 (x7 + 1)) : Int).toNat (x8 : Int).toNat).toList then (spec_l19Fill.l2 k x0 x1 x6 x7 x8 ((rd_T46 x68 x70).f1) x68 x69 (wrap64 (x70 + 1))) else (spec_l19Fill.l2 k x0 x1 x6 x7 x8 x9 x68 x69 (wrap64 (x70 + 1)))) else (none)) else (none)) else (none)) else (none)) else (none)) else (if x6.size + x9.size ≤ 9223372036854775807 then (spec_l19Fill.l0 k x0 x1 (x6 ++ x9) (wrap64 (x8 + 1))) else (none))
def spec_l19Fill.l1 : Nat → ByteArray → List (S46) → ByteArray → Int → Int → Option (ByteArray × Bool)
 | 0, _, _, _, _, _ => none
 | k + 1, x0, x1, x6, x7, x8 => if x8 < (x0.size : Int) then (if 0 ≤ x8 then (if (bt x0 x8) = 125 then (spec_l19Fill.j2 k x0 x1 x6 x7 x8) else (spec_l19Fill.l1 k x0 x1 x6 x7 (wrap64 (x8 + 1)))) else (none)) else (spec_l19Fill.j2 k x0 x1 x6 x7 x8)
end
def spec_l19Fill.f (k : Nat) (a0 : ByteArray) (l1 : List (S46)) : Option (ByteArray × Bool) := if (a0.size : Int) > 200 then (some ((⟨#[]⟩ : ByteArray), false)) else (spec_l19Fill.l0 k a0 l1 (⟨#[]⟩ : ByteArray) 0)
theorem spec_l19Fill.mono_l : ∀ k, (∀ y0 y1 y2 y3, LeO (spec_l19Fill.l0 k y0 y1 y2 y3) (spec_l19Fill.l0 (k + 1) y0 y1 y2 y3)) ∧ (∀ y0 y1 y2 y3 y4, LeO (spec_l19Fill.j2 k y0 y1 y2 y3 y4) (spec_l19Fill.j2 (k + 1) y0 y1 y2 y3 y4)) ∧ (∀ y0 y1 y2 y3 y4 y5, LeO (spec_l19Fill.j3 k y0 y1 y2 y3 y4 y5) (spec_l19Fill.j3 (k + 1) y0 y1 y2 y3 y4 y5)) ∧ (∀ y0 y1 y2 y3 y4 y5 y6 y7 y8, LeO (spec_l19Fill.l2 k y0 y1 y2 y3 y4 y5 y6 y7 y8) (spec_l19Fill.l2 (k + 1) y0 y1 y2 y3 y4 y5 y6 y7 y8)) ∧ (∀ y0 y1 y2 y3 y4, LeO (spec_l19Fill.l1 k y0 y1 y2 y3 y4) (spec_l19Fill.l1 (k + 1) y0 y1 y2 y3 y4))
 | 0 => ⟨fun _ _ _ _ r h => by simp [spec_l19Fill.l0] at h, fun _ _ _ _ _ r h => by simp [spec_l19Fill.j2] at h, fun _ _ _ _ _ _ r h => by simp [spec_l19Fill.j3] at h, fun _ _ _ _ _ _ _ _ _ r h => by simp [spec_l19Fill.l2] at h, fun _ _ _ _ _ r h => by simp [spec_l19Fill.l1] at h⟩
 | k + 1 => by
  obtain ⟨ih0, ih1, ih2, ih3, ih4⟩ := spec_l19Fill.mono_l k
  refine ⟨?_, ?_, ?_, ?_, ?_⟩
  ·intro y0 y1 y2 y3
   unfold spec_l19Fill.l0
   repeat' first
   | (with_reducible exact ih0 _ _ _ _)
   | (with_reducible exact ih1 _ _ _ _ _)
   | (with_reducible exact ih2 _ _ _ _ _ _)
   | (with_reducible exact ih3 _ _ _ _ _ _ _ _ _)
   | (with_reducible exact ih4 _ _ _ _ _)
   | (with_reducible exact spec_GoodName.mono _ _)
   | (with_reducible first | exact LeO.refl _ | exact LeO.none _ | refine LeO.ite ?_ ?_ | refine LeO.bind ?_ (fun _ => ?_))
   | exact ih0 _ _ _ _
   | exact ih1 _ _ _ _ _
   | exact ih2 _ _ _ _ _ _
   | exact ih3 _ _ _ _ _ _ _ _ _
   | exact ih4 _ _ _ _ _
   | exact spec_GoodName.mono _ _ | exact LeO.none _ | refine LeO.ite ?_ ?_ | refine LeO.bind ?_ (fun _ => ?_)
  ·intro y0 y1 y2 y3 y4
   unfold spec_l19Fill.j2
   repeat' first
   | (with_reducible exact ih0 _ _ _ _)
   | (with_reducible exact ih1 _ _ _ _ _)
   | (with_reducible exact ih2 _ _ _ _ _ _)
   | (with_reducible exact ih3 _ _ _ _ _ _ _ _ _)
   | (with_reducible exact ih4 _ _ _ _ _)
   | (with_reducible exact spec_GoodName.mono _ _)
   | (with_reducible first | exact LeO.refl _ | exact LeO.none _ | refine LeO.ite ?_ ?_ | refine LeO.bind ?_ (fun _ => ?_))
   | exact ih0 _ _ _ _
   | exact ih1 _ _ _ _ _
   | exact ih2 _ _ _ _ _ _
   | exact ih3 _ _ _ _ _ _ _ _ _
   | exact ih4 _ _ _ _ _
   | exact spec_GoodName.mono _ _ | exact LeO.none _ | refine LeO.ite ?_ ?_ | refine LeO.bind ?_ (fun _ => ?_)
  ·intro y0 y1 y2 y3 y4 y5
   unfold spec_l19Fill.j3
   repeat' first
   | (with_reducible exact ih0 _ _ _ _)
   | (with_reducible exact ih1 _ _ _ _ _)
   | (with_reducible exact ih2 _ _ _ _ _ _)
   | (with_reducible exact ih3 _ _ _ _ _ _ _ _ _)
   | (with_reducible exact ih4 _ _ _ _ _)
   | (with_reducible exact spec_GoodName.mono _ _)
   | (with_reducible first | exact LeO.refl _ | exact LeO.none _ | refine LeO.ite ?_ ?_ | refine LeO.bind ?_ (fun _ => ?_))
   | exact ih0 _ _ _ _
   | exact ih1 _ _ _ _ _
   | exact ih2 _ _ _ _ _ _
   | exact ih3 _ _ _ _ _ _ _ _ _
   | exact ih4 _ _ _ _ _
   | exact spec_GoodName.mono _ _ | exact LeO.none _ | refine LeO.ite ?_ ?_ | refine LeO.bind ?_ (fun _ => ?_)
  ·intro y0 y1 y2 y3 y4 y5 y6 y7 y8
   unfold spec_l19Fill.l2
   repeat' first
   | (with_reducible exact ih0 _ _ _ _)
   | (with_reducible exact ih1 _ _ _ _ _)
   | (with_reducible exact ih2 _ _ _ _ _ _)
   | (with_reducible exact ih3 _ _ _ _ _ _ _ _ _)
   | (with_reducible exact ih4 _ _ _ _ _)
   | (with_reducible exact spec_GoodName.mono _ _)
   | (with_reducible first | exact LeO.refl _ | exact LeO.none _ | refine LeO.ite ?_ ?_ | refine LeO.bind ?_ (fun _ => ?_))
   | exact ih0 _ _ _ _
   | exact ih1 _ _ _ _ _
   | exact ih2 _ _ _ _ _ _
   | exact ih3 _ _ _ _ _ _ _ _ _
   | exact ih4 _ _ _ _ _
   | exact spec_GoodName.mono _ _ | exact LeO.none _ | refine LeO.ite ?_ ?_ | refine LeO.bind ?_ (fun _ => ?_)
  ·intro y0 y1 y2 y3 y4
   unfold spec_l19Fill.l1
   repeat' first
   | (with_reducible exact ih0 _ _ _ _)
   | (with_reducible exact ih1 _ _ _ _ _)
   | (with_reducible exact ih2 _ _ _ _ _ _)
   | (with_reducible exact ih3 _ _ _ _ _ _ _ _ _)
   | (with_reducible exact ih4 _ _ _ _ _)
   | (with_reducible exact spec_GoodName.mono _ _)
   | (with_reducible first | exact LeO.refl _ | exact LeO.none _ | refine LeO.ite ?_ ?_ | refine LeO.bind ?_ (fun _ => ?_))
   | exact ih0 _ _ _ _
   | exact ih1 _ _ _ _ _
   | exact ih2 _ _ _ _ _ _
   | exact ih3 _ _ _ _ _ _ _ _ _
   | exact ih4 _ _ _ _ _
   | exact spec_GoodName.mono _ _ | exact LeO.none _ | refine LeO.ite ?_ ?_ | refine LeO.bind ?_ (fun _ => ?_)
theorem spec_l19Fill.mono : ∀ a0 a1 k, LeO (spec_l19Fill.f k a0 a1) (spec_l19Fill.f (k + 1) a0 a1) := by
 intro a0 a1 k
 obtain ⟨ih0, ih1, ih2, ih3, ih4⟩ := spec_l19Fill.mono_l k
 unfold spec_l19Fill.f
 repeat' first
   | (with_reducible exact ih0 _ _ _ _)
   | (with_reducible exact ih1 _ _ _ _ _)
   | (with_reducible exact ih2 _ _ _ _ _ _)
   | (with_reducible exact ih3 _ _ _ _ _ _ _ _ _)
   | (with_reducible exact ih4 _ _ _ _ _)
   | (with_reducible exact spec_GoodName.mono _ _)
   | (with_reducible first | exact LeO.refl _ | exact LeO.none _ | refine LeO.ite ?_ ?_ | refine LeO.bind ?_ (fun _ => ?_))
   | exact ih0 _ _ _ _
   | exact ih1 _ _ _ _ _
   | exact ih2 _ _ _ _ _ _
   | exact ih3 _ _ _ _ _ _ _ _ _
   | exact ih4 _ _ _ _ _
   | exact spec_GoodName.mono _ _ | exact LeO.none _ | refine LeO.ite ?_ ?_ | refine LeO.bind ?_ (fun _ => ?_)
set_option maxHeartbeats 8000000 in
set_option maxRecDepth 100000 in
theorem spec_l19Fill.calls (k : Nat) (a0 : ByteArray) (A1 : Option Addr) (c1 : Nat) (l1 : List (S46)) (r1 : ByteArray) (r2 : Bool) (w : World) (hr1 : Kd.C k46 w A1 l1.length l1) (hc1 : l1.length ≤ c1) (h : spec_l19Fill.f k a0 l1 = some (r1, r2)) :
  Calls Try.prog 12 #[.string a0, .slice A1 l1.length c1] w fun e w' => e = .returned (.tuple #[.string r1, .bool r2]) ∧ Below w.heap.size w w' := by
 have hu46 := Try.underlying46
 have HR1 := Aside0.mk hr1
 have HC1 := Aside0.mk hc1
 clear hr1 hc1
 have HB := Aside0.mk (Below.refl w.heap.size w)
 have H : (if (a0.size : Int) > 200 then (some ((⟨#[]⟩ : ByteArray), false)) else (spec_l19Fill.l0 k a0 l1 (⟨#[]⟩ : ByteArray) 0)) = some (r1, r2) := h
 clear h
 by_cases c3 : (a0.size : Int) > 200
 ·rw [if_pos c3] at H
  have c3b0 : decide (200 < (a0.size : Int)) = true := decide_eq_true c3
  have c3b1 : decide (200 < a0.size) = true := decide_eq_true (by omega)
  clear c3
  simp only [Option.some.injEq, Prod.mk.injEq] at H
  obtain ⟨rfl, rfl⟩ := H
  go_enter Try.func12, Try.ntmps12
  go_wp2
  repeat (go_quiet (fail); try go_wp2)
  go_ret2
  exact ⟨eE, lU⟩
 ·rw [if_neg c3] at H
  have c3b0 : decide (200 < (a0.size : Int)) = false := decide_eq_false c3
  have c3b1 : decide (200 < a0.size) = false := decide_eq_false (by omega)
  clear c3
  have H' := Aside0.mk H
  clear H
  go_enter Try.func12, Try.ntmps12
  go_wp2
  repeat (go_quiet (fail); try go_wp2)
  go_loopg [6, 7] k (fun kq v6 v7 w' => ∃ (x6_1 : ByteArray) (x7_1 : Int), v6 = .string x6_1 ∧ v7 = .int .i64 x7_1 ∧ Aside0 (spec_l19Fill.l0 kq a0 l1 x6_1 x7_1 = some (r1, r2)) ∧ Aside0 (kq ≤ k) ∧ Aside0 (Below w.heap.size w w'))
  case atStart => exact ⟨((⟨#[]⟩ : ByteArray)), (0), tE, tE, H', ⟨Nat.le_refl _⟩, ⟨by repeat (first | (with_reducible first | exact HB.out | apply below_alloc | apply pw_below_drewN | apply below_drew1) | exact HB.out)⟩⟩
  case round =>
   clear H'
   try clear c1
   try clear p2
   try clear c3
   try clear c3b0
   try clear c3b1
   obtain ⟨x6_1, x7_1, rfl, rfl, HA, HK1, HB⟩ := hrel
   cases gk with
   | zero => exact absurd HA.out (by simp [spec_l19Fill.l0])
   | succ k1 =>
    have H := HA.out
    clear HA
    simp only [spec_l19Fill.l0] at H
    by_cases c4 : x7_1 < (a0.size : Int)
    ·rw [if_pos c4] at H
     have c4b0 : decide (x7_1 < (a0.size : Int)) = true := decide_eq_true c4
     clear c4
     by_cases c5 : 0 ≤ x7_1
     ·rw [if_pos c5] at H
      have c5b0 : decide (0 ≤ x7_1) = true := decide_eq_true c5
      clear c5
      by_cases c7 : (bt a0 x7_1) = 125
      ·rw [if_pos c7] at H
       have c7b0 : ((bt a0 x7_1) == 125) = true := beq_iff_eq.mpr c7
       have c7b1 : ((bt a0 x7_1) != 125) = false := bne_eq_false_iff_eq.mpr c7
       clear c7
       simp only [Option.some.injEq, Prod.mk.injEq] at H
       obtain ⟨rfl, rfl⟩ := H
       have p6 : 0 ≤ (x7_1 : Int) := of_decide_eq_true hE
       have q6 : x7_1 < (a0.size : Int) := of_decide_eq_true hE
       have hx6 := bt_at a0 x7_1
       replace p6 := eq_true p6
       replace q6 := eq_true q6
       go_wp2
       repeat (go_quiet (fail); try go_wp2)
       go_ret2
       exact ⟨eE, lU⟩
      ·rw [if_neg c7] at H
       have c7b0 : ((bt a0 x7_1) == 125) = false := beq_eq_false_iff_ne.mpr c7
       have c7b1 : ((bt a0 x7_1) != 125) = true := bne_iff_ne.mpr c7
       by_cases c9 : (bt a0 x7_1) = 123
       ·rw [if_pos c9] at H
        have c9b0 : ((bt a0 x7_1) == 123) = true := beq_iff_eq.mpr c9
        have c9b1 : ((bt a0 x7_1) != 123) = false := bne_eq_false_iff_eq.mpr c9
        clear c9
        have HC10 := Aside0.mk H
        clear H
        have p6 : 0 ≤ (x7_1 : Int) := of_decide_eq_true hE
        have q6 : x7_1 < (a0.size : Int) := of_decide_eq_true hE
        have hx6 := bt_at a0 x7_1
        replace p6 := eq_true p6
        replace q6 := eq_true q6
        have p8 : 0 ≤ (x7_1 : Int) := of_decide_eq_true hE
        have q8 : x7_1 < (a0.size : Int) := of_decide_eq_true hE
        have hx8 := bt_at a0 x7_1
        replace p8 := eq_true p8
        replace q8 := eq_true q8
        go_upto_block 2 with (fail)
        repeat (go_quiet (fail); go_upto_block 2 with (fail))
        go_cut [8] (fun v8 wc => ∃ (kq : Nat) (x8_9 : Int), v8 = .int .i64 x8_9 ∧ Aside0 (spec_l19Fill.j2 kq a0 l1 x6_1 x7_1 x8_9 = some (r1, r2)) ∧ Aside0 (kq ≤ k1) ∧ Aside0 (Below w.heap.size w wc))
        case first =>
         have H := HC10.out
         clear HC10
         have H' := Aside0.mk H
         clear H
         go_wp2
         repeat (go_quiet (fail); try go_wp2)
         go_loopg [8] k1 (fun kq v8 w' => ∃ (x8_2 : Int), v8 = .int .i64 x8_2 ∧ Aside0 (spec_l19Fill.l1 kq a0 l1 x6_1 x7_1 x8_2 = some (r1, r2)) ∧ Aside0 (kq ≤ k1) ∧ Aside0 (Below w.heap.size w w'))
         case atStart => exact ⟨(wrap64 (x7_1 + 1)), tE, H', ⟨Nat.le_refl _⟩, ⟨by repeat (first | (with_reducible first | exact HB.out | apply below_alloc | apply pw_below_drewN | apply below_drew1) | exact HB.out)⟩⟩
         case round =>
          clear H'
          try clear c1
          try clear p2
          try clear c3
          try clear c3b0
          try clear c3b1
          try clear c4
          try clear c4b0
          try clear c5
          try clear c5b0
          try clear p6
          try clear q6
          try clear hx6
          try clear c7
          try clear c7b0
          try clear c7b1
          try clear p8
          try clear q8
          try clear hx8
          try clear c9
          try clear c9b0
          try clear c9b1
          try clear p2
          try clear p6
          try clear p8
          try clear q6
          try clear q8
          obtain ⟨x8_2, rfl, HA, HK2, HB⟩ := hrel
          cases gk with
          | zero => exact absurd HA.out (by simp [spec_l19Fill.l1])
          | succ k2 =>
           have H := HA.out
           clear HA
           simp only [spec_l19Fill.l1] at H
           by_cases c11 : x8_2 < (a0.size : Int)
           ·rw [if_pos c11] at H
            have c11b0 : decide (x8_2 < (a0.size : Int)) = true := decide_eq_true c11
            clear c11
            (first | rw [c11b0] | (simp only [i64_w, i32_w]; rw [c11b0]) | (rw [c11b2]; simp only [Bool.not_false, Bool.not_true]) | skip)
            by_cases c12 : 0 ≤ x8_2
            ·rw [if_pos c12] at H
             have c12b0 : decide (0 ≤ x8_2) = true := decide_eq_true c12
             clear c12
             by_cases c14 : (bt a0 x8_2) = 125
             ·rw [if_pos c14] at H
              have c14b0 : ((bt a0 x8_2) == 125) = true := beq_iff_eq.mpr c14
              have c14b1 : ((bt a0 x8_2) != 125) = false := bne_eq_false_iff_eq.mpr c14
              clear c14
              have H' := Aside0.mk H
              clear H
              have p13 : 0 ≤ (x8_2 : Int) := of_decide_eq_true hE
              have q13 : x8_2 < (a0.size : Int) := of_decide_eq_true hE
              have hx13 := bt_at a0 x8_2
              replace p13 := eq_true p13
              replace q13 := eq_true q13
              go_wp2
              repeat (go_quiet (fail); try go_wp2)
              go_meet
              case rel => exact ⟨_, (x8_2), tE, H', ⟨by have := HK1.out; have := HK2.out; first | omega | exact Nat.le_refl _⟩, ⟨by repeat (first | (with_reducible first | exact HB.out | apply below_alloc | apply pw_below_drewN | apply below_drew1) | exact HB.out)⟩⟩
             ·rw [if_neg c14] at H
              have c14b0 : ((bt a0 x8_2) == 125) = false := beq_eq_false_iff_ne.mpr c14
              have c14b1 : ((bt a0 x8_2) != 125) = true := bne_iff_ne.mpr c14
              have H' := Aside0.mk H
              clear H
              have p13 : 0 ≤ (x8_2 : Int) := of_decide_eq_true hE
              have q13 : x8_2 < (a0.size : Int) := of_decide_eq_true hE
              have hx13 := bt_at a0 x8_2
              replace p13 := eq_true p13
              replace q13 := eq_true q13
              go_wp2
              repeat (go_quiet (fail); try go_wp2)
              go_roundg k2
              case measure => have := HK1.out; have := HK2.out; omega
              case rel => exact ⟨(wrap64 (x8_2 + 1)), tE, H', ⟨by have := HK1.out; have := HK2.out; omega⟩, ⟨by repeat (first | (with_reducible first | exact HB.out | apply below_alloc | apply pw_below_drewN | apply below_drew1) | exact HB.out)⟩⟩
            ·rw [if_neg c12] at H
             exact absurd H (by simp)
           ·rw [if_neg c11] at H
            have c11b0 : decide (x8_2 < (a0.size : Int)) = false := decide_eq_false c11
            clear c11
            (first | rw [c11b0] | (simp only [i64_w, i32_w]; rw [c11b0]) | (rw [c11b2]; simp only [Bool.not_false, Bool.not_true]) | skip)
            have H' := Aside0.mk H
            clear H
            go_wp2
            repeat (go_quiet (fail); try go_wp2)
            go_meet
            case rel => exact ⟨_, (x8_2), tE, H', ⟨by have := HK1.out; have := HK2.out; first | omega | exact Nat.le_refl _⟩, ⟨by repeat (first | (with_reducible first | exact HB.out | apply below_alloc | apply pw_below_drewN | apply below_drew1) | exact HB.out)⟩⟩
        case rest =>
         clear HC10
         try clear c1
         try clear p1
         try clear q1
         try clear hx1
         try clear p2
         try clear c3
         try clear c3b0
         try clear c3b1
         try clear c4
         try clear c4b0
         try clear c5
         try clear c5b0
         try clear p6
         try clear q6
         try clear hx6
         try clear c7
         try clear c7b0
         try clear c7b1
         try clear p8
         try clear q8
         try clear hx8
         try clear c9
         try clear c9b0
         try clear c9b1
         try clear c11
         try clear c11b0
         try clear c11b2
         try clear c12
         try clear c12b0
         try clear p13
         try clear q13
         try clear hx13
         try clear c14
         try clear c14b0
         try clear c14b1
         try clear p13
         try clear p2
         try clear p6
         try clear p8
         try clear q13
         try clear q6
         try clear q8
         obtain ⟨kq, x8_9, rfl, HA, HJ9, HB⟩ := hcut
         cases kq with
         | zero => exact absurd HA.out (by simp [spec_l19Fill.j2])
         | succ kj9 =>
          have H := HA.out
          clear HA
          simp only [spec_l19Fill.j2] at H
          have HC15 := Aside0.mk H
          clear H
          go_upto_region 14 with (fail)
          repeat (go_quiet (fail); go_upto_region 14 with (fail))
          go_cut [62] (fun v62 wc => ∃ (kq : Nat) (x62_14 : Bool), v62 = .bool x62_14 ∧ Aside0 (spec_l19Fill.j3 kq a0 l1 x6_1 x7_1 x8_9 x62_14 = some (r1, r2)) ∧ Aside0 (kq ≤ kj9) ∧ Aside0 (Below w.heap.size w wc))
          case first =>
           have H := HC15.out
           clear HC15
           by_cases c16 : x8_9 = (a0.size : Int)
           ·rw [if_pos c16] at H
            have c16b0 : (x8_9 == (a0.size : Int)) = true := beq_iff_eq.mpr c16
            have c16b1 : (x8_9 != (a0.size : Int)) = false := bne_eq_false_iff_eq.mpr c16
            clear c16
            (first | rw [c16b0] | (simp only [i64_w, i32_w]; rw [c16b0]) | (rw [c16b2]; simp only [Bool.not_false, Bool.not_true]) | skip)
            have H' := Aside0.mk H
            clear H
            go_wp2
            repeat (go_quiet (fail); try go_wp2)
            go_meet
            case rel => exact ⟨_, (true), tE, H', ⟨by have := HK1.out; have := HJ9.out; first | omega | exact Nat.le_refl _⟩, ⟨by repeat (first | (with_reducible first | exact HB.out | apply below_alloc | apply pw_below_drewN | apply below_drew1) | exact HB.out)⟩⟩
           ·rw [if_neg c16] at H
            have c16b0 : (x8_9 == (a0.size : Int)) = false := beq_eq_false_iff_ne.mpr c16
            have c16b1 : (x8_9 != (a0.size : Int)) = true := bne_iff_ne.mpr c16
            (first | rw [c16b0] | (simp only [i64_w, i32_w]; rw [c16b0]) | (rw [c16b2]; simp only [Bool.not_false, Bool.not_true]) | skip)
            obtain ⟨ji17, hji17⟩ : ∃ j_ : Int, (wrap64 (x7_1 + 1)) = j_ := ⟨_, rfl⟩
            replace H : (if 0 ≤ (ji17) then (if (ji17) ≤ x8_9 then (if x8_9 ≤ (a0.size : Int) then ((spec_GoodName.f kj9 (a0.extract ((ji17) : Int).toNat (x8_9 : Int).toNat)).bind fun t128 => (spec_l19Fill.j3 kj9 a0 l1 x6_1 x7_1 x8_9 (!t128))) else (none)) else (none)) else (none)) = some (r1, r2) := by first | (rw [hji17] at H; exact H) | (simp only [hji17] at H ⊢; exact H)
            have hji17w : (IntKind.i64.wrap (x7_1 + 1)) = ji17 := (i64_w _).trans hji17
            by_cases c18 : 0 ≤ (ji17)
            ·rw [if_pos c18] at H
             have c18b0 := eq_true c18
             have c18b1 : decide (0 ≤ (ji17)) = true := decide_eq_true c18
             clear c18
             by_cases c19 : (ji17) ≤ x8_9
             ·rw [if_pos c19] at H
              have c19b0 := eq_true c19
              have c19b1 : decide ((ji17) ≤ x8_9) = true := decide_eq_true c19
              clear c19
              by_cases c20 : x8_9 ≤ (a0.size : Int)
              ·rw [if_pos c20] at H
               have c20b0 := eq_true c20
               have c20b1 : decide (x8_9 ≤ (a0.size : Int)) = true := decide_eq_true c20
               clear c20
               replace H := Option.bind_eq_some_iff.mp H
               obtain ⟨t128, A210, H⟩ := H
               replace H : (spec_l19Fill.j3 kj9 a0 l1 x6_1 x7_1 x8_9 (!t128)) = some (r1, r2) := H
               have A21 := Aside0.mk A210
               clear A210
               have H' := Aside0.mk H
               clear H
               go_wp2_with (first | (go_at_call 21; (with_reducible refine (spec_GoodName.calls kj9 (a0.extract ((ji17) : Int).toNat (x8_9 : Int).toNat) t128 _ A21.out).mono ?_); rintro e w' ⟨rfl, ⟨nd, rfl⟩⟩; (try first | exact ⟨rfl, _, World.drewN_drewN _ _ _⟩ | exact ⟨rfl, _, Eq.trans (World.drewN_drewN _ _ _) (congrArg (World.drewN _) (Nat.add_assoc _ _ _))⟩)))
               repeat (go_quiet (first | (go_at_call 21; (with_reducible refine (spec_GoodName.calls kj9 (a0.extract ((ji17) : Int).toNat (x8_9 : Int).toNat) t128 _ A21.out).mono ?_); rintro e w' ⟨rfl, ⟨nd, rfl⟩⟩; (try first | exact ⟨rfl, _, World.drewN_drewN _ _ _⟩ | exact ⟨rfl, _, Eq.trans (World.drewN_drewN _ _ _) (congrArg (World.drewN _) (Nat.add_assoc _ _ _))⟩))); try go_wp2_with (first | (go_at_call 21; (with_reducible refine (spec_GoodName.calls kj9 (a0.extract ((ji17) : Int).toNat (x8_9 : Int).toNat) t128 _ A21.out).mono ?_); rintro e w' ⟨rfl, ⟨nd, rfl⟩⟩; (try first | exact ⟨rfl, _, World.drewN_drewN _ _ _⟩ | exact ⟨rfl, _, Eq.trans (World.drewN_drewN _ _ _) (congrArg (World.drewN _) (Nat.add_assoc _ _ _))⟩))))
               go_meet
               case rel => exact ⟨_, (!t128), tE, H', ⟨by have := HK1.out; have := HJ9.out; first | omega | exact Nat.le_refl _⟩, ⟨by repeat (first | (with_reducible first | exact HB.out | apply below_alloc | apply pw_below_drewN | apply below_drew1) | exact HB.out)⟩⟩
              ·rw [if_neg c20] at H
               exact absurd H (by simp)
             ·rw [if_neg c19] at H
              exact absurd H (by simp)
            ·rw [if_neg c18] at H
             exact absurd H (by simp)
          case rest =>
           clear HC15
           try clear c1
           try clear p1
           try clear q1
           try clear hx1
           try clear c2
           try clear p2
           try clear c3
           try clear c3b0
           try clear c3b1
           try clear c4
           try clear c4b0
           try clear c5
           try clear c5b0
           try clear p6
           try clear q6
           try clear hx6
           try clear c7
           try clear c7b0
           try clear c7b1
           try clear p8
           try clear q8
           try clear hx8
           try clear c9
           try clear c9b0
           try clear c9b1
           try clear c11
           try clear c11b0
           try clear c11b2
           try clear c12
           try clear c12b0
           try clear p13
           try clear q13
           try clear hx13
           try clear c14
           try clear c14b0
           try clear c14b1
           try clear c16
           try clear c16b0
           try clear c16b1
           try clear c16b2
           try clear c18
           try clear c18b0
           try clear c18b1
           try clear c19
           try clear c19b0
           try clear c19b1
           try clear c20
           try clear c20b0
           try clear c20b1
           try clear p1
           try clear p13
           try clear p2
           try clear p6
           try clear p8
           try clear q1
           try clear q13
           try clear q6
           try clear q8
           obtain ⟨kq, x62_14, rfl, HA, HJ14, HB⟩ := hcut
           cases kq with
           | zero => exact absurd HA.out (by simp [spec_l19Fill.j3])
           | succ kj14 =>
            have H := HA.out
            clear HA
            simp only [spec_l19Fill.j3] at H
            by_cases c22 : x62_14 = true
            ·subst c22
             have H1 : (some ((⟨#[]⟩ : ByteArray), false)) = some (r1, r2) := by rw [if_pos rfl] at H; exact H
             clear H
             have H := H1
             clear H1
             simp only [Option.some.injEq, Prod.mk.injEq] at H
             obtain ⟨rfl, rfl⟩ := H
             go_wp2
             repeat (go_quiet (fail); try go_wp2)
             go_ret2
             exact ⟨eE, lU⟩
            ·replace c22 := Bool.eq_false_iff.mpr c22
             subst c22
             have H1 : (if 0 ≤ x7_1 then (if x7_1 ≤ (wrap64 (x8_9 + 1)) then (if (wrap64 (x8_9 + 1)) ≤ (a0.size : Int) then (spec_l19Fill.l2 kj14 a0 l1 x6_1 x7_1 x8_9 (a0.extract (x7_1 : Int).toNat ((wrap64 (x8_9 + 1)) : Int).toNat) l1 (l1.length : Int) 0) else (none)) else (none)) else (none)) = some (r1, r2) := by rw [if_neg (show ¬ (false = true) by decide)] at H; exact H
             clear H
             have H := H1
             clear H1
             by_cases c23 : 0 ≤ x7_1
             ·rw [if_pos c23] at H
              have c23b0 := eq_true c23
              have c23b1 : decide (0 ≤ x7_1) = true := decide_eq_true c23
              clear c23
              by_cases c24 : x7_1 ≤ (wrap64 (x8_9 + 1))
              ·rw [if_pos c24] at H
               have c24b0 := eq_true c24
               have c24b1 : decide (x7_1 ≤ (wrap64 (x8_9 + 1))) = true := decide_eq_true c24
               by_cases c25 : (wrap64 (x8_9 + 1)) ≤ (a0.size : Int)
               ·rw [if_pos c25] at H
                have c25b0 := eq_true c25
                have c25b1 : decide ((wrap64 (x8_9 + 1)) ≤ (a0.size : Int)) = true := decide_eq_true c25
                have H' := Aside0.mk H
                clear H
                go_wp2
                repeat (go_quiet (fail); try go_wp2)
                go_loopg [9, 70] kj14 (fun kq v9 v70 w' => ∃ (x9_4 : ByteArray) (x70_4 : Int), v9 = .string x9_4 ∧ v70 = .int .i64 x70_4 ∧ Aside0 (spec_l19Fill.l2 kq a0 l1 x6_1 x7_1 x8_9 x9_4 l1 (l1.length : Int) x70_4 = some (r1, r2)) ∧ Aside0 (kq ≤ kj14) ∧ Aside0 (Below w.heap.size w w'))
                case atStart => exact ⟨(a0.extract (x7_1 : Int).toNat ((wrap64 (x8_9 + 1)) : Int).toNat), (0), tE, tE, H', ⟨Nat.le_refl _⟩, ⟨by repeat (first | (with_reducible first | exact HB.out | apply below_alloc | apply pw_below_drewN | apply below_drew1) | exact HB.out)⟩⟩
                case round =>
                 clear H'
                 try clear c1
                 try clear p1
                 try clear q1
                 try clear hx1
                 try clear c2
                 try clear p2
                 try clear c3
                 try clear c3b0
                 try clear c3b1
                 try clear c4
                 try clear c4b0
                 try clear c5
                 try clear c5b0
                 try clear p6
                 try clear q6
                 try clear hx6
                 try clear c7
                 try clear c7b0
                 try clear c7b1
                 try clear p8
                 try clear q8
                 try clear hx8
                 try clear c9
                 try clear c9b0
                 try clear c9b1
                 try clear c11
                 try clear c11b0
                 try clear c11b2
                 try clear c12
                 try clear c12b0
                 try clear p13
                 try clear q13
                 try clear hx13
                 try clear c14
                 try clear c14b0
                 try clear c14b1
                 try clear c16
                 try clear c16b0
                 try clear c16b1
                 try clear c16b2
                 try clear c18
                 try clear c18b0
                 try clear c18b1
                 try clear c19
                 try clear c19b0
                 try clear c19b1
                 try clear c20
                 try clear c20b0
                 try clear c20b1
                 try clear c22
                 try clear c23
                 try clear c23b0
                 try clear c23b1
                 try clear c24
                 try clear c24b0
                 try clear c24b1
                 try clear c25
                 try clear c25b0
                 try clear c25b1
                 try clear p1
                 try clear p13
                 try clear p2
                 try clear p6
                 try clear p8
                 try clear q1
                 try clear q13
                 try clear q6
                 try clear q8
                 obtain ⟨x9_4, x70_4, rfl, rfl, HA, HK4, HB⟩ := hrel
                 cases gk with
                 | zero => exact absurd HA.out (by simp [spec_l19Fill.l2])
                 | succ k4 =>
                  have H := HA.out
                  clear HA
                  simp only [spec_l19Fill.l2] at H
                  by_cases c26 : x70_4 < (l1.length : Int)
                  ·rw [if_pos c26] at H
                   have c26b0 : decide (x70_4 < (l1.length : Int)) = true := decide_eq_true c26
                   clear c26
                   by_cases c27 : 0 ≤ x70_4
                   ·rw [if_pos c27] at H
                    have c27b0 : decide (0 ≤ x70_4) = true := decide_eq_true c27
                    clear c27
                    by_cases c28 : x70_4 < (l1.length : Int)
                    ·rw [if_pos c28] at H
                     have c28b0 : decide (x70_4 < (l1.length : Int)) = true := decide_eq_true c28
                     clear c28
                     obtain ⟨ji29, hji29⟩ : ∃ j_ : Int, (wrap64 (x7_1 + 1)) = j_ := ⟨_, rfl⟩
                     replace H : (if 0 ≤ (ji29) then (if (ji29) ≤ x8_9 then (if x8_9 ≤ (a0.size : Int) then (if ((rd_T46 l1 x70_4).f0).toList = (a0.extract ((ji29) : Int).toNat (x8_9 : Int).toNat).toList then (spec_l19Fill.l2 k4 a0 l1 x6_1 x7_1 x8_9 ((rd_T46 l1 x70_4).f1) l1 (l1.length : Int) (wrap64 (x70_4 + 1))) else (spec_l19Fill.l2 k4 a0 l1 x6_1 x7_1 x8_9 x9_4 l1 (l1.length : Int) (wrap64 (x70_4 + 1)))) else (none)) else (none)) else (none)) = some (r1, r2) := by first | (rw [hji29] at H; exact H) | (simp only [hji29] at H ⊢; exact H)
                     have hji29w : (IntKind.i64.wrap (x7_1 + 1)) = ji29 := (i64_w _).trans hji29
                     by_cases c30 : 0 ≤ (ji29)
                     ·rw [if_pos c30] at H
                      have c30b0 := eq_true c30
                      have c30b1 : decide (0 ≤ (ji29)) = true := decide_eq_true c30
                      clear c30
                      by_cases c31 : (ji29) ≤ x8_9
                      ·rw [if_pos c31] at H
                       have c31b0 := eq_true c31
                       have c31b1 : decide ((ji29) ≤ x8_9) = true := decide_eq_true c31
                       clear c31
                       by_cases c32 : x8_9 ≤ (a0.size : Int)
                       ·rw [if_pos c32] at H
                        have c32b0 := eq_true c32
                        have c32b1 : decide (x8_9 ≤ (a0.size : Int)) = true := decide_eq_true c32
                        clear c32
                        by_cases c33 : ((rd_T46 l1 x70_4).f0).toList = (a0.extract ((ji29) : Int).toNat (x8_9 : Int).toNat).toList
                        ·rw [if_pos c33] at H
                         have c33b0 : (((rd_T46 l1 x70_4).f0).toList == (a0.extract ((ji29) : Int).toNat (x8_9 : Int).toNat).toList) = true := beq_iff_eq.mpr c33
                         have c33b1 : (((rd_T46 l1 x70_4).f0).toList != (a0.extract ((ji29) : Int).toNat (x8_9 : Int).toNat).toList) = false := bne_eq_false_iff_eq.mpr c33
                         clear c33
                         have H' := Aside0.mk H
                         clear H
                         have p129 : 0 ≤ (x70_4 : Int) := of_decide_eq_true hE
                         have q129 : x70_4 < (l1.length : Int) := of_decide_eq_true hE
                         obtain ⟨ad129, e129, hx129_0, hx129_1⟩ := at_T46 HR1.out x70_4 p129 q129
                         cases e129
                         replace hx129_0 := (HB.out.cell (World.block_lt_of_cell? w _ hx129_0)).trans hx129_0
                         replace hx129_1 := (HB.out.cell (World.block_lt_of_cell? w _ hx129_1)).trans hx129_1
                         replace p129 := eq_true p129
                         replace q129 := eq_true q129
                         go_wp2_with (first | ((with_reducible refine gate_dst (N := 11) rfl ?_); refine box_event rfl (N := 11) rfl (cs := #[.string (⟨#[]⟩ : ByteArray), .string (⟨#[]⟩ : ByteArray)]) (t := 46) sE ?_; intro gb130 hg w34 hbox hb; have BK130 := Aside0.mk hbox; have GW130 := gS w hg (lU); have GE130 := gS w hg (lU); replace HB := bH (lU) hb; clear hb hbox hg; have hcz35_0 := cz BK130 0 (.string (⟨#[]⟩ : ByteArray)); have hcz35_1 := cz BK130 1 (.string (⟨#[]⟩ : ByteArray)); have hfz35_0 := fz BK130 0; have hfz35_1 := fz BK130 1) | ((with_reducible refine gate_store (t := 46) (p := 11) rfl ?_); (try (rw [drewN_self w34]; generalize hq_ : World.drewN w34 _ = w34; replace BK130 := Aside0.mk (blk_at hq_ BK130.out); replace HB := Aside0.mk (below_at hq_ HB.out); clear hq_)); refine store_event (t := 46) (p := 11) (v := ?vo_w36) (w1 := ((w34.setCell ⟨gb130, 0, none⟩ (.string ((rd_T46 l1 x70_4).f0))).setCell ⟨gb130, 1, none⟩ (.string ((rd_T46 l1 x70_4).f1)))) ?hg ?ho ?hn ?hr ?_; (case ho => rfl); (case hg => rfl); (case hn => rfl); (case hr => first | (go_simp; done) | (go_simp; rfl) | (have hq0_ := (blk_cell BK130.out 0).trans (show _ = some _ from rfl); have hf0_ := blk_frozen BK130.out 0; have hq1_ := (blk_cell BK130.out 1).trans (show _ = some _ from rfl); have hf1_ := blk_frozen BK130.out 1; first | (go_simp; done) | (go_simp; rfl))); intro w36 hw; replace BK130 : Aside0 (w36.heap[gb130]? = some (.cells #[.string ((rd_T46 l1 x70_4).f0), .string ((rd_T46 l1 x70_4).f1)] 46 (0, 0))) := ⟨(by rw [hw]; exact (by refine bU ?_; refine blk_put (cs := #[.string ((rd_T46 l1 x70_4).f0), .string (⟨#[]⟩ : ByteArray)]) ?_ 1 _ rfl; refine bU ?_; refine blk_put (cs := #[.string (⟨#[]⟩ : ByteArray), .string (⟨#[]⟩ : ByteArray)]) ?_ 0 _ rfl; refine bU ?_; exact BK130.out))⟩; replace HB : Aside0 (Below w.heap.size w w36) := ⟨(by rw [hw]; exact (lV1 GE130))⟩; clear hw; have hcz37_0 := cz BK130 0 (.string ((rd_T46 l1 x70_4).f0)); have hcz37_1 := cz BK130 1 (.string ((rd_T46 l1 x70_4).f1)); have hfz37_0 := fz BK130 0; have hfz37_1 := fz BK130 1))
                         repeat (go_quiet (first | ((with_reducible refine gate_dst (N := 11) rfl ?_); refine box_event rfl (N := 11) rfl (cs := #[.string (⟨#[]⟩ : ByteArray), .string (⟨#[]⟩ : ByteArray)]) (t := 46) sE ?_; intro gb130 hg w34 hbox hb; have BK130 := Aside0.mk hbox; have GW130 := gS w hg (lU); have GE130 := gS w hg (lU); replace HB := bH (lU) hb; clear hb hbox hg; have hcz35_0 := cz BK130 0 (.string (⟨#[]⟩ : ByteArray)); have hcz35_1 := cz BK130 1 (.string (⟨#[]⟩ : ByteArray)); have hfz35_0 := fz BK130 0; have hfz35_1 := fz BK130 1) | ((with_reducible refine gate_store (t := 46) (p := 11) rfl ?_); (try (rw [drewN_self w34]; generalize hq_ : World.drewN w34 _ = w34; replace BK130 := Aside0.mk (blk_at hq_ BK130.out); replace HB := Aside0.mk (below_at hq_ HB.out); clear hq_)); refine store_event (t := 46) (p := 11) (v := ?vo_w36) (w1 := ((w34.setCell ⟨gb130, 0, none⟩ (.string ((rd_T46 l1 x70_4).f0))).setCell ⟨gb130, 1, none⟩ (.string ((rd_T46 l1 x70_4).f1)))) ?hg ?ho ?hn ?hr ?_; (case ho => rfl); (case hg => rfl); (case hn => rfl); (case hr => first | (go_simp; done) | (go_simp; rfl) | (have hq0_ := (blk_cell BK130.out 0).trans (show _ = some _ from rfl); have hf0_ := blk_frozen BK130.out 0; have hq1_ := (blk_cell BK130.out 1).trans (show _ = some _ from rfl); have hf1_ := blk_frozen BK130.out 1; first | (go_simp; done) | (go_simp; rfl))); intro w36 hw; replace BK130 : Aside0 (w36.heap[gb130]? = some (.cells #[.string ((rd_T46 l1 x70_4).f0), .string ((rd_T46 l1 x70_4).f1)] 46 (0, 0))) := ⟨(by rw [hw]; exact (by refine bU ?_; refine blk_put (cs := #[.string ((rd_T46 l1 x70_4).f0), .string (⟨#[]⟩ : ByteArray)]) ?_ 1 _ rfl; refine bU ?_; refine blk_put (cs := #[.string (⟨#[]⟩ : ByteArray), .string (⟨#[]⟩ : ByteArray)]) ?_ 0 _ rfl; refine bU ?_; exact BK130.out))⟩; replace HB : Aside0 (Below w.heap.size w w36) := ⟨(by rw [hw]; exact (lV1 GE130))⟩; clear hw; have hcz37_0 := cz BK130 0 (.string ((rd_T46 l1 x70_4).f0)); have hcz37_1 := cz BK130 1 (.string ((rd_T46 l1 x70_4).f1)); have hfz37_0 := fz BK130 0; have hfz37_1 := fz BK130 1)); try go_wp2_with (first | ((with_reducible refine gate_dst (N := 11) rfl ?_); refine box_event rfl (N := 11) rfl (cs := #[.string (⟨#[]⟩ : ByteArray), .string (⟨#[]⟩ : ByteArray)]) (t := 46) sE ?_; intro gb130 hg w34 hbox hb; have BK130 := Aside0.mk hbox; have GW130 := gS w hg (lU); have GE130 := gS w hg (lU); replace HB := bH (lU) hb; clear hb hbox hg; have hcz35_0 := cz BK130 0 (.string (⟨#[]⟩ : ByteArray)); have hcz35_1 := cz BK130 1 (.string (⟨#[]⟩ : ByteArray)); have hfz35_0 := fz BK130 0; have hfz35_1 := fz BK130 1) | ((with_reducible refine gate_store (t := 46) (p := 11) rfl ?_); (try (rw [drewN_self w34]; generalize hq_ : World.drewN w34 _ = w34; replace BK130 := Aside0.mk (blk_at hq_ BK130.out); replace HB := Aside0.mk (below_at hq_ HB.out); clear hq_)); refine store_event (t := 46) (p := 11) (v := ?vo_w36) (w1 := ((w34.setCell ⟨gb130, 0, none⟩ (.string ((rd_T46 l1 x70_4).f0))).setCell ⟨gb130, 1, none⟩ (.string ((rd_T46 l1 x70_4).f1)))) ?hg ?ho ?hn ?hr ?_; (case ho => rfl); (case hg => rfl); (case hn => rfl); (case hr => first | (go_simp; done) | (go_simp; rfl) | (have hq0_ := (blk_cell BK130.out 0).trans (show _ = some _ from rfl); have hf0_ := blk_frozen BK130.out 0; have hq1_ := (blk_cell BK130.out 1).trans (show _ = some _ from rfl); have hf1_ := blk_frozen BK130.out 1; first | (go_simp; done) | (go_simp; rfl))); intro w36 hw; replace BK130 : Aside0 (w36.heap[gb130]? = some (.cells #[.string ((rd_T46 l1 x70_4).f0), .string ((rd_T46 l1 x70_4).f1)] 46 (0, 0))) := ⟨(by rw [hw]; exact (by refine bU ?_; refine blk_put (cs := #[.string ((rd_T46 l1 x70_4).f0), .string (⟨#[]⟩ : ByteArray)]) ?_ 1 _ rfl; refine bU ?_; refine blk_put (cs := #[.string (⟨#[]⟩ : ByteArray), .string (⟨#[]⟩ : ByteArray)]) ?_ 0 _ rfl; refine bU ?_; exact BK130.out))⟩; replace HB : Aside0 (Below w.heap.size w w36) := ⟨(by rw [hw]; exact (lV1 GE130))⟩; clear hw; have hcz37_0 := cz BK130 0 (.string ((rd_T46 l1 x70_4).f0)); have hcz37_1 := cz BK130 1 (.string ((rd_T46 l1 x70_4).f1)); have hfz37_0 := fz BK130 0; have hfz37_1 := fz BK130 1)))
                         go_roundg k4
                         case measure => have := HK1.out; have := HJ9.out; have := HJ14.out; have := HK4.out; omega
                         case rel => exact ⟨((rd_T46 l1 x70_4).f1), (wrap64 (x70_4 + 1)), tE, tE, H', ⟨by have := HK1.out; have := HJ9.out; have := HJ14.out; have := HK4.out; omega⟩, ⟨by repeat (first | (with_reducible first | exact HB.out | apply below_alloc | apply pw_below_drewN | apply below_drew1 | refine below_set ?_ GE130.out) | exact HB.out)⟩⟩
                        ·rw [if_neg c33] at H
                         have c33b0 : (((rd_T46 l1 x70_4).f0).toList == (a0.extract ((ji29) : Int).toNat (x8_9 : Int).toNat).toList) = false := beq_eq_false_iff_ne.mpr c33
                         have c33b1 : (((rd_T46 l1 x70_4).f0).toList != (a0.extract ((ji29) : Int).toNat (x8_9 : Int).toNat).toList) = true := bne_iff_ne.mpr c33
                         have H' := Aside0.mk H
                         clear H
                         have p129 : 0 ≤ (x70_4 : Int) := of_decide_eq_true hE
                         have q129 : x70_4 < (l1.length : Int) := of_decide_eq_true hE
                         obtain ⟨ad129, e129, hx129_0, hx129_1⟩ := at_T46 HR1.out x70_4 p129 q129
                         cases e129
                         replace hx129_0 := (HB.out.cell (World.block_lt_of_cell? w _ hx129_0)).trans hx129_0
                         replace hx129_1 := (HB.out.cell (World.block_lt_of_cell? w _ hx129_1)).trans hx129_1
                         replace p129 := eq_true p129
                         replace q129 := eq_true q129
                         go_wp2_with (first | ((with_reducible refine gate_dst (N := 11) rfl ?_); refine box_event rfl (N := 11) rfl (cs := #[.string (⟨#[]⟩ : ByteArray), .string (⟨#[]⟩ : ByteArray)]) (t := 46) sE ?_; intro gb130 hg w38 hbox hb; have BK130 := Aside0.mk hbox; have GW130 := gS w hg (lU); have GE130 := gS w hg (lU); replace HB := bH (lU) hb; clear hb hbox hg; have hcz39_0 := cz BK130 0 (.string (⟨#[]⟩ : ByteArray)); have hcz39_1 := cz BK130 1 (.string (⟨#[]⟩ : ByteArray)); have hfz39_0 := fz BK130 0; have hfz39_1 := fz BK130 1) | ((with_reducible refine gate_store (t := 46) (p := 11) rfl ?_); (try (rw [drewN_self w38]; generalize hq_ : World.drewN w38 _ = w38; replace BK130 := Aside0.mk (blk_at hq_ BK130.out); replace HB := Aside0.mk (below_at hq_ HB.out); clear hq_)); refine store_event (t := 46) (p := 11) (v := ?vo_w40) (w1 := ((w38.setCell ⟨gb130, 0, none⟩ (.string ((rd_T46 l1 x70_4).f0))).setCell ⟨gb130, 1, none⟩ (.string ((rd_T46 l1 x70_4).f1)))) ?hg ?ho ?hn ?hr ?_; (case ho => rfl); (case hg => rfl); (case hn => rfl); (case hr => first | (go_simp; done) | (go_simp; rfl) | (have hq0_ := (blk_cell BK130.out 0).trans (show _ = some _ from rfl); have hf0_ := blk_frozen BK130.out 0; have hq1_ := (blk_cell BK130.out 1).trans (show _ = some _ from rfl); have hf1_ := blk_frozen BK130.out 1; first | (go_simp; done) | (go_simp; rfl))); intro w40 hw; replace BK130 : Aside0 (w40.heap[gb130]? = some (.cells #[.string ((rd_T46 l1 x70_4).f0), .string ((rd_T46 l1 x70_4).f1)] 46 (0, 0))) := ⟨(by rw [hw]; exact (by refine bU ?_; refine blk_put (cs := #[.string ((rd_T46 l1 x70_4).f0), .string (⟨#[]⟩ : ByteArray)]) ?_ 1 _ rfl; refine bU ?_; refine blk_put (cs := #[.string (⟨#[]⟩ : ByteArray), .string (⟨#[]⟩ : ByteArray)]) ?_ 0 _ rfl; refine bU ?_; exact BK130.out))⟩; replace HB : Aside0 (Below w.heap.size w w40) := ⟨(by rw [hw]; exact (lV1 GE130))⟩; clear hw; have hcz41_0 := cz BK130 0 (.string ((rd_T46 l1 x70_4).f0)); have hcz41_1 := cz BK130 1 (.string ((rd_T46 l1 x70_4).f1)); have hfz41_0 := fz BK130 0; have hfz41_1 := fz BK130 1))
                         repeat (go_quiet (first | ((with_reducible refine gate_dst (N := 11) rfl ?_); refine box_event rfl (N := 11) rfl (cs := #[.string (⟨#[]⟩ : ByteArray), .string (⟨#[]⟩ : ByteArray)]) (t := 46) sE ?_; intro gb130 hg w38 hbox hb; have BK130 := Aside0.mk hbox; have GW130 := gS w hg (lU); have GE130 := gS w hg (lU); replace HB := bH (lU) hb; clear hb hbox hg; have hcz39_0 := cz BK130 0 (.string (⟨#[]⟩ : ByteArray)); have hcz39_1 := cz BK130 1 (.string (⟨#[]⟩ : ByteArray)); have hfz39_0 := fz BK130 0; have hfz39_1 := fz BK130 1) | ((with_reducible refine gate_store (t := 46) (p := 11) rfl ?_); (try (rw [drewN_self w38]; generalize hq_ : World.drewN w38 _ = w38; replace BK130 := Aside0.mk (blk_at hq_ BK130.out); replace HB := Aside0.mk (below_at hq_ HB.out); clear hq_)); refine store_event (t := 46) (p := 11) (v := ?vo_w40) (w1 := ((w38.setCell ⟨gb130, 0, none⟩ (.string ((rd_T46 l1 x70_4).f0))).setCell ⟨gb130, 1, none⟩ (.string ((rd_T46 l1 x70_4).f1)))) ?hg ?ho ?hn ?hr ?_; (case ho => rfl); (case hg => rfl); (case hn => rfl); (case hr => first | (go_simp; done) | (go_simp; rfl) | (have hq0_ := (blk_cell BK130.out 0).trans (show _ = some _ from rfl); have hf0_ := blk_frozen BK130.out 0; have hq1_ := (blk_cell BK130.out 1).trans (show _ = some _ from rfl); have hf1_ := blk_frozen BK130.out 1; first | (go_simp; done) | (go_simp; rfl))); intro w40 hw; replace BK130 : Aside0 (w40.heap[gb130]? = some (.cells #[.string ((rd_T46 l1 x70_4).f0), .string ((rd_T46 l1 x70_4).f1)] 46 (0, 0))) := ⟨(by rw [hw]; exact (by refine bU ?_; refine blk_put (cs := #[.string ((rd_T46 l1 x70_4).f0), .string (⟨#[]⟩ : ByteArray)]) ?_ 1 _ rfl; refine bU ?_; refine blk_put (cs := #[.string (⟨#[]⟩ : ByteArray), .string (⟨#[]⟩ : ByteArray)]) ?_ 0 _ rfl; refine bU ?_; exact BK130.out))⟩; replace HB : Aside0 (Below w.heap.size w w40) := ⟨(by rw [hw]; exact (lV1 GE130))⟩; clear hw; have hcz41_0 := cz BK130 0 (.string ((rd_T46 l1 x70_4).f0)); have hcz41_1 := cz BK130 1 (.string ((rd_T46 l1 x70_4).f1)); have hfz41_0 := fz BK130 0; have hfz41_1 := fz BK130 1)); try go_wp2_with (first | ((with_reducible refine gate_dst (N := 11) rfl ?_); refine box_event rfl (N := 11) rfl (cs := #[.string (⟨#[]⟩ : ByteArray), .string (⟨#[]⟩ : ByteArray)]) (t := 46) sE ?_; intro gb130 hg w38 hbox hb; have BK130 := Aside0.mk hbox; have GW130 := gS w hg (lU); have GE130 := gS w hg (lU); replace HB := bH (lU) hb; clear hb hbox hg; have hcz39_0 := cz BK130 0 (.string (⟨#[]⟩ : ByteArray)); have hcz39_1 := cz BK130 1 (.string (⟨#[]⟩ : ByteArray)); have hfz39_0 := fz BK130 0; have hfz39_1 := fz BK130 1) | ((with_reducible refine gate_store (t := 46) (p := 11) rfl ?_); (try (rw [drewN_self w38]; generalize hq_ : World.drewN w38 _ = w38; replace BK130 := Aside0.mk (blk_at hq_ BK130.out); replace HB := Aside0.mk (below_at hq_ HB.out); clear hq_)); refine store_event (t := 46) (p := 11) (v := ?vo_w40) (w1 := ((w38.setCell ⟨gb130, 0, none⟩ (.string ((rd_T46 l1 x70_4).f0))).setCell ⟨gb130, 1, none⟩ (.string ((rd_T46 l1 x70_4).f1)))) ?hg ?ho ?hn ?hr ?_; (case ho => rfl); (case hg => rfl); (case hn => rfl); (case hr => first | (go_simp; done) | (go_simp; rfl) | (have hq0_ := (blk_cell BK130.out 0).trans (show _ = some _ from rfl); have hf0_ := blk_frozen BK130.out 0; have hq1_ := (blk_cell BK130.out 1).trans (show _ = some _ from rfl); have hf1_ := blk_frozen BK130.out 1; first | (go_simp; done) | (go_simp; rfl))); intro w40 hw; replace BK130 : Aside0 (w40.heap[gb130]? = some (.cells #[.string ((rd_T46 l1 x70_4).f0), .string ((rd_T46 l1 x70_4).f1)] 46 (0, 0))) := ⟨(by rw [hw]; exact (by refine bU ?_; refine blk_put (cs := #[.string ((rd_T46 l1 x70_4).f0), .string (⟨#[]⟩ : ByteArray)]) ?_ 1 _ rfl; refine bU ?_; refine blk_put (cs := #[.string (⟨#[]⟩ : ByteArray), .string (⟨#[]⟩ : ByteArray)]) ?_ 0 _ rfl; refine bU ?_; exact BK130.out))⟩; replace HB : Aside0 (Below w.heap.size w w40) := ⟨(by rw [hw]; exact (lV1 GE130))⟩; clear hw; have hcz41_0 := cz BK130 0 (.string ((rd_T46 l1 x70_4).f0)); have hcz41_1 := cz BK130 1 (.string ((rd_T46 l1 x70_4).f1)); have hfz41_0 := fz BK130 0; have hfz41_1 := fz BK130 1)))
                         go_roundg k4
                         case measure => have := HK1.out; have := HJ9.out; have := HJ14.out; have := HK4.out; omega
                         case rel => exact ⟨(x9_4), (wrap64 (x70_4 + 1)), tE, tE, H', ⟨by have := HK1.out; have := HJ9.out; have := HJ14.out; have := HK4.out; omega⟩, ⟨by repeat (first | (with_reducible first | exact HB.out | apply below_alloc | apply pw_below_drewN | apply below_drew1 | refine below_set ?_ GE130.out) | exact HB.out)⟩⟩
                       ·rw [if_neg c32] at H
                        exact absurd H (by simp)
                      ·rw [if_neg c31] at H
                       exact absurd H (by simp)
                     ·rw [if_neg c30] at H
                      exact absurd H (by simp)
                    ·rw [if_neg c28] at H
                     exact absurd H (by simp)
                   ·rw [if_neg c27] at H
                    exact absurd H (by simp)
                  ·rw [if_neg c26] at H
                   have c26b0 : decide (x70_4 < (l1.length : Int)) = false := decide_eq_false c26
                   clear c26
                   by_cases c42 : x6_1.size + x9_4.size ≤ 9223372036854775807
                   ·rw [if_pos c42] at H
                    have c42b0 := eq_true c42
                    have c42b1 : decide (x6_1.size + x9_4.size ≤ 9223372036854775807) = true := decide_eq_true c42
                    try have c42b2 : (9223372036854775807 < x6_1.size + x9_4.size) = False := eq_false (Nat.not_lt.2 c42)
                    have H' := Aside0.mk H
                    clear H
                    go_wp2
                    repeat (go_quiet (fail); try go_wp2)
                    go_roundg k4
                    case measure => have := HK1.out; have := HJ9.out; have := HJ14.out; have := HK4.out; omega
                    case rel => exact ⟨(x6_1 ++ x9_4), (wrap64 (x8_9 + 1)), tE, tE, H', ⟨by have := HK1.out; have := HJ9.out; have := HJ14.out; have := HK4.out; omega⟩, ⟨by repeat (first | (with_reducible first | exact HB.out | apply below_alloc | apply pw_below_drewN | apply below_drew1) | exact HB.out)⟩⟩
                   ·rw [if_neg c42] at H
                    exact absurd H (by simp)
               ·rw [if_neg c25] at H
                exact absurd H (by simp)
              ·rw [if_neg c24] at H
               exact absurd H (by simp)
             ·rw [if_neg c23] at H
              exact absurd H (by simp)
       ·rw [if_neg c9] at H
        have c9b0 : ((bt a0 x7_1) == 123) = false := beq_eq_false_iff_ne.mpr c9
        have c9b1 : ((bt a0 x7_1) != 123) = true := bne_iff_ne.mpr c9
        have c43b0 := eq_true (of_decide_eq_true hE : 0 ≤ x7_1)
        by_cases c44 : x7_1 ≤ (wrap64 (x7_1 + 1))
        ·rw [if_pos c44] at H
         have c44b0 := eq_true c44
         have c44b1 : decide (x7_1 ≤ (wrap64 (x7_1 + 1))) = true := decide_eq_true c44
         by_cases c45 : (wrap64 (x7_1 + 1)) ≤ (a0.size : Int)
         ·rw [if_pos c45] at H
          have c45b0 := eq_true c45
          have c45b1 : decide ((wrap64 (x7_1 + 1)) ≤ (a0.size : Int)) = true := decide_eq_true c45
          by_cases c46 : x6_1.size + (a0.extract (x7_1 : Int).toNat ((wrap64 (x7_1 + 1)) : Int).toNat).size ≤ 9223372036854775807
          ·rw [if_pos c46] at H
           have c46b0 := eq_true c46
           have c46b1 : decide (x6_1.size + (a0.extract (x7_1 : Int).toNat ((wrap64 (x7_1 + 1)) : Int).toNat).size ≤ 9223372036854775807) = true := decide_eq_true c46
           try have c46b2 : (9223372036854775807 < x6_1.size + (a0.extract (x7_1 : Int).toNat ((wrap64 (x7_1 + 1)) : Int).toNat).size) = False := eq_false (Nat.not_lt.2 c46)
           have H' := Aside0.mk H
           clear H
           have p6 : 0 ≤ (x7_1 : Int) := of_decide_eq_true hE
           have q6 : x7_1 < (a0.size : Int) := of_decide_eq_true hE
           have hx6 := bt_at a0 x7_1
           replace p6 := eq_true p6
           replace q6 := eq_true q6
           have p8 : 0 ≤ (x7_1 : Int) := of_decide_eq_true hE
           have q8 : x7_1 < (a0.size : Int) := of_decide_eq_true hE
           have hx8 := bt_at a0 x7_1
           replace p8 := eq_true p8
           replace q8 := eq_true q8
           go_wp2
           repeat (go_quiet (fail); try go_wp2)
           go_roundg k1
           case measure => have := HK1.out; omega
           case rel => exact ⟨(x6_1 ++ (a0.extract (x7_1 : Int).toNat ((wrap64 (x7_1 + 1)) : Int).toNat)), (wrap64 (x7_1 + 1)), tE, tE, H', ⟨by have := HK1.out; omega⟩, ⟨by repeat (first | (with_reducible first | exact HB.out | apply below_alloc | apply pw_below_drewN | apply below_drew1) | exact HB.out)⟩⟩
          ·rw [if_neg c46] at H
           exact absurd H (by simp)
         ·rw [if_neg c45] at H
          exact absurd H (by simp)
        ·rw [if_neg c44] at H
         exact absurd H (by simp)
     ·rw [if_neg c5] at H
      exact absurd H (by simp)
    ·rw [if_neg c4] at H
     have c4b0 : decide (x7_1 < (a0.size : Int)) = false := decide_eq_false c4
     clear c4
     simp only [Option.some.injEq, Prod.mk.injEq] at H
     obtain ⟨rfl, rfl⟩ := H
     go_wp2
     repeat (go_quiet (fail); try go_wp2)
     go_ret2
     exact ⟨eE, lU⟩
end Go.Proofs.Ytnacjhgpanedoac.PFnExactGoodEntries
namespace Go.Proofs.Ytnacjhgpanedoac.PFnExactGoodEntries
open Go.RowKit Go.Proofs.YtnacjhgpanedoacW.PrintWords Go.Proofs.YtnacjhgpanedoacW.PrintLast Go.Proofs.YtnacjhgpanedoacW.PrintMore
attribute [local go_sem] max2_int min2_int max_two min_two max_three min_three max_four min_four   -- for this text's walks alone
set_option linter.unusedVariables false
set_option linter.unusedSimpArgs false
mutual
def spec_GoodEntries.j0 : Nat → List (S36) → Int → Bool → Option (Bool)
 | 0, _, _, _ => none
 | k + 1, x1, x5, x22 => if x22 = true then (some false) else (spec_GoodEntries.l0 k x5 x1 (x1.length : Int) 0)
def spec_GoodEntries.l0 : Nat → Int → List (S36) → Int → Int → Option (Bool)
 | 0, _, _, _, _ => none
 | k + 1, x5, x23, x24, x25 => if x25 < x24 then (if 0 ≤ x25 then (if x25 < (x23.length : Int) then (if (rd_T36 x23 x25).f2 = true then (spec_GoodEntries.j2 k x5 x5 x23 x24 x25 ((rd_T36 x23 x25).f0) ((rd_T36 x23 x25).f1) true) else (spec_GoodEntries.j2 k x5 1 x23 x24 x25 ((rd_T36 x23 x25).f0) ((rd_T36 x23 x25).f1) false)) else (none)) else (none)) else (some true)
def spec_GoodEntries.j2 : Nat → Int → Int → List (S36) → Int → Int → ByteArray → List ByteArray → Bool → Option (Bool)
 | 0, _, _, _, _, _, _, _, _ => none
 | k + 1, x5, x8, x23, x24, x25, x137000, x137001, x137002 => if (x137001.length : Int) = x8 then (spec_GoodEntries.l1 k x5 x23 x24 x25 x137001 (x137001.length : Int) 0) else (some false)
def spec_GoodEntries.l1 : Nat → Int → List (S36) → Int → Int → List ByteArray → Int → Int → Option (Bool)
 | 0, _, _, _, _, _, _, _ => none
 | k + 1, x5, x23, x24, x25, x38, x39, x40 => if x40 < x39 then (if 0 ≤ x40 then (if x40 < (x38.length : Int) then ((spec_l19Fill.f k (rdOf ByteArray.empty x38 x40) ([] : List (S46))).bind fun bt138 => (if bt138.2 = true then (spec_GoodEntries.l1 k x5 x23 x24 x25 x38 x39 (wrap64 (x40 + 1))) else (some false))) else (none)) else (none)) else (spec_GoodEntries.l0 k x5 x23 x24 (wrap64 (x25 + 1)))
end
def spec_GoodEntries.f (k : Nat) (a0 : ByteArray) (l1 : List (S36)) : Option (Bool) := (spec_FormsOf.f k a0).bind fun t131 => (if (t131.length : Int) = 0 then (spec_GoodEntries.j0 k l1 (t131.length : Int) true) else ((spec_l19Keys.f k l1).bind fun t134 => (spec_GoodEntries.j0 k l1 (t131.length : Int) (!t134))))
theorem spec_GoodEntries.mono_l : ∀ k, (∀ y0 y1 y2, LeO (spec_GoodEntries.j0 k y0 y1 y2) (spec_GoodEntries.j0 (k + 1) y0 y1 y2)) ∧ (∀ y0 y1 y2 y3, LeO (spec_GoodEntries.l0 k y0 y1 y2 y3) (spec_GoodEntries.l0 (k + 1) y0 y1 y2 y3)) ∧ (∀ y0 y1 y2 y3 y4 y5 y6 y7, LeO (spec_GoodEntries.j2 k y0 y1 y2 y3 y4 y5 y6 y7) (spec_GoodEntries.j2 (k + 1) y0 y1 y2 y3 y4 y5 y6 y7)) ∧ (∀ y0 y1 y2 y3 y4 y5 y6, LeO (spec_GoodEntries.l1 k y0 y1 y2 y3 y4 y5 y6) (spec_GoodEntries.l1 (k + 1) y0 y1 y2 y3 y4 y5 y6))
 | 0 => ⟨fun _ _ _ r h => by simp [spec_GoodEntries.j0] at h, fun _ _ _ _ r h => by simp [spec_GoodEntries.l0] at h, fun _ _ _ _ _ _ _ _ r h => by simp [spec_GoodEntries.j2] at h, fun _ _ _ _ _ _ _ r h => by simp [spec_GoodEntries.l1] at h⟩
 | k + 1 => by
  obtain ⟨ih0, ih1, ih2, ih3⟩ := spec_GoodEntries.mono_l k
  refine ⟨?_, ?_, ?_, ?_⟩
  ·intro y0 y1 y2
   unfold spec_GoodEntries.j0
   repeat' first
   | (with_reducible exact ih0 _ _ _)
   | (with_reducible exact ih1 _ _ _ _)
   | (with_reducible exact ih2 _ _ _ _ _ _ _ _)
   | (with_reducible exact ih3 _ _ _ _ _ _ _)
   | (with_reducible exact spec_FormsOf.mono _ _)
   | (with_reducible exact spec_l19Fill.mono _ _ _)
   | (with_reducible exact spec_l19Keys.mono _ _)
   | (with_reducible first | exact LeO.refl _ | exact LeO.none _ | refine LeO.ite ?_ ?_ | refine LeO.bind ?_ (fun _ => ?_))
   | exact ih0 _ _ _
   | exact ih1 _ _ _ _
   | exact ih2 _ _ _ _ _ _ _ _
   | exact ih3 _ _ _ _ _ _ _
   | exact spec_FormsOf.mono _ _
   | exact spec_l19Fill.mono _ _ _
   | exact spec_l19Keys.mono _ _ | exact LeO.none _ | refine LeO.ite ?_ ?_ | refine LeO.bind ?_ (fun _ => ?_)
  ·intro y0 y1 y2 y3
   unfold spec_GoodEntries.l0
   repeat' first
   | (with_reducible exact ih0 _ _ _)
   | (with_reducible exact ih1 _ _ _ _)
   | (with_reducible exact ih2 _ _ _ _ _ _ _ _)
   | (with_reducible exact ih3 _ _ _ _ _ _ _)
   | (with_reducible exact spec_FormsOf.mono _ _)
   | (with_reducible exact spec_l19Fill.mono _ _ _)
   | (with_reducible exact spec_l19Keys.mono _ _)
   | (with_reducible first | exact LeO.refl _ | exact LeO.none _ | refine LeO.ite ?_ ?_ | refine LeO.bind ?_ (fun _ => ?_))
   | exact ih0 _ _ _
   | exact ih1 _ _ _ _
   | exact ih2 _ _ _ _ _ _ _ _
   | exact ih3 _ _ _ _ _ _ _
   | exact spec_FormsOf.mono _ _
   | exact spec_l19Fill.mono _ _ _
   | exact spec_l19Keys.mono _ _ | exact LeO.none _ | refine LeO.ite ?_ ?_ | refine LeO.bind ?_ (fun _ => ?_)
  ·intro y0 y1 y2 y3 y4 y5 y6 y7
   unfold spec_GoodEntries.j2
   repeat' first
   | (with_reducible exact ih0 _ _ _)
   | (with_reducible exact ih1 _ _ _ _)
   | (with_reducible exact ih2 _ _ _ _ _ _ _ _)
   | (with_reducible exact ih3 _ _ _ _ _ _ _)
   | (with_reducible exact spec_FormsOf.mono _ _)
   | (with_reducible exact spec_l19Fill.mono _ _ _)
   | (with_reducible exact spec_l19Keys.mono _ _)
   | (with_reducible first | exact LeO.refl _ | exact LeO.none _ | refine LeO.ite ?_ ?_ | refine LeO.bind ?_ (fun _ => ?_))
   | exact ih0 _ _ _
   | exact ih1 _ _ _ _
   | exact ih2 _ _ _ _ _ _ _ _
   | exact ih3 _ _ _ _ _ _ _
   | exact spec_FormsOf.mono _ _
   | exact spec_l19Fill.mono _ _ _
   | exact spec_l19Keys.mono _ _ | exact LeO.none _ | refine LeO.ite ?_ ?_ | refine LeO.bind ?_ (fun _ => ?_)
  ·intro y0 y1 y2 y3 y4 y5 y6
   unfold spec_GoodEntries.l1
   repeat' first
   | (with_reducible exact ih0 _ _ _)
   | (with_reducible exact ih1 _ _ _ _)
   | (with_reducible exact ih2 _ _ _ _ _ _ _ _)
   | (with_reducible exact ih3 _ _ _ _ _ _ _)
   | (with_reducible exact spec_FormsOf.mono _ _)
   | (with_reducible exact spec_l19Fill.mono _ _ _)
   | (with_reducible exact spec_l19Keys.mono _ _)
   | (with_reducible first | exact LeO.refl _ | exact LeO.none _ | refine LeO.ite ?_ ?_ | refine LeO.bind ?_ (fun _ => ?_))
   | exact ih0 _ _ _
   | exact ih1 _ _ _ _
   | exact ih2 _ _ _ _ _ _ _ _
   | exact ih3 _ _ _ _ _ _ _
   | exact spec_FormsOf.mono _ _
   | exact spec_l19Fill.mono _ _ _
   | exact spec_l19Keys.mono _ _ | exact LeO.none _ | refine LeO.ite ?_ ?_ | refine LeO.bind ?_ (fun _ => ?_)
theorem spec_GoodEntries.mono : ∀ a0 a1 k, LeO (spec_GoodEntries.f k a0 a1) (spec_GoodEntries.f (k + 1) a0 a1) := by
 intro a0 a1 k
 obtain ⟨ih0, ih1, ih2, ih3⟩ := spec_GoodEntries.mono_l k
 unfold spec_GoodEntries.f
 repeat' first
   | (with_reducible exact ih0 _ _ _)
   | (with_reducible exact ih1 _ _ _ _)
   | (with_reducible exact ih2 _ _ _ _ _ _ _ _)
   | (with_reducible exact ih3 _ _ _ _ _ _ _)
   | (with_reducible exact spec_FormsOf.mono _ _)
   | (with_reducible exact spec_l19Fill.mono _ _ _)
   | (with_reducible exact spec_l19Keys.mono _ _)
   | (with_reducible first | exact LeO.refl _ | exact LeO.none _ | refine LeO.ite ?_ ?_ | refine LeO.bind ?_ (fun _ => ?_))
   | exact ih0 _ _ _
   | exact ih1 _ _ _ _
   | exact ih2 _ _ _ _ _ _ _ _
   | exact ih3 _ _ _ _ _ _ _
   | exact spec_FormsOf.mono _ _
   | exact spec_l19Fill.mono _ _ _
   | exact spec_l19Keys.mono _ _ | exact LeO.none _ | refine LeO.ite ?_ ?_ | refine LeO.bind ?_ (fun _ => ?_)
set_option maxHeartbeats 8000000 in
set_option maxRecDepth 100000 in
theorem spec_GoodEntries.calls (k : Nat) (a0 : ByteArray) (A1 : Option Addr) (c1 : Nat) (l1 : List (S36)) (r : Bool) (w : World) (hr1 : Kd.C k36 w A1 l1.length l1) (hc1 : l1.length ≤ c1) (h : spec_GoodEntries.f k a0 l1 = some r) :
  Calls Try.prog 5 #[.string a0, .slice A1 l1.length c1] w fun e w' => e = .returned (.bool r) ∧ Below w.heap.size w w' := by
 have hu36 := Try.underlying36
 have HR1 := Aside0.mk hr1
 have HC1 := Aside0.mk hc1
 clear hr1 hc1
 have HB := Aside0.mk (Below.refl w.heap.size w)
 have H : ((spec_FormsOf.f k a0).bind fun t131 => (if (t131.length : Int) = 0 then (spec_GoodEntries.j0 k l1 (t131.length : Int) true) else ((spec_l19Keys.f k l1).bind fun t134 => (spec_GoodEntries.j0 k l1 (t131.length : Int) (!t134))))) = some r := h
 clear h
 replace H := Option.bind_eq_some_iff.mp H
 obtain ⟨t131, A30, H⟩ := H
 replace H : (if (t131.length : Int) = 0 then (spec_GoodEntries.j0 k l1 (t131.length : Int) true) else ((spec_l19Keys.f k l1).bind fun t134 => (spec_GoodEntries.j0 k l1 (t131.length : Int) (!t134)))) = some r := H
 have A3 := Aside0.mk A30
 clear A30
 have HC4 := Aside0.mk H
 clear H
 go_enter Try.func5, Try.ntmps5
 go_upto_region 2 with (first | ((with_reducible refine gate_callee (f := 10) rfl ?_); refine goesL_ (some 14) rfl rfl Try.func10 (by kernel_rfl) rfl #[.string a0] rfl aE ?_; (with_reducible refine (spec_FormsOf.calls k a0 t131 _ A3.out).mono ?_); rintro e w5 ⟨v132, rfl, ho0, hb⟩; refine ⟨_, rfl, ?_⟩; have HO133 := Aside0.mk (Kd.R_lower ho0 (below_size (lU))); replace HB := bH (lU) hb; (try clear hb); (try clear ho0); obtain ⟨Ao6, co6, eo6⟩ := Kd.R_slice HO133.out; subst eo6))
 (try simp only [Act.put, List.setIfInBounds_toArray, List.set_cons_zero, List.set_cons_succ])
 go_cut [22] (fun v22 wc => ∃ (kq : Nat) (x22_3 : Bool), v22 = .bool x22_3 ∧ Aside0 (spec_GoodEntries.j0 kq l1 (t131.length : Int) x22_3 = some r) ∧ Aside0 (kq ≤ k) ∧ Aside0 (Below w.heap.size w wc))
 case first =>
  have H := HC4.out
  clear HC4
  by_cases c7 : (t131.length : Int) = 0
  ·rw [if_pos c7] at H
   have c7b0 : ((t131.length : Int) == 0) = true := beq_iff_eq.mpr c7
   have c7b1 : ((t131.length : Int) != 0) = false := bne_eq_false_iff_eq.mpr c7
   clear c7
   (first | rw [c7b0] | (simp only [i64_w, i32_w]; rw [c7b0]) | (rw [c7b2]; simp only [Bool.not_false, Bool.not_true]) | skip)
   have H' := Aside0.mk H
   clear H
   go_wp2
   go_meet
   case rel => exact ⟨_, (true), tE, H', ⟨by first | omega | exact Nat.le_refl _⟩, ⟨by repeat (first | (with_reducible first | exact HB.out | apply below_alloc | apply pw_below_drewN | apply below_drew1) | exact HB.out)⟩⟩
  ·rw [if_neg c7] at H
   have c7b0 : ((t131.length : Int) == 0) = false := beq_eq_false_iff_ne.mpr c7
   have c7b1 : ((t131.length : Int) != 0) = true := bne_iff_ne.mpr c7
   have c7b2 : ¬ (t131 = []) := fun h_ => c7 (by rw [h_]; rfl)
   (first | rw [c7b0] | (simp only [i64_w, i32_w]; rw [c7b0]) | (rw [c7b2]; simp only [Bool.not_false, Bool.not_true]) | skip)
   replace H := Option.bind_eq_some_iff.mp H
   obtain ⟨t134, A80, H⟩ := H
   replace H : (spec_GoodEntries.j0 k l1 (t131.length : Int) (!t134)) = some r := H
   have A8 := Aside0.mk A80
   clear A80
   have H' := Aside0.mk H
   clear H
   go_wp2_with (first | (go_at_call 11; (with_reducible refine (spec_l19Keys.calls k _ _ l1 t134 _ ?side1 ?side2 A8.out).mono ?_); (case side1 => exact cU (Kd.C_below HR1.out HB.out)); (case side2 => exact HC1.out); rintro e w9 ⟨rfl, hb⟩; replace HO133 := Aside0.mk (Kd.R_below (rU HO133.out) hb); replace HB := bH (lU) hb; (try clear hb)))
   go_meet
   case rel => exact ⟨_, (!t134), tE, H', ⟨by first | omega | exact Nat.le_refl _⟩, ⟨by repeat (first | (with_reducible first | exact HB.out | apply below_alloc | apply pw_below_drewN | apply below_drew1) | exact HB.out)⟩⟩
 case rest =>
  clear HC4
  try clear c1
  try clear p2
  try clear c5
  try clear c7
  try clear c7b0
  try clear c7b1
  try clear c7b2
  obtain ⟨kq, x22_3, rfl, HA, HJ3, HB⟩ := hcut
  cases kq with
  | zero => exact absurd HA.out (by simp [spec_GoodEntries.j0])
  | succ kj3 =>
   have H := HA.out
   clear HA
   simp only [spec_GoodEntries.j0] at H
   by_cases c10 : x22_3 = true
   ·subst c10
    have H1 : (some false) = some r := by rw [if_pos rfl] at H; exact H
    clear H
    have H := H1
    clear H1
    obtain rfl := Option.some.inj H
    go_wp2
    go_ret
    exact ⟨eE, lU⟩
   ·replace c10 := Bool.eq_false_iff.mpr c10
    subst c10
    have H1 : (spec_GoodEntries.l0 kj3 (t131.length : Int) l1 (l1.length : Int) 0) = some r := by rw [if_neg (show ¬ (false = true) by decide)] at H; exact H
    clear H
    have H := H1
    clear H1
    have H' := Aside0.mk H
    clear H
    go_wp2
    go_loopg [25] kj3 (fun kq v25 w' => ∃ (x25_2 : Int), v25 = .int .i64 x25_2 ∧ Aside0 (spec_GoodEntries.l0 kq (t131.length : Int) l1 (l1.length : Int) x25_2 = some r) ∧ Aside0 (kq ≤ kj3) ∧ Aside0 (Below w.heap.size w w'))
    case atStart => exact ⟨(0), tE, H', ⟨Nat.le_refl _⟩, ⟨by repeat (first | (with_reducible first | exact HB.out | apply below_alloc | apply pw_below_drewN | apply below_drew1) | exact HB.out)⟩⟩
    case round =>
     clear H'
     try clear c1
     try clear p2
     try clear c5
     try clear c7
     try clear c7b0
     try clear c7b1
     try clear c7b2
     try clear c10
     try clear p2
     obtain ⟨x25_2, rfl, HA, HK2, HB⟩ := hrel
     cases gk with
     | zero => exact absurd HA.out (by simp [spec_GoodEntries.l0])
     | succ k2 =>
      have H := HA.out
      clear HA
      simp only [spec_GoodEntries.l0] at H
      by_cases c11 : x25_2 < (l1.length : Int)
      ·rw [if_pos c11] at H
       have c11b0 : decide (x25_2 < (l1.length : Int)) = true := decide_eq_true c11
       clear c11
       by_cases c12 : 0 ≤ x25_2
       ·rw [if_pos c12] at H
        have c12b0 : decide (0 ≤ x25_2) = true := decide_eq_true c12
        clear c12
        by_cases c13 : x25_2 < (l1.length : Int)
        ·rw [if_pos c13] at H
         have c13b0 : decide (x25_2 < (l1.length : Int)) = true := decide_eq_true c13
         clear c13
         have HC14 := Aside0.mk H
         clear H
         have p135 : 0 ≤ (x25_2 : Int) := of_decide_eq_true hE
         have q135 : x25_2 < (l1.length : Int) := of_decide_eq_true hE
         obtain ⟨ad135, A135_1, c135_1, e135, hx135_0, hx135_1, hx135_2, hl135_1, hi135_1⟩ := at_T36 HR1.out x25_2 p135 q135
         cases e135
         replace hx135_0 := (HB.out.cell (World.block_lt_of_cell? w _ hx135_0)).trans hx135_0
         replace hx135_1 := (HB.out.cell (World.block_lt_of_cell? w _ hx135_1)).trans hx135_1
         replace hx135_2 := (HB.out.cell (World.block_lt_of_cell? w _ hx135_2)).trans hx135_2
         have HR135_1 := Aside0.mk hi135_1
         have HC135_1 := Aside0.mk hl135_1
         clear hi135_1 hl135_1
         replace p135 := eq_true p135
         replace q135 := eq_true q135
         go_upto_if 30 with (first | ((with_reducible refine gate_dst (N := 7) rfl ?_); refine box_event rfl (N := 7) rfl (cs := #[.string (⟨#[]⟩ : ByteArray), .slice none 0 0, .bool false]) (t := 36) sE ?_; intro gb136 hg w15 hbox hb; have BK136 := Aside0.mk hbox; have GW136 := gS w hg (lU); have GE136 := gS w hg (lU); replace HB := bH (lU) hb; clear hb hbox hg; have hcz16_0 := cz BK136 0 (.string (⟨#[]⟩ : ByteArray)); have hcz16_1 := cz BK136 1 (.slice none 0 0); have hcz16_2 := cz BK136 2 (.bool false); have hfz16_0 := fz BK136 0; have hfz16_1 := fz BK136 1; have hfz16_2 := fz BK136 2) | ((with_reducible refine gate_store (t := 36) (p := 7) rfl ?_); refine store_event (t := 36) (p := 7) (v := ?vo_w17) (w1 := (((w15.setCell ⟨gb136, 0, none⟩ (.string ((rd_T36 l1 x25_2).f0))).setCell ⟨gb136, 1, none⟩ (.slice A135_1 ((rd_T36 l1 x25_2).f1).length c135_1)).setCell ⟨gb136, 2, none⟩ (.bool ((rd_T36 l1 x25_2).f2)))) ?hg ?ho ?hn ?hr ?_; (case ho => rfl); (case hg => rfl); (case hn => rfl); (case hr => first | (go_simp; done) | (go_simp; rfl) | (have hq0_ := (blk_cell BK136.out 0).trans (show _ = some _ from rfl); have hf0_ := blk_frozen BK136.out 0; have hq1_ := (blk_cell BK136.out 1).trans (show _ = some _ from rfl); have hf1_ := blk_frozen BK136.out 1; have hq2_ := (blk_cell BK136.out 2).trans (show _ = some _ from rfl); have hf2_ := blk_frozen BK136.out 2; first | (go_simp; done) | (go_simp; rfl))); intro w17 hw; replace BK136 : Aside0 (w17.heap[gb136]? = some (.cells #[.string ((rd_T36 l1 x25_2).f0), .slice A135_1 ((rd_T36 l1 x25_2).f1).length c135_1, .bool ((rd_T36 l1 x25_2).f2)] 36 (0, 0))) := ⟨(by rw [hw]; exact (by refine bU ?_; refine blk_put (cs := #[.string ((rd_T36 l1 x25_2).f0), .slice A135_1 ((rd_T36 l1 x25_2).f1).length c135_1, .bool false]) ?_ 2 _ rfl; refine bU ?_; refine blk_put (cs := #[.string ((rd_T36 l1 x25_2).f0), .slice none 0 0, .bool false]) ?_ 1 _ rfl; refine bU ?_; refine blk_put (cs := #[.string (⟨#[]⟩ : ByteArray), .slice none 0 0, .bool false]) ?_ 0 _ rfl; refine bU ?_; exact BK136.out))⟩; replace HB : Aside0 (Below w.heap.size w w17) := ⟨(by rw [hw]; exact (lV1 GE136))⟩; clear hw; have hcz18_0 := cz BK136 0 (.string ((rd_T36 l1 x25_2).f0)); have hcz18_1 := cz BK136 1 (.slice A135_1 ((rd_T36 l1 x25_2).f1).length c135_1); have hcz18_2 := cz BK136 2 (.bool ((rd_T36 l1 x25_2).f2)); have hfz18_0 := fz BK136 0; have hfz18_1 := fz BK136 1; have hfz18_2 := fz BK136 2))
         (try simp only [Act.put, List.setIfInBounds_toArray, List.set_cons_zero, List.set_cons_succ])
         go_cut [8] (fun v8 wc => ∃ (kq : Nat) (x8_13 : Int), v8 = .int .i64 x8_13 ∧ Aside0 (spec_GoodEntries.j2 kq (t131.length : Int) x8_13 l1 (l1.length : Int) x25_2 ((rd_T36 l1 x25_2).f0) ((rd_T36 l1 x25_2).f1) ((rd_T36 l1 x25_2).f2) = some r) ∧ Aside0 (kq ≤ k2) ∧ Aside0 (wc.heap[gb136]? = some (.cells #[.string ((rd_T36 l1 x25_2).f0), (.slice A135_1 ((rd_T36 l1 x25_2).f1).length c135_1), .bool ((rd_T36 l1 x25_2).f2)] 36 (0, 0))) ∧ Aside0 (Below w.heap.size w wc))
         case first =>
          have H := HC14.out
          clear HC14
          obtain ⟨bq19, hbq19⟩ : ∃ b_ : Bool, b_ = ((rd_T36 l1 x25_2).f2) := ⟨_, rfl⟩
          replace H : (if bq19 = true then (spec_GoodEntries.j2 k2 (t131.length : Int) (t131.length : Int) l1 (l1.length : Int) x25_2 ((rd_T36 l1 x25_2).f0) ((rd_T36 l1 x25_2).f1) true) else (spec_GoodEntries.j2 k2 (t131.length : Int) 1 l1 (l1.length : Int) x25_2 ((rd_T36 l1 x25_2).f0) ((rd_T36 l1 x25_2).f1) false)) = some r := by rw [← hbq19] at H; exact H
          have Nbq19 := Aside0.mk hbq19
          clear hbq19
          (try rw [← Nbq19.out])
          by_cases c20 : bq19 = true
          ·subst c20
           have H1 : (spec_GoodEntries.j2 k2 (t131.length : Int) (t131.length : Int) l1 (l1.length : Int) x25_2 ((rd_T36 l1 x25_2).f0) ((rd_T36 l1 x25_2).f1) true) = some r := by rw [if_pos rfl] at H; exact H
           clear H
           have H := H1
           clear H1
           have H' := Aside0.mk H
           clear H
           go_wp2
           go_meet
           case rel => exact ⟨k2, ((t131.length : Int)), tE, (by rw [← Nbq19.out]; exact H'), ⟨by have := HJ3.out; have := HK2.out; first | omega | exact Nat.le_refl _⟩, ⟨by refine bU ?_; exact BK136.out⟩, ⟨by repeat (first | (with_reducible first | exact HB.out | apply below_alloc | apply pw_below_drewN | apply below_drew1 | refine below_set ?_ GE136.out) | exact HB.out)⟩⟩
          ·replace c20 := Bool.eq_false_iff.mpr c20
           subst c20
           have H1 : (spec_GoodEntries.j2 k2 (t131.length : Int) 1 l1 (l1.length : Int) x25_2 ((rd_T36 l1 x25_2).f0) ((rd_T36 l1 x25_2).f1) false) = some r := by rw [if_neg (show ¬ (false = true) by decide)] at H; exact H
           clear H
           have H := H1
           clear H1
           have H' := Aside0.mk H
           clear H
           go_wp2
           go_meet
           case rel => exact ⟨k2, (1), tE, (by rw [← Nbq19.out]; exact H'), ⟨by have := HJ3.out; have := HK2.out; first | omega | exact Nat.le_refl _⟩, ⟨by refine bU ?_; exact BK136.out⟩, ⟨by repeat (first | (with_reducible first | exact HB.out | apply below_alloc | apply pw_below_drewN | apply below_drew1 | refine below_set ?_ GE136.out) | exact HB.out)⟩⟩
         case rest =>
          clear HC14
          try clear c1
          try clear p1
          try clear q1
          try clear hx1
          try clear c2
          try clear p2
          try clear q2
          try clear hf2
          try clear c5
          try clear c7
          try clear c7b0
          try clear c7b1
          try clear c7b2
          try clear c10
          try clear c11
          try clear c11b0
          try clear c12
          try clear c12b0
          try clear c13
          try clear c13b0
          try clear p13
          try clear q13
          try clear hx13
          try clear q19
          try clear c20
          try clear hcz16_0
          try clear hcz16_1
          try clear hcz16_2
          try clear hcz18_0
          try clear hcz18_1
          try clear hcz18_2
          try clear hfz16_0
          try clear hfz16_1
          try clear hfz16_2
          try clear hfz18_0
          try clear hfz18_1
          try clear hfz18_2
          try clear hx135_0
          try clear hx135_1
          try clear hx135_2
          try clear p135
          try clear p2
          try clear q135
          obtain ⟨kq, x8_13, rfl, HA, HJ13, BK136, HB⟩ := hcut
          cases kq with
          | zero => exact absurd HA.out (by simp [spec_GoodEntries.j2])
          | succ kj13 =>
           have H := HA.out
           clear HA
           simp only [spec_GoodEntries.j2] at H
           by_cases c21 : (((rd_T36 l1 x25_2).f1).length : Int) = x8_13
           ·rw [if_pos c21] at H
            have c21b0 : ((((rd_T36 l1 x25_2).f1).length : Int) == x8_13) = true := beq_iff_eq.mpr c21
            have c21b1 : ((((rd_T36 l1 x25_2).f1).length : Int) != x8_13) = false := bne_eq_false_iff_eq.mpr c21
            clear c21
            have H' := Aside0.mk H
            clear H
            have hcz22_0 := cz BK136 0 (.string ((rd_T36 l1 x25_2).f0))
            have hcz22_1 := cz BK136 1 (.slice A135_1 ((rd_T36 l1 x25_2).f1).length c135_1)
            have hcz22_2 := cz BK136 2 (.bool ((rd_T36 l1 x25_2).f2))
            have hfz22_0 := fz BK136 0
            have hfz22_1 := fz BK136 1
            have hfz22_2 := fz BK136 2
            go_wp2
            go_loopg [40] kj13 (fun kq v40 w' => ∃ (x40_4 : Int), v40 = .int .i64 x40_4 ∧ Aside0 (spec_GoodEntries.l1 kq (t131.length : Int) l1 (l1.length : Int) x25_2 ((rd_T36 l1 x25_2).f1) (((rd_T36 l1 x25_2).f1).length : Int) x40_4 = some r) ∧ Aside0 (kq ≤ kj13) ∧ Aside0 (w'.heap[gb136]? = some (.cells #[.string ((rd_T36 l1 x25_2).f0), (.slice A135_1 ((rd_T36 l1 x25_2).f1).length c135_1), .bool ((rd_T36 l1 x25_2).f2)] 36 (0, 0))) ∧ Aside0 (Below w.heap.size w w'))
            case atStart => exact ⟨(0), tE, H', ⟨Nat.le_refl _⟩, ⟨by refine bU ?_; exact BK136.out⟩, ⟨by repeat (first | (with_reducible first | exact HB.out | apply below_alloc | apply pw_below_drewN | apply below_drew1 | refine below_set ?_ GE136.out) | exact HB.out)⟩⟩
            case round =>
             clear H'
             try clear c1
             try clear p1
             try clear q1
             try clear hx1
             try clear c2
             try clear p2
             try clear q2
             try clear hf2
             try clear c5
             try clear c7
             try clear c7b0
             try clear c7b1
             try clear c7b2
             try clear c10
             try clear c11
             try clear c11b0
             try clear c12
             try clear c12b0
             try clear c13
             try clear c13b0
             try clear p13
             try clear q13
             try clear hx13
             try clear q19
             try clear c20
             try clear c21
             try clear c21b0
             try clear c21b1
             try clear hcz16_0
             try clear hcz16_1
             try clear hcz16_2
             try clear hcz18_0
             try clear hcz18_1
             try clear hcz18_2
             try clear hcz22_0
             try clear hcz22_1
             try clear hcz22_2
             try clear hfz16_0
             try clear hfz16_1
             try clear hfz16_2
             try clear hfz18_0
             try clear hfz18_1
             try clear hfz18_2
             try clear hfz22_0
             try clear hfz22_1
             try clear hfz22_2
             try clear hx135_0
             try clear hx135_1
             try clear hx135_2
             try clear p1
             try clear p13
             try clear p135
             try clear p2
             try clear q1
             try clear q13
             try clear q135
             try clear q19
             try clear q2
             obtain ⟨x40_4, rfl, HA, HK4, BK136, HB⟩ := hrel
             cases gk with
             | zero => exact absurd HA.out (by simp [spec_GoodEntries.l1])
             | succ k4 =>
              have H := HA.out
              clear HA
              simp only [spec_GoodEntries.l1] at H
              by_cases c23 : x40_4 < (((rd_T36 l1 x25_2).f1).length : Int)
              ·rw [if_pos c23] at H
               have c23b0 : decide (x40_4 < (((rd_T36 l1 x25_2).f1).length : Int)) = true := decide_eq_true c23
               clear c23
               by_cases c24 : 0 ≤ x40_4
               ·rw [if_pos c24] at H
                have c24b0 : decide (0 ≤ x40_4) = true := decide_eq_true c24
                clear c24
                by_cases c25 : x40_4 < (((rd_T36 l1 x25_2).f1).length : Int)
                ·rw [if_pos c25] at H
                 have c25b0 : decide (x40_4 < (((rd_T36 l1 x25_2).f1).length : Int)) = true := decide_eq_true c25
                 clear c25
                 replace H := Option.bind_eq_some_iff.mp H
                 obtain ⟨⟨t138, t139⟩, A260, H⟩ := H
                 replace H : (if t139 = true then (spec_GoodEntries.l1 k4 (t131.length : Int) l1 (l1.length : Int) x25_2 ((rd_T36 l1 x25_2).f1) (((rd_T36 l1 x25_2).f1).length : Int) (wrap64 (x40_4 + 1))) else (some false)) = some r := H
                 have A26 := Aside0.mk A260
                 clear A260
                 by_cases c27 : t139 = true
                 ·subst c27
                  have H1 : (spec_GoodEntries.l1 k4 (t131.length : Int) l1 (l1.length : Int) x25_2 ((rd_T36 l1 x25_2).f1) (((rd_T36 l1 x25_2).f1).length : Int) (wrap64 (x40_4 + 1))) = some r := by rw [if_pos rfl] at H; exact H
                  clear H
                  have H := H1
                  clear H1
                  have H' := Aside0.mk H
                  clear H
                  have p137 : 0 ≤ (x40_4 : Int) := of_decide_eq_true hE
                  have q137 : x40_4 < (((rd_T36 l1 x25_2).f1).length : Int) := of_decide_eq_true hE
                  obtain ⟨ad137, e137, hx137_0⟩ := Kd.at_string HR135_1.out x40_4 p137 q137
                  cases e137
                  replace hx137_0 := (HB.out.cell (World.block_lt_of_cell? w _ hx137_0)).trans hx137_0
                  replace p137 := eq_true p137
                  replace q137 := eq_true q137
                  go_wp2_with (first | ((with_reducible refine gate_callee (f := 12) rfl ?_); refine goesL_ (some 46) rfl rfl Try.func12 (by kernel_rfl) rfl #[.string (rdOf ByteArray.empty ((rd_T36 l1 x25_2).f1) x40_4), .slice none 0 0] rfl aE ?_; (refine (spec_l19Fill.calls k4 (rdOf ByteArray.empty ((rd_T36 l1 x25_2).f1) x40_4) _ _ ([] : List (S46)) t138 true _ ?side1 ?side2 A26.out).mono ?_); (case side1 => exact Kd.C_nil _ _); (case side2 => exact Nat.le_refl _); rintro e w28 ⟨rfl, hb⟩; refine ⟨_, rfl, ?_⟩; replace BK136 := bB (bV BK136) hb; replace HB := bH (lV1 GE136) hb; (try clear hb)))
                  go_roundg k4
                  case measure => have := HJ3.out; have := HK2.out; have := HJ13.out; have := HK4.out; omega
                  case rel => exact ⟨(wrap64 (x40_4 + 1)), tE, H', ⟨by have := HJ3.out; have := HK2.out; have := HJ13.out; have := HK4.out; omega⟩, ⟨by refine bU ?_; exact BK136.out⟩, ⟨by repeat (first | (with_reducible first | exact HB.out | apply below_alloc | apply pw_below_drewN | apply below_drew1 | refine below_set ?_ GE136.out) | exact HB.out)⟩⟩
                 ·replace c27 := Bool.eq_false_iff.mpr c27
                  subst c27
                  have H1 : (some false) = some r := by rw [if_neg (show ¬ (false = true) by decide)] at H; exact H
                  clear H
                  have H := H1
                  clear H1
                  obtain rfl := Option.some.inj H
                  have p137 : 0 ≤ (x40_4 : Int) := of_decide_eq_true hE
                  have q137 : x40_4 < (((rd_T36 l1 x25_2).f1).length : Int) := of_decide_eq_true hE
                  obtain ⟨ad137, e137, hx137_0⟩ := Kd.at_string HR135_1.out x40_4 p137 q137
                  cases e137
                  replace hx137_0 := (HB.out.cell (World.block_lt_of_cell? w _ hx137_0)).trans hx137_0
                  replace p137 := eq_true p137
                  replace q137 := eq_true q137
                  go_wp2_with (first | ((with_reducible refine gate_callee (f := 12) rfl ?_); refine goesL_ (some 46) rfl rfl Try.func12 (by kernel_rfl) rfl #[.string (rdOf ByteArray.empty ((rd_T36 l1 x25_2).f1) x40_4), .slice none 0 0] rfl aE ?_; (refine (spec_l19Fill.calls k4 (rdOf ByteArray.empty ((rd_T36 l1 x25_2).f1) x40_4) _ _ ([] : List (S46)) t138 false _ ?side1 ?side2 A26.out).mono ?_); (case side1 => exact Kd.C_nil _ _); (case side2 => exact Nat.le_refl _); rintro e w29 ⟨rfl, hb⟩; refine ⟨_, rfl, ?_⟩; replace BK136 := bB (bV BK136) hb; replace HB := bH (lV1 GE136) hb; (try clear hb)))
                  go_ret
                  exact ⟨eE, lV1 GE136⟩
                ·rw [if_neg c25] at H
                 exact absurd H (by simp)
               ·rw [if_neg c24] at H
                exact absurd H (by simp)
              ·rw [if_neg c23] at H
               have c23b0 : decide (x40_4 < (((rd_T36 l1 x25_2).f1).length : Int)) = false := decide_eq_false c23
               clear c23
               have H' := Aside0.mk H
               clear H
               go_wp2
               go_roundg k4
               case measure => have := HJ3.out; have := HK2.out; have := HJ13.out; have := HK4.out; omega
               case rel => exact ⟨(wrap64 (x25_2 + 1)), tE, H', ⟨by have := HJ3.out; have := HK2.out; have := HJ13.out; have := HK4.out; omega⟩, ⟨by repeat (first | (with_reducible first | exact HB.out | apply below_alloc | apply pw_below_drewN | apply below_drew1 | refine below_set ?_ GE136.out) | exact HB.out)⟩⟩
           ·rw [if_neg c21] at H
            have c21b0 : ((((rd_T36 l1 x25_2).f1).length : Int) == x8_13) = false := beq_eq_false_iff_ne.mpr c21
            have c21b1 : ((((rd_T36 l1 x25_2).f1).length : Int) != x8_13) = true := bne_iff_ne.mpr c21
            obtain rfl := Option.some.inj H
            have hcz30_0 := cz BK136 0 (.string ((rd_T36 l1 x25_2).f0))
            have hcz30_1 := cz BK136 1 (.slice A135_1 ((rd_T36 l1 x25_2).f1).length c135_1)
            have hcz30_2 := cz BK136 2 (.bool ((rd_T36 l1 x25_2).f2))
            have hfz30_0 := fz BK136 0
            have hfz30_1 := fz BK136 1
            have hfz30_2 := fz BK136 2
            go_wp2
            go_ret
            exact ⟨eE, lV1 GE136⟩
        ·rw [if_neg c13] at H
         exact absurd H (by simp)
       ·rw [if_neg c12] at H
        exact absurd H (by simp)
      ·rw [if_neg c11] at H
       have c11b0 : decide (x25_2 < (l1.length : Int)) = false := decide_eq_false c11
       clear c11
       obtain rfl := Option.some.inj H
       go_wp2
       go_ret
       exact ⟨eE, lU⟩
def laws_toStringS.l0 : Nat → List ByteArray → List ByteArray → Int → Option (List ByteArray)
 | 0, _, _, _ => none
 | k + 1, x0, x3, x4 => if x4 < (x0.length : Int) then (if 0 ≤ x4 then (if x4 < (x3.length : Int) then (laws_toStringS.l0 k x0 (x3.set (x4 : Int).toNat (rdOf ByteArray.empty x0 x4)) (wrap64 (x4 + 1))) else (none)) else (none)) else (some x3)
def laws_toStringS.f (k : Nat) (l0 : List ByteArray) : Option (List ByteArray) := if 0 ≤ (l0.length : Int) then (if ((l0.length : Int) : Int).toNat ≤ 17592186044416 then (laws_toStringS.l0 k l0 (List.replicate ((l0.length : Int) : Int).toNat (⟨#[]⟩ : ByteArray)) 0) else (none)) else (none)
theorem laws_toStringS.mono_l : ∀ k, (∀ y0 y1 y2, LeO (laws_toStringS.l0 k y0 y1 y2) (laws_toStringS.l0 (k + 1) y0 y1 y2))
 | 0 => fun _ _ _ r h => by simp [laws_toStringS.l0] at h
 | k + 1 => by
  have ih0 := laws_toStringS.mono_l k
  ·intro y0 y1 y2
   unfold laws_toStringS.l0
   repeat' first
   | (with_reducible exact ih0 _ _ _)
   | (with_reducible first | exact LeO.refl _ | exact LeO.none _ | refine LeO.ite ?_ ?_ | refine LeO.bind ?_ (fun _ => ?_))
   | exact ih0 _ _ _ | exact LeO.none _ | refine LeO.ite ?_ ?_ | refine LeO.bind ?_ (fun _ => ?_)
theorem laws_toStringS.mono : ∀ a0 k, LeO (laws_toStringS.f k a0) (laws_toStringS.f (k + 1) a0) := by
 intro a0 k
 have ih0 := laws_toStringS.mono_l k
 unfold laws_toStringS.f
 repeat' first
   | (with_reducible exact ih0 _ _ _)
   | (with_reducible first | exact LeO.refl _ | exact LeO.none _ | refine LeO.ite ?_ ?_ | refine LeO.bind ?_ (fun _ => ?_))
   | exact ih0 _ _ _ | exact LeO.none _ | refine LeO.ite ?_ ?_ | refine LeO.bind ?_ (fun _ => ?_)
set_option maxHeartbeats 8000000 in
set_option maxRecDepth 100000 in
theorem laws_toStringS.calls (k : Nat) (A0 : Option Addr) (c0 : Nat) (l0 : List ByteArray) (r : List ByteArray) (w : World) (hr0 : Kd.C Kd.string w A0 l0.length l0) (hc0 : l0.length ≤ c0) (h : laws_toStringS.f k l0 = some r) :
  Calls Try.prog 22 #[.slice A0 l0.length c0] w fun e w' => ∃ v0_ : Value, e = .returned (v0_) ∧ Kd.R Kd.string 9 w' w.heap.size (fun _ => True) v0_ r ∧ Below w.heap.size w w' := by
 have HR0 := Aside0.mk hr0
 have HC0 := Aside0.mk hc0
 clear hr0 hc0
 have HB := Aside0.mk (Below.refl w.heap.size w)
 have H : (if 0 ≤ (l0.length : Int) then (if ((l0.length : Int) : Int).toNat ≤ 17592186044416 then (laws_toStringS.l0 k l0 (List.replicate ((l0.length : Int) : Int).toNat (⟨#[]⟩ : ByteArray)) 0) else (none)) else (none)) = some r := h
 clear h
 by_cases c2 : 0 ≤ (l0.length : Int)
 ·rw [if_pos c2] at H
  have c2b0 := eq_true c2
  have c2b1 : decide (0 ≤ (l0.length : Int)) = true := decide_eq_true c2
  clear c2
  by_cases c3 : ((l0.length : Int) : Int).toNat ≤ 17592186044416
  ·rw [if_pos c3] at H
   have c3b0 := eq_true c3
   have c3b1 : decide (((l0.length : Int) : Int).toNat ≤ 17592186044416) = true := decide_eq_true c3
   clear c3
   obtain ⟨y140, hy140⟩ : ∃ y_ : List ByteArray, y_ = (List.replicate ((l0.length : Int) : Int).toNat (⟨#[]⟩ : ByteArray)) := ⟨_, rfl⟩
   replace H : (laws_toStringS.l0 k l0 y140 0) = some r := by first | (rw [hy140]; with_reducible exact H) | (have H2_ := (Option.bind_some _ _).symm.trans H; rw [hy140]; with_reducible exact H2_) | (have H2_ := (Option.bind_some _ _).symm.trans H; with_reducible exact H2_) | with_reducible exact H | (rw [hy140]; exact H) | exact H
   have Ny140 := Aside0.mk hy140
   clear hy140
   have H' := Aside0.mk H
   clear H
   go_enter Try.func22, Try.ntmps22
   go_wp2_with (first | ((with_reducible refine gate_dst (N := 7) rfl ?_); refine Kd.R_make Kd.string _ 9 rfl (N := 7) rfl 30 _ _ rfl (l0.length : Int) rfl rfl Try.underlying30 (.string ⟨#[]⟩) 16 info9 rfl (by decide) (by omega) (⟨#[]⟩ : ByteArray) (ok := fun _ => True) (okp := fun _ => True) rfl (fun _ hk => hk) trivial (of_decide_eq_true hE) (Nat.le_trans (Nat.mul_le_mul_right _ (of_decide_eq_true hE : (l0.length : Int).toNat ≤ 17592186044416)) (by omega)) (Below.refl _ _) (Nat.le_refl _) ?_; intro v141 w4 ho5 hb hg_ hnew_; clear hg_ hnew_; (first | rw [← Ny140.out] at ho5 | (simp only [Int.reduceToNat] at ho5; rw [← Ny140.out] at ho5)); have HO142 := Aside0.mk (Kd.R_lower ho5 (below_size (lU))); replace HB := bH (lU) hb; clear hb ho5))
   (try simp only [Act.put, List.setIfInBounds_toArray, List.set_cons_zero, List.set_cons_succ])
   go_loopg [4] k (fun kq v4 w' => ∃ (x3_1 : List ByteArray) (x4_1 : Int), v4 = .int .i64 x4_1 ∧ Aside0 (laws_toStringS.l0 kq l0 x3_1 x4_1 = some r) ∧ Aside0 (kq ≤ k) ∧ Aside0 (Kd.R Kd.string 9 w' w.heap.size (fun _ => True) v141 x3_1) ∧ Aside0 (Below w.heap.size w w'))
   case atStart => exact ⟨(y140), (0), tE, H', ⟨Nat.le_refl _⟩, ⟨by (with_reducible repeat (first | apply Kd.R_alloc | apply Kd.R_drewN | apply Kd.R_drew)); exact HO142.out⟩, ⟨by repeat (first | (with_reducible first | exact HB.out | apply below_alloc | apply pw_below_drewN | apply below_drew1) | exact HB.out)⟩⟩
   case round =>
    clear H'
    try clear c2
    try clear c2b0
    try clear c2b1
    try clear p2
    try clear c3
    try clear c3b0
    try clear c3b1
    obtain ⟨x3_1, x4_1, rfl, HA, HK1, HO_3, HB⟩ := hrel
    cases gk with
    | zero => exact absurd HA.out (by simp [laws_toStringS.l0])
    | succ k1 =>
     have H := HA.out
     clear HA
     simp only [laws_toStringS.l0] at H
     by_cases c6 : x4_1 < (l0.length : Int)
     ·rw [if_pos c6] at H
      have c6b0 : decide (x4_1 < (l0.length : Int)) = true := decide_eq_true c6
      clear c6
      by_cases c7 : 0 ≤ x4_1
      ·rw [if_pos c7] at H
       have c7b0 : decide (0 ≤ x4_1) = true := decide_eq_true c7
       clear c7
       by_cases c8 : x4_1 < (x3_1.length : Int)
       ·rw [if_pos c8] at H
        have c8b0 : decide (x4_1 < (x3_1.length : Int)) = true := decide_eq_true c8
        clear c8
        obtain ⟨y144, hy144⟩ : ∃ y_ : List ByteArray, y_ = (x3_1.set (x4_1 : Int).toNat (rdOf ByteArray.empty l0 x4_1)) := ⟨_, rfl⟩
        replace H : (laws_toStringS.l0 k1 l0 y144 (wrap64 (x4_1 + 1))) = some r := by first | (rw [hy144]; with_reducible exact H) | (have H2_ := (Option.bind_some _ _).symm.trans H; rw [hy144]; with_reducible exact H2_) | (have H2_ := (Option.bind_some _ _).symm.trans H; with_reducible exact H2_) | with_reducible exact H | (rw [hy144]; exact H) | exact H
        have Ny144 := Aside0.mk hy144
        clear hy144
        have H' := Aside0.mk H
        clear H
        have p143 : 0 ≤ (x4_1 : Int) := of_decide_eq_true hE
        have q143 : x4_1 < (l0.length : Int) := of_decide_eq_true hE
        obtain ⟨ad143, e143, hx143_0⟩ := Kd.at_string HR0.out x4_1 p143 q143
        cases e143
        replace hx143_0 := (HB.out.cell (World.block_lt_of_cell? w _ hx143_0)).trans hx143_0
        replace p143 := eq_true p143
        replace q143 := eq_true q143
        have p9 : 0 ≤ (x4_1 : Int) := of_decide_eq_true hE
        have q9 : (x4_1 : Int) < ((x3_1.length : Int) : Int) := of_decide_eq_true hE
        obtain ⟨go9, co9, eo9, gb9, gl9, cl9, HG9⟩ := Kd.R_form HO_3.out (by omega)
        (first | cases eo9 | (injection eo9 with ea_ en_ ec_; (first | subst ea_ | (injection ea_ with ea_; subst ea_)); subst ec_; clear en_))
        have GB9 := Aside0.mk gb9
        have GG9 := Aside0.mk HG9
        clear gb9 gl9 HG9
        obtain ⟨hx9_0, hf9_0⟩ := Kd.R_celln (⟨#[]⟩ : ByteArray) HO_3.out (x4_1 : Int) p9 q9
        replace p9 := eq_true p9
        replace q9 := eq_true q9
        have HP10 := Kd.R_putg HO_3.out (x4_1 : Int) (rdOf ByteArray.empty l0 x4_1)
        go_wp2_with (first | ((with_reducible refine gate_store (t := 9) (p := 20) rfl ?_); refine store_event (t := 9) (p := 20) (v := ?vo_w11) (w1 := (wr.setCell ⟨go9, (x4_1 : Int).toNat, none⟩ (.string (rdOf ByteArray.empty l0 x4_1)))) ?hg ?ho ?hn ?hr ?_; (case ho => rfl); (case hg => rfl); (case hn => rfl); (case hr => exact sE); intro w11 hw; have hg : wr.grownBy w11 (some go9) := (by rw [hw]; exact HP10.2); have hp_ : Kd.R Kd.string 9 w11 w.heap.size (fun _ => True) (.slice (some ⟨go9, 0, none⟩) x3_1.length co9) y144 := (by rw [hw, Ny144.out]; exact HP10.1); clear HP10; replace HO_3 := Aside0.mk hp_; replace HB := Aside0.mk ((by rw [hw]; exact below_set (HB.out) GB9.out : Below w.heap.size w w11)); clear hg hw hp_))
        go_roundg k1
        case measure => have := HK1.out; omega
        case rel => exact ⟨(y144), (wrap64 (x4_1 + 1)), tE, H', ⟨by have := HK1.out; omega⟩, ⟨by (with_reducible repeat (first | apply Kd.R_alloc | apply Kd.R_drewN | apply Kd.R_drew)); exact HO_3.out⟩, ⟨by repeat (first | (with_reducible first | exact HB.out | apply below_alloc | apply pw_below_drewN | apply below_drew1) | exact HB.out)⟩⟩
       ·rw [if_neg c8] at H
        exact absurd H (by simp)
      ·rw [if_neg c7] at H
       exact absurd H (by simp)
     ·rw [if_neg c6] at H
      have c6b0 : decide (x4_1 < (l0.length : Int)) = false := decide_eq_false c6
      clear c6
      obtain rfl := Option.some.inj H
      go_wp2
      go_ret
      exact ⟨_, eE, by (with_reducible repeat (first | apply Kd.R_alloc | apply Kd.R_drewN | apply Kd.R_drew)); exact HO_3.out, lU⟩
  ·rw [if_neg c3] at H
   exact absurd H (by simp)
 ·rw [if_neg c2] at H
  exact absurd H (by simp)
def laws_toEntry.f (k : Nat) (a0_0 : ByteArray) (l0_1 : List ByteArray) (a0_2 : Bool) : Option (ByteArray × List ByteArray × Bool) := (laws_toStringS.f k l0_1).bind fun t148 => (some (a0_0, t148, a0_2))
theorem laws_toEntry.mono : ∀ a0 a1 a2 k, LeO (laws_toEntry.f k a0 a1 a2) (laws_toEntry.f (k + 1) a0 a1 a2) := by
 intro a0 a1 a2 k
 unfold laws_toEntry.f
 repeat' first
   | (with_reducible exact laws_toStringS.mono _ _)
   | (with_reducible first | exact LeO.refl _ | exact LeO.none _ | refine LeO.ite ?_ ?_ | refine LeO.bind ?_ (fun _ => ?_))
   | exact laws_toStringS.mono _ _ | exact LeO.none _ | refine LeO.ite ?_ ?_ | refine LeO.bind ?_ (fun _ => ?_)
set_option maxHeartbeats 8000000 in
set_option maxRecDepth 100000 in
theorem laws_toEntry.calls (k : Nat) (a0_0 : ByteArray) (A0_1 : Option Addr) (c0_1 : Nat) (l0_1 : List ByteArray) (a0_2 : Bool) (r1 : ByteArray) (r2 : List ByteArray) (r3 : Bool) (w : World) (hr0_1 : Kd.C Kd.string w A0_1 l0_1.length l0_1) (hc0_1 : l0_1.length ≤ c0_1) (h : laws_toEntry.f k a0_0 l0_1 a0_2 = some (r1, r2, r3)) :
  Calls Try.prog 13 #[.agg #[.string a0_0, .slice A0_1 l0_1.length c0_1, .bool a0_2]] w fun e w' => ∃ v1_ : Value, e = .returned (.agg #[.string r1, v1_, .bool r3]) ∧ Kd.R Kd.string 9 w' w.heap.size (fun _ => True) v1_ r2 ∧ Below w.heap.size w w' := by
 have hu32 := Try.underlying32
 have hu36 := Try.underlying36
 have HR0_1 := Aside0.mk hr0_1
 have HC0_1 := Aside0.mk hc0_1
 clear hr0_1 hc0_1
 have HB := Aside0.mk (Below.refl w.heap.size w)
 have H : ((laws_toStringS.f k l0_1).bind fun t148 => (some (a0_0, t148, a0_2))) = some (r1, r2, r3) := h
 clear h
 replace H := Option.bind_eq_some_iff.mp H
 obtain ⟨t148, A20, H⟩ := H
 replace H : (some (a0_0, t148, a0_2)) = some (r1, r2, r3) := H
 have A2 := Aside0.mk A20
 clear A20
 simp only [Option.some.injEq, Prod.mk.injEq] at H
 obtain ⟨rfl, rfl, rfl⟩ := H
 go_enter Try.func13, Try.ntmps13
 go_wp2_with (first | ((with_reducible refine gate_dst (N := 1) rfl ?_); refine box_event rfl (N := 1) rfl (cs := #[.string a0_0, .slice A0_1 l0_1.length c0_1, .bool a0_2]) (t := 32) sE ?_; intro gb145 hg w3 hbox hb; have BK145 := Aside0.mk hbox; have GW145 := gS w hg (lU); have GE145 := gS w hg (lU); replace HB := bH (lU) hb; clear hb hbox hg) | ((with_reducible refine gate_dst (N := 2) rfl ?_); refine box_event rfl (N := 2) rfl (cs := #[.string (⟨#[]⟩ : ByteArray), .slice none 0 0, .bool false]) (t := 36) sE ?_; intro gb146 hg w4 hbox hb; have BK146 := Aside0.mk hbox; have GW146 := gS w hg (lV1 GE145); have GE146 := gS w hg (lV1 GE145); replace HB := bH (lV1 GE145) hb; have NB145_146 := nL hg (bV BK145); have NB146_145 := nG hg (bV BK145); replace BK145 := bB (bV BK145) hb; clear hb hbox hg) | ((with_reducible refine gate_dst (N := 3) rfl ?_); refine box_event rfl (N := 3) rfl (cs := #[.string (⟨#[]⟩ : ByteArray), .slice none 0 0, .bool false]) (t := 36) sE ?_; intro gb147 hg w5 hbox hb; have BK147 := Aside0.mk hbox; have GW147 := gS w hg (lV2 GE145 GE146); have GE147 := gS w hg (lV2 GE145 GE146); replace HB := bH (lV2 GE145 GE146) hb; have NB145_147 := nL hg (bV BK145); have NB147_145 := nG hg (bV BK145); replace BK145 := bB (bV BK145) hb; have NB146_147 := nL hg (bV BK146); have NB147_146 := nG hg (bV BK146); replace BK146 := bB (bV BK146) hb; clear hb hbox hg; have hnb6 := NB145_146.out; have hnc6 := NB146_145.out; have hnb7 := NB145_147.out; have hnc7 := NB147_145.out; have hcz8_0 := cz BK145 0 (.string a0_0); have hcz8_1 := cz BK145 1 (.slice A0_1 l0_1.length c0_1); have hcz8_2 := cz BK145 2 (.bool a0_2); have hfz8_0 := fz BK145 0; have hfz8_1 := fz BK145 1; have hfz8_2 := fz BK145 2; have hnb9 := NB147_146.out; have hnc9 := NB146_147.out; have hcz10_0 := cz BK147 0 (.string (⟨#[]⟩ : ByteArray)); have hcz10_1 := cz BK147 1 (.slice none 0 0); have hcz10_2 := cz BK147 2 (.bool false); have hfz10_0 := fz BK147 0; have hfz10_1 := fz BK147 1; have hfz10_2 := fz BK147 2) | ((with_reducible refine gate_store (t := 9) (p := 6) rfl ?_); refine store_event (t := 9) (p := 6) (v := ?vo_w11) (w1 := (w5.setCell ⟨gb147, 0, none⟩ (.string a0_0))) ?hg ?ho ?hn ?hr ?_; (case ho => rfl); (case hg => rfl); (case hn => rfl); (case hr => first | (go_simp; done) | (go_simp; rfl) | (have hq0_ := (blk_cell BK147.out 0).trans (show _ = some _ from rfl); have hf0_ := blk_frozen BK147.out 0; first | (go_simp; done) | (go_simp; rfl))); intro w11 hw; replace BK145 : Aside0 (w11.heap[gb145]? = some (.cells #[.string a0_0, .slice A0_1 l0_1.length c0_1, .bool a0_2] 32 (0, 0))) := ⟨(by rw [hw]; exact (bG NB145_147 BK145))⟩; replace BK146 : Aside0 (w11.heap[gb146]? = some (.cells #[.string (⟨#[]⟩ : ByteArray), .slice none 0 0, .bool false] 36 (0, 0))) := ⟨(by rw [hw]; exact (bG NB146_147 BK146))⟩; replace BK147 : Aside0 (w11.heap[gb147]? = some (.cells #[.string a0_0, .slice none 0 0, .bool false] 36 (0, 0))) := ⟨(by rw [hw]; exact (by refine bU ?_; refine blk_put (cs := #[.string (⟨#[]⟩ : ByteArray), .slice none 0 0, .bool false]) ?_ 0 _ rfl; refine bU ?_; exact BK147.out))⟩; replace HB : Aside0 (Below w.heap.size w w11) := ⟨(by rw [hw]; exact (lV3 GE145 GE146 GE147))⟩; clear hw; have hcz12_0 := cz BK145 0 (.string a0_0); have hcz12_1 := cz BK145 1 (.slice A0_1 l0_1.length c0_1); have hcz12_2 := cz BK145 2 (.bool a0_2); have hfz12_0 := fz BK145 0; have hfz12_1 := fz BK145 1; have hfz12_2 := fz BK145 2) | ((with_reducible refine gate_callee (f := 22) rfl ?_); refine goesL_ (some 9) rfl rfl Try.func22 (by kernel_rfl) rfl #[.slice A0_1 l0_1.length c0_1] rfl aE ?_; (with_reducible refine (laws_toStringS.calls k _ _ l0_1 t148 _ ?side1 ?side2 A2.out).mono ?_); (case side1 => exact cU (Kd.C_below HR0_1.out HB.out)); (case side2 => exact HC0_1.out); rintro e w13 ⟨v149, rfl, ho0, hb⟩; refine ⟨_, rfl, ?_⟩; have HO150 := Aside0.mk (Kd.R_lower ho0 (below_size (lV3 GE145 GE146 GE147))); replace BK145 := bB (bV BK145) hb; replace BK146 := bB (bV BK146) hb; replace BK147 := bB (bV BK147) hb; replace HB := bH (lV3 GE145 GE146 GE147) hb; (try clear hb); (try clear ho0); obtain ⟨Ao14, co14, eo14⟩ := Kd.R_slice HO150.out; subst eo14; have hcz15_0 := cz BK147 0 (.string a0_0); have hcz15_1 := cz BK147 1 (.slice none 0 0); have hcz15_2 := cz BK147 2 (.bool false); have hfz15_0 := fz BK147 0; have hfz15_1 := fz BK147 1; have hfz15_2 := fz BK147 2) | ((with_reducible refine gate_store (t := 30) (p := 10) rfl ?_); refine store_event (t := 30) (p := 10) (v := ?vo_w16) (w1 := (w13.setCell ⟨gb147, 1, none⟩ (.slice Ao14 t148.length co14))) ?hg ?ho ?hn ?hr ?_; (case ho => rfl); (case hg => rfl); (case hn => rfl); (case hr => first | (go_simp; done) | (go_simp; rfl) | (have hq0_ := (blk_cell BK147.out 1).trans (show _ = some _ from rfl); have hf0_ := blk_frozen BK147.out 1; first | (go_simp; done) | (go_simp; rfl))); intro w16 hw; replace HO150 : Aside0 (Kd.R Kd.string 9 w16 w.heap.size (fun _ => True) (.slice Ao14 t148.length co14) t148) := ⟨(by rw [hw]; exact (by (with_reducible repeat (first | apply Kd.R_alloc | apply Kd.R_drewN | apply Kd.R_drew)); exact Kd.R_mono (Kd.R_far (p := ⟨gb147, 1, none⟩) (Kd.R_types HO150.out BK147.out (by decide)) (fun _ hk => hk.2) (.slice Ao14 t148.length co14)) (fun _ hk => trivial)))⟩; replace BK145 : Aside0 (w16.heap[gb145]? = some (.cells #[.string a0_0, .slice A0_1 l0_1.length c0_1, .bool a0_2] 32 (0, 0))) := ⟨(by rw [hw]; exact (bG NB145_147 BK145))⟩; replace BK146 : Aside0 (w16.heap[gb146]? = some (.cells #[.string (⟨#[]⟩ : ByteArray), .slice none 0 0, .bool false] 36 (0, 0))) := ⟨(by rw [hw]; exact (bG NB146_147 BK146))⟩; replace BK147 : Aside0 (w16.heap[gb147]? = some (.cells #[.string a0_0, .slice Ao14 t148.length co14, .bool false] 36 (0, 0))) := ⟨(by rw [hw]; exact (by refine bU ?_; refine blk_put (cs := #[.string a0_0, .slice none 0 0, .bool false]) ?_ 1 _ rfl; refine bU ?_; exact BK147.out))⟩; replace HB : Aside0 (Below w.heap.size w w16) := ⟨(by rw [hw]; exact (lV3 GE145 GE146 GE147))⟩; clear hw; have hcz17_0 := cz BK145 0 (.string a0_0); have hcz17_1 := cz BK145 1 (.slice A0_1 l0_1.length c0_1); have hcz17_2 := cz BK145 2 (.bool a0_2); have hfz17_0 := fz BK145 0; have hfz17_1 := fz BK145 1; have hfz17_2 := fz BK145 2; have hcz18_0 := cz BK147 0 (.string a0_0); have hcz18_1 := cz BK147 1 (.slice Ao14 t148.length co14); have hcz18_2 := cz BK147 2 (.bool false); have hfz18_0 := fz BK147 0; have hfz18_1 := fz BK147 1; have hfz18_2 := fz BK147 2) | ((with_reducible refine gate_store (t := 4) (p := 13) rfl ?_); refine store_event (t := 4) (p := 13) (v := ?vo_w19) (w1 := (w16.setCell ⟨gb147, 2, none⟩ (.bool a0_2))) ?hg ?ho ?hn ?hr ?_; (case ho => rfl); (case hg => rfl); (case hn => rfl); (case hr => first | (go_simp; done) | (go_simp; rfl) | (have hq0_ := (blk_cell BK147.out 2).trans (show _ = some _ from rfl); have hf0_ := blk_frozen BK147.out 2; first | (go_simp; done) | (go_simp; rfl))); intro w19 hw; replace HO150 : Aside0 (Kd.R Kd.string 9 w19 w.heap.size (fun _ => True) (.slice Ao14 t148.length co14) t148) := ⟨(by rw [hw]; exact (by (with_reducible repeat (first | apply Kd.R_alloc | apply Kd.R_drewN | apply Kd.R_drew)); exact Kd.R_mono (Kd.R_far (p := ⟨gb147, 2, none⟩) (Kd.R_types HO150.out BK147.out (by decide)) (fun _ hk => hk.2) (.bool a0_2)) (fun _ hk => trivial)))⟩; replace BK145 : Aside0 (w19.heap[gb145]? = some (.cells #[.string a0_0, .slice A0_1 l0_1.length c0_1, .bool a0_2] 32 (0, 0))) := ⟨(by rw [hw]; exact (bG NB145_147 BK145))⟩; replace BK146 : Aside0 (w19.heap[gb146]? = some (.cells #[.string (⟨#[]⟩ : ByteArray), .slice none 0 0, .bool false] 36 (0, 0))) := ⟨(by rw [hw]; exact (bG NB146_147 BK146))⟩; replace BK147 : Aside0 (w19.heap[gb147]? = some (.cells #[.string a0_0, .slice Ao14 t148.length co14, .bool a0_2] 36 (0, 0))) := ⟨(by rw [hw]; exact (by refine bU ?_; refine blk_put (cs := #[.string a0_0, .slice Ao14 t148.length co14, .bool false]) ?_ 2 _ rfl; refine bU ?_; exact BK147.out))⟩; replace HB : Aside0 (Below w.heap.size w w19) := ⟨(by rw [hw]; exact (lV3 GE145 GE146 GE147))⟩; clear hw; have hcz20_0 := cz BK147 0 (.string a0_0); have hcz20_1 := cz BK147 1 (.slice Ao14 t148.length co14); have hcz20_2 := cz BK147 2 (.bool a0_2); have hfz20_0 := fz BK147 0; have hfz20_1 := fz BK147 1; have hfz20_2 := fz BK147 2; have hcz21_0 := cz BK146 0 (.string (⟨#[]⟩ : ByteArray)); have hcz21_1 := cz BK146 1 (.slice none 0 0); have hcz21_2 := cz BK146 2 (.bool false); have hfz21_0 := fz BK146 0; have hfz21_1 := fz BK146 1; have hfz21_2 := fz BK146 2) | ((with_reducible refine gate_store (t := 36) (p := 2) rfl ?_); refine store_event (t := 36) (p := 2) (v := ?vo_w22) (w1 := (((w19.setCell ⟨gb146, 0, none⟩ (.string a0_0)).setCell ⟨gb146, 1, none⟩ (.slice Ao14 t148.length co14)).setCell ⟨gb146, 2, none⟩ (.bool a0_2))) ?hg ?ho ?hn ?hr ?_; (case ho => rfl); (case hg => rfl); (case hn => rfl); (case hr => first | (go_simp; done) | (go_simp; rfl) | (have hq0_ := (blk_cell BK146.out 0).trans (show _ = some _ from rfl); have hf0_ := blk_frozen BK146.out 0; have hq1_ := (blk_cell BK146.out 1).trans (show _ = some _ from rfl); have hf1_ := blk_frozen BK146.out 1; have hq2_ := (blk_cell BK146.out 2).trans (show _ = some _ from rfl); have hf2_ := blk_frozen BK146.out 2; first | (go_simp; done) | (go_simp; rfl))); intro w22 hw; replace HO150 : Aside0 (Kd.R Kd.string 9 w22 w.heap.size (fun _ => True) (.slice Ao14 t148.length co14) t148) := ⟨(by rw [hw]; exact (by (with_reducible repeat (first | apply Kd.R_alloc | apply Kd.R_drewN | apply Kd.R_drew)); exact Kd.R_mono (Kd.R_far (p := ⟨gb146, 2, none⟩) (Kd.R_far (p := ⟨gb146, 1, none⟩) (Kd.R_far (p := ⟨gb146, 0, none⟩) (Kd.R_types HO150.out BK146.out (by decide)) (fun _ hk => hk.2) (.string a0_0)) (fun _ hk => hk.2) (.slice Ao14 t148.length co14)) (fun _ hk => hk.2) (.bool a0_2)) (fun _ hk => trivial)))⟩; replace BK145 : Aside0 (w22.heap[gb145]? = some (.cells #[.string a0_0, .slice A0_1 l0_1.length c0_1, .bool a0_2] 32 (0, 0))) := ⟨(by rw [hw]; exact (bG NB145_146 BK145))⟩; replace BK146 : Aside0 (w22.heap[gb146]? = some (.cells #[.string a0_0, .slice Ao14 t148.length co14, .bool a0_2] 36 (0, 0))) := ⟨(by rw [hw]; exact (by refine bU ?_; refine blk_put (cs := #[.string a0_0, .slice Ao14 t148.length co14, .bool false]) ?_ 2 _ rfl; refine bU ?_; refine blk_put (cs := #[.string a0_0, .slice none 0 0, .bool false]) ?_ 1 _ rfl; refine bU ?_; refine blk_put (cs := #[.string (⟨#[]⟩ : ByteArray), .slice none 0 0, .bool false]) ?_ 0 _ rfl; refine bU ?_; exact BK146.out))⟩; replace BK147 : Aside0 (w22.heap[gb147]? = some (.cells #[.string a0_0, .slice Ao14 t148.length co14, .bool a0_2] 36 (0, 0))) := ⟨(by rw [hw]; exact (bG NB147_146 BK147))⟩; replace HB : Aside0 (Below w.heap.size w w22) := ⟨(by rw [hw]; exact (lV3 GE145 GE146 GE147))⟩; clear hw))
 refine bodyPost_ret (results_cell_row rfl _ _ gb146 36 #[.string a0_0, .slice Ao14 t148.length co14, .bool a0_2] (0, 0) _ rfl (bV BK146) Try.underlying36 rfl (by kernel_rfl)) rfl ?_
 exact ⟨_, eE, by (with_reducible repeat (first | apply Kd.R_alloc | apply Kd.R_drewN | apply Kd.R_drew)); exact HO150.out, lV3 GE145 GE146 GE147⟩
def laws_toEntryS.l0 : Nat → List (S32) → List (S36) → Int → Option ((List (S36)))
 | 0, _, _, _ => none
 | k + 1, x0, x3, x4 => if x4 < (x0.length : Int) then (if 0 ≤ x4 then ((laws_toEntry.f k ((rd_T32 x0 x4).f0) ((rd_T32 x0 x4).f1) ((rd_T32 x0 x4).f2)).bind fun bt155 => (if x4 < (x3.length : Int) then (laws_toEntryS.l0 k x0 (x3.set (x4 : Int).toNat (⟨bt155.1, bt155.2.1, bt155.2.2⟩ : S36)) (wrap64 (x4 + 1))) else (none))) else (none)) else (some x3)
def laws_toEntryS.f (k : Nat) (l0 : List (S32)) : Option ((List (S36))) := if 0 ≤ (l0.length : Int) then (if ((l0.length : Int) : Int).toNat ≤ 5864062014805 then (laws_toEntryS.l0 k l0 (List.replicate ((l0.length : Int) : Int).toNat z36) 0) else (none)) else (none)
theorem laws_toEntryS.mono_l : ∀ k, (∀ y0 y1 y2, LeO (laws_toEntryS.l0 k y0 y1 y2) (laws_toEntryS.l0 (k + 1) y0 y1 y2))
 | 0 => fun _ _ _ r h => by simp [laws_toEntryS.l0] at h
 | k + 1 => by
  have ih0 := laws_toEntryS.mono_l k
  ·intro y0 y1 y2
   unfold laws_toEntryS.l0
   repeat' first
   | (with_reducible exact ih0 _ _ _)
   | (with_reducible exact laws_toEntry.mono _ _ _ _)
   | (with_reducible first | exact LeO.refl _ | exact LeO.none _ | refine LeO.ite ?_ ?_ | refine LeO.bind ?_ (fun _ => ?_))
   | exact ih0 _ _ _
   | exact laws_toEntry.mono _ _ _ _ | exact LeO.none _ | refine LeO.ite ?_ ?_ | refine LeO.bind ?_ (fun _ => ?_)
theorem laws_toEntryS.mono : ∀ a0 k, LeO (laws_toEntryS.f k a0) (laws_toEntryS.f (k + 1) a0) := by
 intro a0 k
 have ih0 := laws_toEntryS.mono_l k
 unfold laws_toEntryS.f
 repeat' first
   | (with_reducible exact ih0 _ _ _)
   | (with_reducible exact laws_toEntry.mono _ _ _ _)
   | (with_reducible first | exact LeO.refl _ | exact LeO.none _ | refine LeO.ite ?_ ?_ | refine LeO.bind ?_ (fun _ => ?_))
   | exact ih0 _ _ _
   | exact laws_toEntry.mono _ _ _ _ | exact LeO.none _ | refine LeO.ite ?_ ?_ | refine LeO.bind ?_ (fun _ => ?_)
set_option maxHeartbeats 8000000 in
set_option maxRecDepth 100000 in
theorem laws_toEntryS.calls (k : Nat) (A0 : Option Addr) (c0 : Nat) (l0 : List (S32)) (r : List (S36)) (w : World) (hr0 : Kd.C k32 w A0 l0.length l0) (hc0 : l0.length ≤ c0) (h : laws_toEntryS.f k l0 = some r) :
  Calls Try.prog 6 #[.slice A0 l0.length c0] w fun e w' => ∃ v0_ : Value, e = .returned (v0_) ∧ Kd.S k36 36 w' w.heap.size (fun _ => True) v0_ r ∧ Below w.heap.size w w' := by
 have hu32 := Try.underlying32
 have hu36 := Try.underlying36
 have HR0 := Aside0.mk hr0
 have HC0 := Aside0.mk hc0
 clear hr0 hc0
 have HB := Aside0.mk (Below.refl w.heap.size w)
 have H : (if 0 ≤ (l0.length : Int) then (if ((l0.length : Int) : Int).toNat ≤ 5864062014805 then (laws_toEntryS.l0 k l0 (List.replicate ((l0.length : Int) : Int).toNat z36) 0) else (none)) else (none)) = some r := h
 clear h
 by_cases c2 : 0 ≤ (l0.length : Int)
 ·rw [if_pos c2] at H
  have c2b0 := eq_true c2
  have c2b1 : decide (0 ≤ (l0.length : Int)) = true := decide_eq_true c2
  clear c2
  by_cases c3 : ((l0.length : Int) : Int).toNat ≤ 5864062014805
  ·rw [if_pos c3] at H
   have c3b0 := eq_true c3
   have c3b1 : decide (((l0.length : Int) : Int).toNat ≤ 5864062014805) = true := decide_eq_true c3
   clear c3
   obtain ⟨y151, hy151⟩ : ∃ y_ : List (S36), y_ = (List.replicate ((l0.length : Int) : Int).toNat z36) := ⟨_, rfl⟩
   replace H : (laws_toEntryS.l0 k l0 y151 0) = some r := by first | (rw [hy151]; with_reducible exact H) | (have H2_ := (Option.bind_some _ _).symm.trans H; rw [hy151]; with_reducible exact H2_) | (have H2_ := (Option.bind_some _ _).symm.trans H; with_reducible exact H2_) | with_reducible exact H | (rw [hy151]; exact H) | exact H
   have Ny151 := Aside0.mk hy151
   clear hy151
   have H' := Aside0.mk H
   clear H
   go_enter Try.func6, Try.ntmps6
   go_wp2_with (first | ((with_reducible refine gate_dst (N := 7) rfl ?_); refine Kd.S_make k36 _ 36 rfl (N := 7) rfl 25 _ _ rfl (l0.length : Int) rfl rfl Try.underlying25 (.agg #[(.string ⟨#[]⟩), (.slice none 0 0), (.bool false)]) 48 info36 rfl (by decide) (by omega) z36 (ok := fun _ => True) (okp := fun _ => True) (k36_mkM _ _ _ z36 (Kd.R_nil _ _ _ _ _)) (fun _ hk => hk) trivial (of_decide_eq_true hE) (Nat.le_trans (Nat.mul_le_mul_right _ (of_decide_eq_true hE : (l0.length : Int).toNat ≤ 5864062014805)) (by omega)) (Below.refl _ _) (Nat.le_refl _) ?_; intro v152 w4 ho5 hb hg_ hnew_; clear hg_ hnew_; (first | rw [← Ny151.out] at ho5 | (simp only [Int.reduceToNat] at ho5; rw [← Ny151.out] at ho5)); have HO153 := Aside0.mk (Kd.S_lower ho5 (below_size (lU))); replace HB := bH (lU) hb; clear hb ho5))
   (try simp only [Act.put, List.setIfInBounds_toArray, List.set_cons_zero, List.set_cons_succ])
   go_loopg [4] k (fun kq v4 w' => ∃ (x3_1 : List (S36)) (x4_1 : Int), v4 = .int .i64 x4_1 ∧ Aside0 (laws_toEntryS.l0 kq l0 x3_1 x4_1 = some r) ∧ Aside0 (kq ≤ k) ∧ Aside0 (Kd.S k36 36 w' w.heap.size (fun _ => True) v152 x3_1) ∧ Aside0 (Below w.heap.size w w'))
   case atStart => exact ⟨(y151), (0), tE, H', ⟨Nat.le_refl _⟩, ⟨by (with_reducible repeat (first | apply Kd.S_alloc | apply Kd.S_drewN | apply Kd.S_drew)); exact HO153.out⟩, ⟨by repeat (first | (with_reducible first | exact HB.out | apply below_alloc | apply pw_below_drewN | apply below_drew1) | exact HB.out)⟩⟩
   case round =>
    clear H'
    try clear c2
    try clear c2b0
    try clear c2b1
    try clear p2
    try clear c3
    try clear c3b0
    try clear c3b1
    obtain ⟨x3_1, x4_1, rfl, HA, HK1, HO_3, HB⟩ := hrel
    cases gk with
    | zero => exact absurd HA.out (by simp [laws_toEntryS.l0])
    | succ k1 =>
     have H := HA.out
     clear HA
     simp only [laws_toEntryS.l0] at H
     by_cases c6 : x4_1 < (l0.length : Int)
     ·rw [if_pos c6] at H
      have c6b0 : decide (x4_1 < (l0.length : Int)) = true := decide_eq_true c6
      clear c6
      by_cases c7 : 0 ≤ x4_1
      ·rw [if_pos c7] at H
       have c7b0 : decide (0 ≤ x4_1) = true := decide_eq_true c7
       clear c7
       replace H := Option.bind_eq_some_iff.mp H
       obtain ⟨⟨t155, t156, t159⟩, A80, H⟩ := H
       replace H : (if x4_1 < (x3_1.length : Int) then (laws_toEntryS.l0 k1 l0 (x3_1.set (x4_1 : Int).toNat (⟨t155, t156, t159⟩ : S36)) (wrap64 (x4_1 + 1))) else (none)) = some r := H
       have A8 := Aside0.mk A80
       clear A80
       by_cases c9 : x4_1 < (x3_1.length : Int)
       ·rw [if_pos c9] at H
        have c9b0 : decide (x4_1 < (x3_1.length : Int)) = true := decide_eq_true c9
        clear c9
        obtain ⟨y160, hy160⟩ : ∃ y_ : List (S36), y_ = (x3_1.set (x4_1 : Int).toNat (⟨t155, t156, t159⟩ : S36)) := ⟨_, rfl⟩
        replace H : (laws_toEntryS.l0 k1 l0 y160 (wrap64 (x4_1 + 1))) = some r := by first | (rw [hy160]; with_reducible exact H) | (have H2_ := (Option.bind_some _ _).symm.trans H; rw [hy160]; with_reducible exact H2_) | (have H2_ := (Option.bind_some _ _).symm.trans H; with_reducible exact H2_) | with_reducible exact H | (rw [hy160]; exact H) | exact H
        have Ny160 := Aside0.mk hy160
        clear hy160
        have H' := Aside0.mk H
        clear H
        have p154 : 0 ≤ (x4_1 : Int) := of_decide_eq_true hE
        have q154 : x4_1 < (l0.length : Int) := of_decide_eq_true hE
        obtain ⟨ad154, A154_1, c154_1, e154, hx154_0, hx154_1, hx154_2, hl154_1, hi154_1⟩ := at_T32 HR0.out x4_1 p154 q154
        cases e154
        replace hx154_0 := (HB.out.cell (World.block_lt_of_cell? w _ hx154_0)).trans hx154_0
        replace hx154_1 := (HB.out.cell (World.block_lt_of_cell? w _ hx154_1)).trans hx154_1
        replace hx154_2 := (HB.out.cell (World.block_lt_of_cell? w _ hx154_2)).trans hx154_2
        have HR154_1 := Aside0.mk hi154_1
        have HC154_1 := Aside0.mk hl154_1
        clear hi154_1 hl154_1
        replace p154 := eq_true p154
        replace q154 := eq_true q154
        go_wp2_with (first | ((with_reducible refine gate_callee (f := 13) rfl ?_); refine goesL_ (some 20) rfl rfl Try.func13 (by kernel_rfl) rfl #[.agg #[.string ((rd_T32 l0 x4_1).f0), .slice A154_1 ((rd_T32 l0 x4_1).f1).length c154_1, .bool ((rd_T32 l0 x4_1).f2)]] rfl aE ?_; (with_reducible refine (laws_toEntry.calls k1 ((rd_T32 l0 x4_1).f0) _ _ ((rd_T32 l0 x4_1).f1) ((rd_T32 l0 x4_1).f2) t155 t156 t159 _ ?side1 ?side2 A8.out).mono ?_); (case side1 => exact cU (Kd.C_below HR154_1.out HB.out)); (case side2 => exact HC154_1.out); rintro e w11 ⟨v157, rfl, ho0, hb⟩; refine ⟨_, rfl, ?_⟩; replace HO_3 := Aside0.mk (Kd.S_elder' (by (with_reducible repeat (first | apply Kd.S_alloc | apply Kd.S_drewN | apply Kd.S_drew)); exact HO_3.out) (Kd.R_base ho0) hb); have HO158 := Aside0.mk (Kd.R_lower ho0 (below_size (lU))); replace HB := bH (lU) hb; (try clear hb); (try clear ho0); have p10 : 0 ≤ (x4_1 : Int) := of_decide_eq_true hE; have q10 : (x4_1 : Int) < ((x3_1.length : Int) : Int) := of_decide_eq_true hE; obtain ⟨go10, co10, eo10, gb10, gl10, cl10, HG10⟩ := Kd.S_form HO_3.out (by omega); (first | cases eo10 | (injection eo10 with ea_ en_ ec_; (first | subst ea_ | (injection ea_ with ea_; subst ea_)); subst ec_; clear en_)); have GB10 := Aside0.mk gb10; have GG10 := Aside0.mk HG10; clear gb10 gl10 HG10; obtain ⟨_, ce10, hcl10, hM10, hcc10, hfr10, _, _⟩ := Kd.S_elem HO_3.out z36 (x4_1 : Int) p10 q10; obtain ⟨ve10_1, rfl, ge10_1⟩ := k36_openM hM10; have hx10_0 : w11.cell? ⟨go10, (x4_1 : Int).toNat * 3, none⟩ = some (.string ((rd_T36 x3_1 x4_1).f0)) := hcc10 0 _ rfl; have hx10_1 : w11.cell? ⟨go10, (x4_1 : Int).toNat * 3 + 1, none⟩ = some (ve10_1) := hcc10 1 _ rfl; have hx10_2 : w11.cell? ⟨go10, (x4_1 : Int).toNat * 3 + 2, none⟩ = some (.bool ((rd_T36 x3_1 x4_1).f2)) := hcc10 2 _ rfl; have hf10_0 : w11.frozen? ⟨go10, (x4_1 : Int).toNat * 3, none⟩ = false := hfr10 0; have hf10_1 : w11.frozen? ⟨go10, (x4_1 : Int).toNat * 3 + 1, none⟩ = false := hfr10 1; have hf10_2 : w11.frozen? ⟨go10, (x4_1 : Int).toNat * 3 + 2, none⟩ = false := hfr10 2; (try clear hcl10); (try clear hcc10); (try clear hfr10); (try clear hM10); replace p10 := eq_true p10; replace q10 := eq_true q10; obtain ⟨Ao14, co14, eo14⟩ := Kd.R_slice HO158.out; subst eo14; have n_ := Aside0.mk (Kd.S_mono (ok' := (fun k_ => some k_ ≠ (.slice Ao14 t156.length co14 : Value).ownBlock)) HO_3.out (fun k_ hk => hk.2)); clear HO_3; have HO_3 := n_; clear n_; have HX12 := Aside0.mk (show Kd.S k36 36 w11 w.heap.size (fun k_ => ((fun _ => True)) k_ ∧ ¬ ((fun k_ => some k_ = (.slice Ao14 t156.length co14 : Value).ownBlock)) k_) (.slice (some ⟨go10, 0, none⟩) x3_1.length co10) x3_1 from (by (with_reducible repeat (first | apply Kd.S_alloc | apply Kd.S_drewN | apply Kd.S_drew)); exact Kd.S_mono HO_3.out (fun k_ hk => ⟨trivial, fun e_ => hk e_⟩))); obtain ⟨oki12, ce12, hcl12, hM12, hcc12, hfr12, hoki12, hH12⟩ := Kd.S_elem HX12.out z36 (x4_1 : Int) (of_decide_eq_true hE) (by have h_ : (x4_1 : Int) < ((x3_1.length : Int) : Int) := of_decide_eq_true hE; first | exact h_ | (have e_ := (Kd.S_reads' HO_3.out).1; omega) | simpa using h_); obtain ⟨ve12_1, rfl, ge12_1⟩ := k36_openM hM12; have HP12 := Kd.S_seg hH12 (of_decide_eq_true hE) (by have h_ : (x4_1 : Int) < ((x3_1.length : Int) : Int) := of_decide_eq_true hE; first | exact h_ | (have e_ := (Kd.S_reads' HO_3.out).1; omega) | simpa using h_) (seg := [.string t155, .slice Ao14 t156.length co14, .bool t159]) (j := 0) (show 3 ≤ 3 from by decide) (x' := (⟨t155, t156, t159⟩ : S36)) (k36_mkM _ _ _ (⟨t155, t156, t159⟩ : S36) (Kd.R_mono (Kd.R_tight rfl (Kd.R_mono (ok' := fun k_ => ((fun _ => True)) k_ ∧ k_ ≠ go10) (Kd.R_apart' (HO158.out) (Kd.S_typed HO_3.out) (by decide)) (fun k_ hk => ⟨trivial, fun e_ => (hk.2) (by rw [e_]; rfl)⟩))) (fun _ h_ => Or.inr (h_)))) (fun _ hk => hk) (fun k_ hk_ => ((Kd.R_mono (ok' := fun k_ => ((fun _ => True)) k_ ∧ k_ ≠ go10) (Kd.R_apart' (HO158.out) (Kd.S_typed HO_3.out) (by decide)) (fun k_ hk => ⟨trivial, fun e_ => (hk.2) (by rw [e_]; rfl)⟩))).1 k_ hk_.symm); have hx12_0 := hcc12 0 _ rfl; (try simp only [show (k36).sz = 3 from rfl, Nat.mul_one, Nat.add_zero] at hx12_0); have hf12_0 := hfr12 0; (try simp only [show (k36).sz = 3 from rfl, Nat.mul_one, Nat.add_zero] at hf12_0); have hx12_1 := hcc12 1 _ rfl; (try simp only [show (k36).sz = 3 from rfl, Nat.mul_one, Nat.add_zero] at hx12_1); have hf12_1 := hfr12 1; (try simp only [show (k36).sz = 3 from rfl, Nat.mul_one, Nat.add_zero] at hf12_1); have hx12_2 := hcc12 2 _ rfl; (try simp only [show (k36).sz = 3 from rfl, Nat.mul_one, Nat.add_zero] at hx12_2); have hf12_2 := hfr12 2; (try simp only [show (k36).sz = 3 from rfl, Nat.mul_one, Nat.add_zero] at hf12_2); (try clear hcl12); (try clear hcc12); (try clear hfr12); (try clear hM12); (try clear hoki12); (try clear hH12)) | ((with_reducible refine gate_store (t := 36) (p := 21) rfl ?_); refine store_event (t := 36) (p := 21) (v := ?vo_w13) (w1 := (((w11.setCell ⟨go10, (x4_1 : Int).toNat * 3, none⟩ (.string t155)).setCell ⟨go10, (x4_1 : Int).toNat * 3 + 1, none⟩ (.slice Ao14 t156.length co14)).setCell ⟨go10, (x4_1 : Int).toNat * 3 + 2, none⟩ (.bool t159))) ?hg ?ho ?hn ?hr ?_; (case ho => rfl); (case hg => rfl); (case hn => rfl); (case hr => exact sE); intro w13 hw; have hg : w11.grownBy w13 (some go10) := (by rw [hw]; exact HP12.2); have hp_ : Kd.S k36 36 w13 w.heap.size (fun _ => True) (.slice (some ⟨go10, 0, none⟩) x3_1.length co10) y160 := (by rw [hw, Ny160.out]; exact HP12.1); clear HP12; replace HO_3 := Aside0.mk hp_; replace HB := Aside0.mk ((by rw [hw]; exact below_set (below_set (below_set (HB.out) GB10.out) GB10.out) GB10.out : Below w.heap.size w w13)); clear HO158; clear hg hw hp_))
        go_roundg k1
        case measure => have := HK1.out; omega
        case rel => exact ⟨(y160), (wrap64 (x4_1 + 1)), tE, H', ⟨by have := HK1.out; omega⟩, ⟨by (with_reducible repeat (first | apply Kd.S_alloc | apply Kd.S_drewN | apply Kd.S_drew)); exact HO_3.out⟩, ⟨by repeat (first | (with_reducible first | exact HB.out | apply below_alloc | apply pw_below_drewN | apply below_drew1) | exact HB.out)⟩⟩
       ·rw [if_neg c9] at H
        exact absurd H (by simp)
      ·rw [if_neg c7] at H
       exact absurd H (by simp)
     ·rw [if_neg c6] at H
      have c6b0 : decide (x4_1 < (l0.length : Int)) = false := decide_eq_false c6
      clear c6
      obtain rfl := Option.some.inj H
      go_wp2
      go_ret
      exact ⟨_, eE, by (with_reducible repeat (first | apply Kd.S_alloc | apply Kd.S_drewN | apply Kd.S_drew)); exact HO_3.out, lU⟩
  ·rw [if_neg c3] at H
   exact absurd H (by simp)
 ·rw [if_neg c2] at H
  exact absurd H (by simp)
end Go.Proofs.Ytnacjhgpanedoac.PFnExactGoodEntries
