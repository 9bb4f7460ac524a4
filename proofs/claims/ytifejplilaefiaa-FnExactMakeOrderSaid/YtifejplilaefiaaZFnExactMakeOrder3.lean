/- Texts of the row of the law FnExactMakeOrder, laid together. -/
import Derived.Test.YtifejplilaefiaaZFnExactMakeOrder0
import Derived.Deep.RegionLaw
import Derived.Lib.SliceRun
import Derived.Laws.Externs
import Derived.Test.YtifejplilaefiaaZFnExactMakeOrder1
import Derived.Test.YtifejplilaefiaaProg
import Derived.Below
import Derived.Deep.Draws
import Derived.Deep.AppendLies
import Derived.Maps.AppendAt
import Derived.OwnWalk
import Derived.Laws.BytesArg
import Derived.Laws.MakeOwn
import Derived.Laws.OwnMore
import Derived.Deep.OwnRows
import Derived.Tactics
import Derived.Lib.ConvBytes
import Derived.Laws.Slices
import Derived.WalkKit
import Derived.KernelRfl
import Derived.RowKit3
import Derived.Deep.LoopGhost
import Derived.Deep.QuietTactic
import Derived.BigQuiet
import Derived.WideLaws
import Derived.Deep.DeepCutAuto
import Derived.Deep.CutBlock
import Derived.Deep.RegionHeld3
import Derived.Laws.Rows
import Derived.Lib.AppendStr
import Derived.ArgAppend
import Derived.Laws.IdiomCopy
import Derived.OrdersHeld
import Derived.Laws.BitsLemmas
import Derived.RowKit
import Derived.Laws.Cover1
import Derived.Test.YtifejplilaefiaaZFnExactMakeOrder2
namespace Go.Proofs.YtifejplilaefiaaW.PrintWords
open Go.RowKit
namespace Kd
section
variable {P : Program} {α : Type}
end
end Kd
end Go.Proofs.YtifejplilaefiaaW.PrintWords
namespace Go.Proofs.YtifejplilaefiaaW.PrintLast
open Go.RowKit Go.Proofs.YtifejplilaefiaaW.PrintWords
def bz (n m : Nat) : Array Bool := ((List.range n).map fun i => m.testBit i).toArray
section
variable {P : Program} {ops : Array Oper} {Q : Exit → Act → World → Prop} {md : Region.Mode} {S : World → Prop} {ds : List Nat}
theorem pureA (i : Nat) (N : Tmp) {oi : Oper} {v : Value} {fuel : Nat} {l : Array Bool} {a : Act} {w : World} (l' : Array Bool) {a' : Act} (hi : ops[i]? = some oi) (hN : oi.dst = some N) (hc : anyB md ops l l' i = true) (h : wpAnyLast P md ops Q S ds fuel l' a' w)
    (hQ : ∀ c a w, Q (.panic c) (a.put oi.dst v) w → Q (.panic c) a w := by exact fun _ _ _ h => h) (hw : Region.wanted oi (yielded ops a.tmps) = true := by rfl)
    (hy : ∀ w, (execOp a.eval oi).run P w = .ok (.value v) w := by intro w'; go_simp; with_reducible rfl) (ha : a.put (some N) v = a' := by simp only [Act.put, List.setIfInBounds_toArray, List.set_cons_zero, List.set_cons_succ, i64_w, i32_w]; rfl) : wpAnyLast P md ops Q S ds (fuel + 1) l a w :=
  pure_ l' hi hN hc hQ (Or.inl ⟨hw, hy⟩) ha h
theorem pureU (i : Nat) (N : Tmp) {oi : Oper} {fuel : Nat} {l : Array Bool} {a : Act} {w : World} (l' : Array Bool) {a' : Act} (hi : ops[i]? = some oi) (hN : oi.dst = some N) (hc : anyB md ops l l' i = true) (h : wpAnyLast P md ops Q S ds fuel l' a' w)
    (hQ : ∀ c a w, Q (.panic c) (a.put oi.dst undef) w → Q (.panic c) a w := by exact fun _ _ _ h => h) (hw : Region.wanted oi (yielded ops a.tmps) = false := by rfl)
    (ha : a.put (some N) undef = a' := by simp only [Act.put, List.setIfInBounds_toArray, List.set_cons_zero, List.set_cons_succ, i64_w, i32_w]; rfl) : wpAnyLast P md ops Q S ds (fuel + 1) l a w :=
  pure_ l' hi hN hc hQ (Or.inr ⟨hw, rfl⟩) ha h
theorem takeA (i : Nat) (N : Tmp) {oi : Oper} {v : Value} {fuel : Nat} {l : Array Bool} {a : Act} {w : World} (l' : Array Bool) {a' : Act} (hi : ops[i]? = some oi) (hN : oi.dst = some N) (hc : takeB md ops ds l l' i = true) (hS : S w) (hy : ∀ w, S w → (execOp a.eval oi).run P w = .ok (.value v) w) (h : wpAnyLast P md ops Q S ds fuel l' a' w)
    (hQ : ∀ c a w, Q (.panic c) (a.put oi.dst v) w → Q (.panic c) a w := by exact fun _ _ _ h => h) (hw : Region.wanted oi (yielded ops a.tmps) = true := by rfl)
    (ha : a.put (some N) v = a' := by simp only [Act.put, List.setIfInBounds_toArray, List.set_cons_zero, List.set_cons_succ, i64_w, i32_w]; rfl) : wpAnyLast P md ops Q S ds (fuel + 1) l a w :=
  take_ l' hi hN hc hQ (Or.inl ⟨hw, hy⟩) hS ha h
end
end Go.Proofs.YtifejplilaefiaaW.PrintLast
namespace Go.Proofs.YtifejplilaefiaaW.PrintWords
open Go.RowKit
end Go.Proofs.YtifejplilaefiaaW.PrintWords
namespace Go.Proofs.YtifejplilaefiaaW.PrintWords
open Go.RowKit
section
variable {P : Program} {ops : Array Oper} {o : Oper} {a : Act} {Q : Exit → Act → World → Prop} {Kc : Act → World → Prop}
end
end Go.Proofs.YtifejplilaefiaaW.PrintWords
namespace Go.Proofs.YtifejplilaefiaaW.PrintWords
open Go.RowKit
theorem grown_of_kept {B : Nat} {w0 W W2 : World} {row : Option Nat} (hB : Below B w0 W) (hb : Below B w0 W2) (hk : Kept W W2 (fun k => some k = row)) : W.grownBy W2 row :=
  ⟨hb.os.trans hB.os.symm, hb.tape.trans hB.tape.symm, hb.output.trans hB.output.symm, hk.1, fun k h hn => hk.2 k h hn⟩
namespace Kd
section
variable {α : Type} {d : Kd α} {e base : Nat} {ok : Nat → Prop} {W : World} {u : Value} {xs : List α} {PS : Nat → Prop} {L : List Nat}
end
end Kd
end Go.Proofs.YtifejplilaefiaaW.PrintWords
namespace Go.Proofs.YtifejplilaefiaaW.PrintLast
section
variable {P : Program} {ops : Array Oper} {Q : Exit → Act → World → Prop} {md : Region.Mode} {S T : World → Prop} {ds : List Nat}
end
end Go.Proofs.YtifejplilaefiaaW.PrintLast
namespace Go.Proofs.Ytifejplilaefiaa.PFnExactMakeOrder
open Go.RowKit Go.Proofs.YtifejplilaefiaaW.PrintWords Go.Proofs.YtifejplilaefiaaW.PrintLast Go.Proofs.YtifejplilaefiaaW.PrintMore
attribute [local go_sem] max2_int min2_int max_two min_two max_three min_three max_four min_four   -- for this text's walks alone
set_option linter.unusedVariables false
set_option linter.unusedSimpArgs false
def errW : Option Int → Value
 | none => .nilIface
 | some c => .iface 0 (.int .i64 c)
theorem errW_none : errW none = .nilIface := rfl
theorem errW_some (c : Int) : errW (some c) = .iface 0 (.int .i64 c) := rfl
theorem info5 : (Try.prog.info? 5).map (fun i => (i.zero, i.size, i.bytes)) = some (some (.int .u8 0), 1, 1) := by kernel_rfl
theorem info9 : (Try.prog.info? 9).map (fun i => (i.zero, i.size, i.bytes)) = some (some (.string ⟨#[]⟩), 1, 16) := by kernel_rfl
theorem info63 : (Try.prog.info? 63).map (fun i => (i.zero, i.size, i.bytes)) = some (some (.agg #[(.string ⟨#[]⟩), (.slice none 0 0), (.slice none 0 0)]), 3, 64) := by kernel_rfl
structure S62 where
 f0 : ByteArray
 f1 : (List ByteArray)
 f2 : (List Int)
def z62 : S62 := ⟨(⟨#[]⟩ : ByteArray), ([] : List ByteArray), ([] : List Int)⟩
def k62 : Kd S62 := Kd.iso (Kd.pair Kd.string (Kd.pair (Kd.slice 9 Kd.string) (Kd.slice 5 (Kd.int .u8)))) (fun x : S62 => (x.f0, x.f1, x.f2))
theorem k62_open {w : World} {x : S62} {cs : List Value} (h : k62.K w x cs) : ∃ A1 c1 A2 c2, cs = [.string x.f0, .slice A1 x.f1.length c1, .slice A2 x.f2.length c2] ∧ x.f1.length ≤ c1 ∧ Kd.string.C w A1 x.f1.length x.f1 ∧ x.f2.length ≤ c2 ∧ (Kd.int .u8).C w A2 x.f2.length x.f2 := by
 obtain ⟨_, _, rfl, rfl, ⟨_, _, rfl, ⟨A1, c1, rfl, l1, g1⟩, ⟨A2, c2, rfl, l2, g2⟩⟩⟩ := h
 exact ⟨A1, c1, A2, c2, rfl, l1, g1, l2, g2⟩
def rd_T62 (xs : List S62) (i : Int) : S62 := xs.getD i.toNat z62
theorem at_T62 {w : World} {A : Option Addr} {n : Nat} {xs : List S62} (h : Kd.C k62 w A n xs) (i : Int) (h0 : 0 ≤ i) (h1 : i < n) : ∃ ad A1 c1 A2 c2, A = some ad ∧ w.cell? (ad.add (i.toNat * 3)) = some (.string (rd_T62 xs i).f0) ∧ w.cell? ⟨(ad.add (i.toNat * 3)).block, (ad.add (i.toNat * 3)).off + 1, none⟩ = some (.slice A1 (rd_T62 xs i).f1.length c1) ∧ w.cell? ⟨(ad.add (i.toNat * 3)).block, (ad.add (i.toNat * 3)).off + 2, none⟩ = some (.slice A2 (rd_T62 xs i).f2.length c2) ∧ (rd_T62 xs i).f1.length ≤ c1 ∧ Kd.string.C w A1 (rd_T62 xs i).f1.length (rd_T62 xs i).f1 ∧ (rd_T62 xs i).f2.length ≤ c2 ∧ (Kd.int .u8).C w A2 (rd_T62 xs i).f2.length (rd_T62 xs i).f2 := by
 obtain ⟨ad, c, e, _, hK, hc0⟩ := Kd.C_get h z62 i h0 h1
 have hc : ∀ j u, c[j]? = some u → w.cell? (ad.add (i.toNat * 3 + j)) = some u := hc0
 obtain ⟨A1, c1, A2, c2, rfl, l1, g1, l2, g2⟩ := k62_open hK
 exact ⟨ad, A1, c1, A2, c2, e, hc 0 _ rfl, by rw [← add_field _ _ 1 (by omega)]; exact hc 1 _ rfl, by rw [← add_field _ _ 2 (by omega)]; exact hc 2 _ rfl, l1, g1, l2, g2⟩
structure S63 where
 f0 : ByteArray
 f1 : (List ByteArray)
 f2 : (List Int)
def z63 : S63 := ⟨(⟨#[]⟩ : ByteArray), ([] : List ByteArray), ([] : List Int)⟩
def k63 : Kd S63 := Kd.iso (Kd.pair Kd.string (Kd.pair (Kd.slice 9 Kd.string) (Kd.slice 5 (Kd.int .u8)))) (fun x : S63 => (x.f0, x.f1, x.f2))
theorem k63_open {w : World} {x : S63} {cs : List Value} (h : k63.K w x cs) : ∃ A1 c1 A2 c2, cs = [.string x.f0, .slice A1 x.f1.length c1, .slice A2 x.f2.length c2] ∧ x.f1.length ≤ c1 ∧ Kd.string.C w A1 x.f1.length x.f1 ∧ x.f2.length ≤ c2 ∧ (Kd.int .u8).C w A2 x.f2.length x.f2 := by
 obtain ⟨_, _, rfl, rfl, ⟨_, _, rfl, ⟨A1, c1, rfl, l1, g1⟩, ⟨A2, c2, rfl, l2, g2⟩⟩⟩ := h
 exact ⟨A1, c1, A2, c2, rfl, l1, g1, l2, g2⟩
theorem k63_openM {w : World} {base : Nat} {ok : Nat → Prop} {x : S63} {cs : List Value} (h : k63.M w base ok x cs) : ∃ v1 v2, cs = [.string x.f0, v1, v2] ∧ Kd.string.R 9 w base ok v1 x.f1 ∧ (Kd.int .u8).R 5 w base ok v2 x.f2 := by
 obtain ⟨_, _, rfl, rfl, ⟨_, _, rfl, ⟨v1, rfl, g1⟩, ⟨v2, rfl, g2⟩⟩⟩ := h
 exact ⟨v1, v2, rfl, g1, g2⟩
theorem k63_mkM (w : World) (base : Nat) (ok : Nat → Prop) (x : S63) {v1 : Value} (g1 : Kd.string.R 9 w base ok v1 x.f1) {v2 : Value} (g2 : (Kd.int .u8).R 5 w base ok v2 x.f2) : k63.M w base ok x [.string x.f0, v1, v2] := ⟨[.string x.f0], [v1, v2], rfl, rfl, ⟨[v1], [v2], rfl, ⟨v1, rfl, g1⟩, ⟨v2, rfl, g2⟩⟩⟩
def rd_T63 (xs : List S63) (i : Int) : S63 := xs.getD i.toNat z63
theorem at_T63 {w : World} {A : Option Addr} {n : Nat} {xs : List S63} (h : Kd.C k63 w A n xs) (i : Int) (h0 : 0 ≤ i) (h1 : i < n) : ∃ ad A1 c1 A2 c2, A = some ad ∧ w.cell? (ad.add (i.toNat * 3)) = some (.string (rd_T63 xs i).f0) ∧ w.cell? ⟨(ad.add (i.toNat * 3)).block, (ad.add (i.toNat * 3)).off + 1, none⟩ = some (.slice A1 (rd_T63 xs i).f1.length c1) ∧ w.cell? ⟨(ad.add (i.toNat * 3)).block, (ad.add (i.toNat * 3)).off + 2, none⟩ = some (.slice A2 (rd_T63 xs i).f2.length c2) ∧ (rd_T63 xs i).f1.length ≤ c1 ∧ Kd.string.C w A1 (rd_T63 xs i).f1.length (rd_T63 xs i).f1 ∧ (rd_T63 xs i).f2.length ≤ c2 ∧ (Kd.int .u8).C w A2 (rd_T63 xs i).f2.length (rd_T63 xs i).f2 := by
 obtain ⟨ad, c, e, _, hK, hc0⟩ := Kd.C_get h z63 i h0 h1
 have hc : ∀ j u, c[j]? = some u → w.cell? (ad.add (i.toNat * 3 + j)) = some u := hc0
 obtain ⟨A1, c1, A2, c2, rfl, l1, g1, l2, g2⟩ := k63_open hK
 exact ⟨ad, A1, c1, A2, c2, e, hc 0 _ rfl, by rw [← add_field _ _ 1 (by omega)]; exact hc 1 _ rfl, by rw [← add_field _ _ 2 (by omega)]; exact hc 2 _ rfl, l1, g1, l2, g2⟩
end Go.Proofs.Ytifejplilaefiaa.PFnExactMakeOrder
namespace Go.Proofs.Ytifejplilaefiaa.PFnExactMakeOrder
open Go.RowKit Go.Proofs.YtifejplilaefiaaW.PrintWords Go.Proofs.YtifejplilaefiaaW.PrintLast Go.Proofs.YtifejplilaefiaaW.PrintMore
attribute [local go_sem] max2_int min2_int max_two min_two max_three min_three max_four min_four   -- for this text's walks alone
set_option linter.unusedVariables false
set_option linter.unusedSimpArgs false
def laws_szStringS.l0 : Nat → List ByteArray → Int → Int → Option (Int)
 | 0, _, _, _ => none
 | k + 1, x0, x1, x5 => if x5 < (x0.length : Int) then (if 0 ≤ x5 then (if (wrap64 (x1 - ((rdOf ByteArray.empty x0 x5).size : Int))) < 0 then (some (-1)) else (laws_szStringS.l0 k x0 (wrap64 (x1 - ((rdOf ByteArray.empty x0 x5).size : Int))) (wrap64 (x5 + 1)))) else (none)) else (some x1)
def laws_szStringS.f (k : Nat) (l0 : List ByteArray) (a1 : Int) : Option (Int) := if (wrap64 (a1 - (l0.length : Int))) < 0 then (some (-1)) else (laws_szStringS.l0 k l0 (wrap64 (a1 - (l0.length : Int))) 0)
theorem laws_szStringS.mono_l : ∀ k, (∀ y0 y1 y2, LeO (laws_szStringS.l0 k y0 y1 y2) (laws_szStringS.l0 (k + 1) y0 y1 y2))
 | 0 => fun _ _ _ r h => by simp [laws_szStringS.l0] at h
 | k + 1 => by
  have ih0 := laws_szStringS.mono_l k
  ·intro y0 y1 y2
   unfold laws_szStringS.l0
   repeat' first
   | (with_reducible exact ih0 _ _ _)
   | (with_reducible exact LeO.refl _)
   | (with_reducible exact LeO.none _)
   | (with_reducible refine LeO.ite ?_ ?_)
   | (with_reducible refine LeO.bind ?_ (fun _ => ?_))
   | exact ih0 _ _ _
   | exact LeO.none _
   | refine LeO.ite ?_ ?_
   | refine LeO.bind ?_ (fun _ => ?_)
theorem laws_szStringS.mono : ∀ a0 a1 k, LeO (laws_szStringS.f k a0 a1) (laws_szStringS.f (k + 1) a0 a1) := by
 intro a0 a1 k
 have ih0 := laws_szStringS.mono_l k
 unfold laws_szStringS.f
 repeat' first
   | (with_reducible exact ih0 _ _ _)
   | (with_reducible exact LeO.refl _)
   | (with_reducible exact LeO.none _)
   | (with_reducible refine LeO.ite ?_ ?_)
   | (with_reducible refine LeO.bind ?_ (fun _ => ?_))
   | exact ih0 _ _ _
   | exact LeO.none _
   | refine LeO.ite ?_ ?_
   | refine LeO.bind ?_ (fun _ => ?_)
set_option maxHeartbeats 8000000 in
set_option maxRecDepth 100000 in
theorem laws_szStringS.calls (k : Nat) (A0 : Option Addr) (c0 : Nat) (l0 : List ByteArray) (a1 : Int) (r : Int) (w : World) (hr0 : Kd.C Kd.string w A0 l0.length l0) (hc0 : l0.length ≤ c0) (h : laws_szStringS.f k l0 a1 = some r) :
  Calls Try.prog 66 #[.slice A0 l0.length c0, .int .i64 a1] w fun e w' => e = .returned (.int .i64 r) ∧ Drawn0 w w' := by
 have HR0 := Aside0.mk hr0
 have HC0 := Aside0.mk hc0
 clear hr0 hc0
 have H : (if (wrap64 (a1 - (l0.length : Int))) < 0 then (some (-1)) else (laws_szStringS.l0 k l0 (wrap64 (a1 - (l0.length : Int))) 0)) = some r := h
 clear h
 by_cases c3 : (wrap64 (a1 - (l0.length : Int))) < 0
 ·rw [if_pos c3] at H
  have c3b0 : decide ((wrap64 (a1 - (l0.length : Int))) < 0) = true := decide_eq_true c3
  clear c3
  obtain rfl := Option.some.inj H
  go_enter Try.func66, Try.ntmps66
  go_wp2
  go_ret
  exact ⟨by first | rfl | (simp; done) | (simp [*]; done) | exact not_isEmpty _ | exact (not_isEmpty _).symm | exact is_empty _ | exact (is_empty _).symm, by repeat (first | exact Drawn0.refl _ | apply Drawn0.step)⟩
 ·rw [if_neg c3] at H
  have c3b0 : decide ((wrap64 (a1 - (l0.length : Int))) < 0) = false := decide_eq_false c3
  clear c3
  have H' := Aside0.mk H
  clear H
  go_enter Try.func66, Try.ntmps66
  go_wp2
  go_loopg [1, 5] k (fun kq v1 v5 w' => ∃ (x1_1 : Int) (x5_1 : Int), v1 = .int .i64 x1_1 ∧ v5 = .int .i64 x5_1 ∧ Aside0 (laws_szStringS.l0 kq l0 x1_1 x5_1 = some r) ∧ Aside0 (kq ≤ k) ∧ Drawn0 w w')
  case atStart => exact ⟨(wrap64 (a1 - (l0.length : Int))), (0), tE, tE, H', ⟨Nat.le_refl _⟩, by repeat (first | exact Drawn0.refl _ | apply Drawn0.step)⟩
  case round =>
   clear H'
   try clear p2
   try clear c3
   try clear c3b0
   obtain ⟨x1_1, x5_1, rfl, rfl, HA, HK1, ⟨m1, rfl⟩⟩ := hrel
   cases gk with
   | zero => exact absurd HA.out (by simp [laws_szStringS.l0])
   | succ k1 =>
    have H := HA.out
    clear HA
    simp only [laws_szStringS.l0] at H
    by_cases c4 : x5_1 < (l0.length : Int)
    ·rw [if_pos c4] at H
     have c4b0 : decide (x5_1 < (l0.length : Int)) = true := decide_eq_true c4
     clear c4
     by_cases c5 : 0 ≤ x5_1
     ·rw [if_pos c5] at H
      have c5b0 : decide (0 ≤ x5_1) = true := decide_eq_true c5
      clear c5
      by_cases c6 : (wrap64 (x1_1 - ((rdOf ByteArray.empty l0 x5_1).size : Int))) < 0
      ·rw [if_pos c6] at H
       have c6b0 : decide ((wrap64 (x1_1 - ((rdOf ByteArray.empty l0 x5_1).size : Int))) < 0) = true := decide_eq_true c6
       clear c6
       obtain rfl := Option.some.inj H
       have p101 : 0 ≤ (x5_1 : Int) := of_decide_eq_true hE
       have q101 : x5_1 < (l0.length : Int) := of_decide_eq_true hE
       obtain ⟨ad101, e101, hx101_0⟩ := Kd.at_string HR0.out x5_1 p101 q101
       cases e101
       replace p101 := eq_true p101
       replace q101 := eq_true q101
       go_wp2
       go_ret
       exact ⟨by first | rfl | (simp; done) | (simp [*]; done) | exact not_isEmpty _ | exact (not_isEmpty _).symm | exact is_empty _ | exact (is_empty _).symm, by repeat (first | exact Drawn0.refl _ | apply Drawn0.step)⟩
      ·rw [if_neg c6] at H
       have c6b0 : decide ((wrap64 (x1_1 - ((rdOf ByteArray.empty l0 x5_1).size : Int))) < 0) = false := decide_eq_false c6
       clear c6
       have H' := Aside0.mk H
       clear H
       have p101 : 0 ≤ (x5_1 : Int) := of_decide_eq_true hE
       have q101 : x5_1 < (l0.length : Int) := of_decide_eq_true hE
       obtain ⟨ad101, e101, hx101_0⟩ := Kd.at_string HR0.out x5_1 p101 q101
       cases e101
       replace p101 := eq_true p101
       replace q101 := eq_true q101
       go_wp2
       go_roundg k1
       case measure => have := HK1.out; omega
       case rel => exact ⟨(wrap64 (x1_1 - ((rdOf ByteArray.empty l0 x5_1).size : Int))), (wrap64 (x5_1 + 1)), tE, tE, H', ⟨by have := HK1.out; omega⟩, by repeat (first | exact Drawn0.refl _ | apply Drawn0.step)⟩
     ·rw [if_neg c5] at H
      exact absurd H (by simp)
    ·rw [if_neg c4] at H
     have c4b0 : decide (x5_1 < (l0.length : Int)) = false := decide_eq_false c4
     clear c4
     obtain rfl := Option.some.inj H
     go_wp2
     go_ret
     exact ⟨by first | rfl | (simp; done) | (simp [*]; done) | exact not_isEmpty _ | exact (not_isEmpty _).symm | exact is_empty _ | exact (is_empty _).symm, by repeat (first | exact Drawn0.refl _ | apply Drawn0.step)⟩
def laws_szByteS.f (l0 : List Int) (a1 : Int) : Option (Int) := if (wrap64 (a1 - (l0.length : Int))) < 0 then (some (-1)) else (some (wrap64 (a1 - (l0.length : Int))))
set_option maxHeartbeats 8000000 in
set_option maxRecDepth 100000 in
theorem laws_szByteS.calls (A0 : Option Addr) (c0 : Nat) (l0 : List Int) (a1 : Int) (r : Int) (w : World) (hr0 : Kd.C (Kd.int .u8) w A0 l0.length l0) (hc0 : l0.length ≤ c0) (h : laws_szByteS.f l0 a1 = some r) :
  Calls Try.prog 67 #[.slice A0 l0.length c0, .int .i64 a1] w fun e w' => e = .returned (.int .i64 r) ∧ Drawn0 w w' := by
 have HR0 := Aside0.mk hr0
 have HC0 := Aside0.mk hc0
 clear hr0 hc0
 have H : (if (wrap64 (a1 - (l0.length : Int))) < 0 then (some (-1)) else (some (wrap64 (a1 - (l0.length : Int))))) = some r := h
 clear h
 by_cases c3 : (wrap64 (a1 - (l0.length : Int))) < 0
 ·rw [if_pos c3] at H
  have c3b0 : decide ((wrap64 (a1 - (l0.length : Int))) < 0) = true := decide_eq_true c3
  clear c3
  obtain rfl := Option.some.inj H
  go_enter Try.func67, Try.ntmps67
  go_wp2
  go_ret
  exact ⟨by first | rfl | (simp; done) | (simp [*]; done) | exact not_isEmpty _ | exact (not_isEmpty _).symm | exact is_empty _ | exact (is_empty _).symm, by repeat (first | exact Drawn0.refl _ | apply Drawn0.step)⟩
 ·rw [if_neg c3] at H
  have c3b0 : decide ((wrap64 (a1 - (l0.length : Int))) < 0) = false := decide_eq_false c3
  clear c3
  obtain rfl := Option.some.inj H
  go_enter Try.func67, Try.ntmps67
  go_wp2
  go_ret
  exact ⟨by first | rfl | (simp; done) | (simp [*]; done) | exact not_isEmpty _ | exact (not_isEmpty _).symm | exact is_empty _ | exact (is_empty _).symm, by repeat (first | exact Drawn0.refl _ | apply Drawn0.step)⟩
def laws_szAsset.f (k : Nat) (a0_0 : ByteArray) (l0_1 : List ByteArray) (l0_2 : List Int) (a1 : Int) : Option (Int) := if (wrap64 (a1 - (a0_0.size : Int))) < 0 then (some (-1)) else ((laws_szStringS.f k l0_1 (wrap64 (a1 - (a0_0.size : Int)))).bind fun t103 => (if t103 < 0 then (some (-1)) else ((laws_szByteS.f l0_2 t103).bind fun t104 => (if t104 < 0 then (some (-1)) else (some t104)))))
theorem laws_szAsset.mono : ∀ a0 a1 a2 a3 k, LeO (laws_szAsset.f k a0 a1 a2 a3) (laws_szAsset.f (k + 1) a0 a1 a2 a3) := by
 intro a0 a1 a2 a3 k
 unfold laws_szAsset.f
 repeat' first
   | (with_reducible exact laws_szStringS.mono _ _ _)
   | (with_reducible exact LeO.refl _)
   | (with_reducible exact LeO.none _)
   | (with_reducible refine LeO.ite ?_ ?_)
   | (with_reducible refine LeO.bind ?_ (fun _ => ?_))
   | exact laws_szStringS.mono _ _ _
   | exact LeO.none _
   | refine LeO.ite ?_ ?_
   | refine LeO.bind ?_ (fun _ => ?_)
set_option maxHeartbeats 8000000 in
set_option maxRecDepth 100000 in
theorem laws_szAsset.calls (k : Nat) (a0_0 : ByteArray) (A0_1 : Option Addr) (c0_1 : Nat) (l0_1 : List ByteArray) (A0_2 : Option Addr) (c0_2 : Nat) (l0_2 : List Int) (a1 : Int) (r : Int) (w : World) (hr0_1 : Kd.C Kd.string w A0_1 l0_1.length l0_1) (hc0_1 : l0_1.length ≤ c0_1) (hr0_2 : Kd.C (Kd.int .u8) w A0_2 l0_2.length l0_2) (hc0_2 : l0_2.length ≤ c0_2) (h : laws_szAsset.f k a0_0 l0_1 l0_2 a1 = some r) :
  Calls Try.prog 28 #[.agg #[.string a0_0, .slice A0_1 l0_1.length c0_1, .slice A0_2 l0_2.length c0_2], .int .i64 a1] w fun e w' => e = .returned (.int .i64 r) ∧ Below w.heap.size w w' := by
 have hu62 := Try.underlying62
 have HR0_1 := Aside0.mk hr0_1
 have HC0_1 := Aside0.mk hc0_1
 clear hr0_1 hc0_1
 have HR0_2 := Aside0.mk hr0_2
 have HC0_2 := Aside0.mk hc0_2
 clear hr0_2 hc0_2
 have HB := Aside0.mk (Below.refl w.heap.size w)
 have H : (if (wrap64 (a1 - (a0_0.size : Int))) < 0 then (some (-1)) else ((laws_szStringS.f k l0_1 (wrap64 (a1 - (a0_0.size : Int)))).bind fun t103 => (if t103 < 0 then (some (-1)) else ((laws_szByteS.f l0_2 t103).bind fun t104 => (if t104 < 0 then (some (-1)) else (some t104)))))) = some r := h
 clear h
 by_cases c3 : (wrap64 (a1 - (a0_0.size : Int))) < 0
 ·rw [if_pos c3] at H
  have c3b0 : decide ((wrap64 (a1 - (a0_0.size : Int))) < 0) = true := decide_eq_true c3
  clear c3
  obtain rfl := Option.some.inj H
  go_enter Try.func28, Try.ntmps28
  go_wp2_with (first | ((with_reducible refine gate_dst (N := 2) rfl ?_); refine box_event rfl (N := 2) rfl (cs := #[.string a0_0, .slice A0_1 l0_1.length c0_1, .slice A0_2 l0_2.length c0_2]) (t := 62) sE ?_; intro gb102 hg w4 hbox hb; have BK102 := Aside0.mk hbox; have GW102 := gS w hg (lU); have GE102 := gS w hg (lU); replace HB := bH (lU) hb; clear hb hbox hg; have hcz5_0 := cz BK102 0 (.string a0_0); have hcz5_1 := cz BK102 1 (.slice A0_1 l0_1.length c0_1); have hcz5_2 := cz BK102 2 (.slice A0_2 l0_2.length c0_2); have hfz5_0 := fz BK102 0; have hfz5_1 := fz BK102 1; have hfz5_2 := fz BK102 2))
  go_ret
  exact ⟨eE, lV1 GE102⟩
 ·rw [if_neg c3] at H
  have c3b0 : decide ((wrap64 (a1 - (a0_0.size : Int))) < 0) = false := decide_eq_false c3
  clear c3
  replace H := Option.bind_eq_some_iff.mp H
  obtain ⟨t103, A60, H⟩ := H
  replace H : (if t103 < 0 then (some (-1)) else ((laws_szByteS.f l0_2 t103).bind fun t104 => (if t104 < 0 then (some (-1)) else (some t104)))) = some r := H
  have A6 := Aside0.mk A60
  clear A60
  by_cases c7 : t103 < 0
  ·rw [if_pos c7] at H
   have c7b0 : decide (t103 < 0) = true := decide_eq_true c7
   clear c7
   obtain rfl := Option.some.inj H
   go_enter Try.func28, Try.ntmps28
   go_wp2_with (first | ((with_reducible refine gate_dst (N := 2) rfl ?_); refine box_event rfl (N := 2) rfl (cs := #[.string a0_0, .slice A0_1 l0_1.length c0_1, .slice A0_2 l0_2.length c0_2]) (t := 62) sE ?_; intro gb102 hg w8 hbox hb; have BK102 := Aside0.mk hbox; have GW102 := gS w hg (lU); have GE102 := gS w hg (lU); replace HB := bH (lU) hb; clear hb hbox hg; have hcz9_0 := cz BK102 0 (.string a0_0); have hcz9_1 := cz BK102 1 (.slice A0_1 l0_1.length c0_1); have hcz9_2 := cz BK102 2 (.slice A0_2 l0_2.length c0_2); have hfz9_0 := fz BK102 0; have hfz9_1 := fz BK102 1; have hfz9_2 := fz BK102 2) | ((with_reducible refine gate_callee (f := 66) rfl ?_); refine goesL_ (some 15) rfl rfl Try.func66 (by kernel_rfl) rfl #[.slice A0_1 l0_1.length c0_1, .int .i64 (wrap64 (a1 - (a0_0.size : Int)))] rfl aE ?_; (with_reducible refine (laws_szStringS.calls k _ _ l0_1 (wrap64 (a1 - (a0_0.size : Int))) t103 _ ?side1 ?side2 A6.out).mono ?_); (case side1 => exact cU (Kd.C_below HR0_1.out HB.out)); (case side2 => exact HC0_1.out); rintro e w' ⟨rfl, ⟨nd, rfl⟩⟩; refine ⟨_, rfl, ?_⟩))
   go_ret
   exact ⟨eE, lV1 GE102⟩
  ·rw [if_neg c7] at H
   have c7b0 : decide (t103 < 0) = false := decide_eq_false c7
   clear c7
   replace H := Option.bind_eq_some_iff.mp H
   obtain ⟨t104, A100, H⟩ := H
   replace H : (if t104 < 0 then (some (-1)) else (some t104)) = some r := H
   have A10 := Aside0.mk A100
   clear A100
   by_cases c11 : t104 < 0
   ·rw [if_pos c11] at H
    have c11b0 : decide (t104 < 0) = true := decide_eq_true c11
    clear c11
    obtain rfl := Option.some.inj H
    go_enter Try.func28, Try.ntmps28
    go_wp2_with (first | ((with_reducible refine gate_dst (N := 2) rfl ?_); refine box_event rfl (N := 2) rfl (cs := #[.string a0_0, .slice A0_1 l0_1.length c0_1, .slice A0_2 l0_2.length c0_2]) (t := 62) sE ?_; intro gb102 hg w12 hbox hb; have BK102 := Aside0.mk hbox; have GW102 := gS w hg (lU); have GE102 := gS w hg (lU); replace HB := bH (lU) hb; clear hb hbox hg; have hcz13_0 := cz BK102 0 (.string a0_0); have hcz13_1 := cz BK102 1 (.slice A0_1 l0_1.length c0_1); have hcz13_2 := cz BK102 2 (.slice A0_2 l0_2.length c0_2); have hfz13_0 := fz BK102 0; have hfz13_1 := fz BK102 1; have hfz13_2 := fz BK102 2) | ((with_reducible refine gate_callee (f := 66) rfl ?_); refine goesL_ (some 15) rfl rfl Try.func66 (by kernel_rfl) rfl #[.slice A0_1 l0_1.length c0_1, .int .i64 (wrap64 (a1 - (a0_0.size : Int)))] rfl aE ?_; (with_reducible refine (laws_szStringS.calls k _ _ l0_1 (wrap64 (a1 - (a0_0.size : Int))) t103 _ ?side1 ?side2 A6.out).mono ?_); (case side1 => exact cU (Kd.C_below HR0_1.out HB.out)); (case side2 => exact HC0_1.out); rintro e w' ⟨rfl, ⟨nd, rfl⟩⟩; refine ⟨_, rfl, ?_⟩) | ((with_reducible refine gate_callee (f := 67) rfl ?_); refine goesL_ (some 21) rfl rfl Try.func67 (by kernel_rfl) rfl #[.slice A0_2 l0_2.length c0_2, .int .i64 t103] rfl aE ?_; (with_reducible refine (laws_szByteS.calls _ _ l0_2 t103 t104 _ ?side1 ?side2 A10.out).mono ?_); (case side1 => exact cU (Kd.C_below HR0_2.out (lV1 GE102))); (case side2 => exact HC0_2.out); rintro e w' ⟨rfl, ⟨nd, rfl⟩⟩; refine ⟨_, rfl, ?_⟩))
    go_ret
    exact ⟨eE, lV1 GE102⟩
   ·rw [if_neg c11] at H
    have c11b0 : decide (t104 < 0) = false := decide_eq_false c11
    clear c11
    obtain rfl := Option.some.inj H
    go_enter Try.func28, Try.ntmps28
    go_wp2_with (first | ((with_reducible refine gate_dst (N := 2) rfl ?_); refine box_event rfl (N := 2) rfl (cs := #[.string a0_0, .slice A0_1 l0_1.length c0_1, .slice A0_2 l0_2.length c0_2]) (t := 62) sE ?_; intro gb102 hg w14 hbox hb; have BK102 := Aside0.mk hbox; have GW102 := gS w hg (lU); have GE102 := gS w hg (lU); replace HB := bH (lU) hb; clear hb hbox hg; have hcz15_0 := cz BK102 0 (.string a0_0); have hcz15_1 := cz BK102 1 (.slice A0_1 l0_1.length c0_1); have hcz15_2 := cz BK102 2 (.slice A0_2 l0_2.length c0_2); have hfz15_0 := fz BK102 0; have hfz15_1 := fz BK102 1; have hfz15_2 := fz BK102 2) | ((with_reducible refine gate_callee (f := 66) rfl ?_); refine goesL_ (some 15) rfl rfl Try.func66 (by kernel_rfl) rfl #[.slice A0_1 l0_1.length c0_1, .int .i64 (wrap64 (a1 - (a0_0.size : Int)))] rfl aE ?_; (with_reducible refine (laws_szStringS.calls k _ _ l0_1 (wrap64 (a1 - (a0_0.size : Int))) t103 _ ?side1 ?side2 A6.out).mono ?_); (case side1 => exact cU (Kd.C_below HR0_1.out HB.out)); (case side2 => exact HC0_1.out); rintro e w' ⟨rfl, ⟨nd, rfl⟩⟩; refine ⟨_, rfl, ?_⟩) | ((with_reducible refine gate_callee (f := 67) rfl ?_); refine goesL_ (some 21) rfl rfl Try.func67 (by kernel_rfl) rfl #[.slice A0_2 l0_2.length c0_2, .int .i64 t103] rfl aE ?_; (with_reducible refine (laws_szByteS.calls _ _ l0_2 t103 t104 _ ?side1 ?side2 A10.out).mono ?_); (case side1 => exact cU (Kd.C_below HR0_2.out (lV1 GE102))); (case side2 => exact HC0_2.out); rintro e w' ⟨rfl, ⟨nd, rfl⟩⟩; refine ⟨_, rfl, ?_⟩))
    go_ret
    exact ⟨eE, lV1 GE102⟩
def laws_szAssetS.l0 : Nat → List (S62) → Int → Int → Option (Int)
 | 0, _, _, _ => none
 | k + 1, x0, x1, x5 => if x5 < (x0.length : Int) then (if 0 ≤ x5 then ((laws_szAsset.f k ((rd_T62 x0 x5).f0) ((rd_T62 x0 x5).f1) ((rd_T62 x0 x5).f2) x1).bind fun t106 => (if t106 < 0 then (some (-1)) else (laws_szAssetS.l0 k x0 t106 (wrap64 (x5 + 1))))) else (none)) else (some x1)
def laws_szAssetS.f (k : Nat) (l0 : List (S62)) (a1 : Int) : Option (Int) := if (wrap64 (a1 - (l0.length : Int))) < 0 then (some (-1)) else (laws_szAssetS.l0 k l0 (wrap64 (a1 - (l0.length : Int))) 0)
theorem laws_szAssetS.mono_l : ∀ k, (∀ y0 y1 y2, LeO (laws_szAssetS.l0 k y0 y1 y2) (laws_szAssetS.l0 (k + 1) y0 y1 y2))
 | 0 => fun _ _ _ r h => by simp [laws_szAssetS.l0] at h
 | k + 1 => by
  have ih0 := laws_szAssetS.mono_l k
  ·intro y0 y1 y2
   unfold laws_szAssetS.l0
   repeat' first
   | (with_reducible exact ih0 _ _ _)
   | (with_reducible exact laws_szAsset.mono _ _ _ _ _)
   | (with_reducible exact LeO.refl _)
   | (with_reducible exact LeO.none _)
   | (with_reducible refine LeO.ite ?_ ?_)
   | (with_reducible refine LeO.bind ?_ (fun _ => ?_))
   | exact ih0 _ _ _
   | exact laws_szAsset.mono _ _ _ _ _
   | exact LeO.none _
   | refine LeO.ite ?_ ?_
   | refine LeO.bind ?_ (fun _ => ?_)
theorem laws_szAssetS.mono : ∀ a0 a1 k, LeO (laws_szAssetS.f k a0 a1) (laws_szAssetS.f (k + 1) a0 a1) := by
 intro a0 a1 k
 have ih0 := laws_szAssetS.mono_l k
 unfold laws_szAssetS.f
 repeat' first
   | (with_reducible exact ih0 _ _ _)
   | (with_reducible exact laws_szAsset.mono _ _ _ _ _)
   | (with_reducible exact LeO.refl _)
   | (with_reducible exact LeO.none _)
   | (with_reducible refine LeO.ite ?_ ?_)
   | (with_reducible refine LeO.bind ?_ (fun _ => ?_))
   | exact ih0 _ _ _
   | exact laws_szAsset.mono _ _ _ _ _
   | exact LeO.none _
   | refine LeO.ite ?_ ?_
   | refine LeO.bind ?_ (fun _ => ?_)
set_option maxHeartbeats 8000000 in
set_option maxRecDepth 100000 in
theorem laws_szAssetS.calls (k : Nat) (A0 : Option Addr) (c0 : Nat) (l0 : List (S62)) (a1 : Int) (r : Int) (w : World) (hr0 : Kd.C k62 w A0 l0.length l0) (hc0 : l0.length ≤ c0) (h : laws_szAssetS.f k l0 a1 = some r) :
  Calls Try.prog 7 #[.slice A0 l0.length c0, .int .i64 a1] w fun e w' => e = .returned (.int .i64 r) ∧ Below w.heap.size w w' := by
 have hu62 := Try.underlying62
 have HR0 := Aside0.mk hr0
 have HC0 := Aside0.mk hc0
 clear hr0 hc0
 have HB := Aside0.mk (Below.refl w.heap.size w)
 have H : (if (wrap64 (a1 - (l0.length : Int))) < 0 then (some (-1)) else (laws_szAssetS.l0 k l0 (wrap64 (a1 - (l0.length : Int))) 0)) = some r := h
 clear h
 by_cases c3 : (wrap64 (a1 - (l0.length : Int))) < 0
 ·rw [if_pos c3] at H
  have c3b0 : decide ((wrap64 (a1 - (l0.length : Int))) < 0) = true := decide_eq_true c3
  clear c3
  obtain rfl := Option.some.inj H
  go_enter Try.func7, Try.ntmps7
  go_wp2
  go_ret
  exact ⟨eE, lU⟩
 ·rw [if_neg c3] at H
  have c3b0 : decide ((wrap64 (a1 - (l0.length : Int))) < 0) = false := decide_eq_false c3
  clear c3
  have H' := Aside0.mk H
  clear H
  go_enter Try.func7, Try.ntmps7
  go_wp2
  go_loopg [1, 5] k (fun kq v1 v5 w' => ∃ (x1_1 : Int) (x5_1 : Int), v1 = .int .i64 x1_1 ∧ v5 = .int .i64 x5_1 ∧ Aside0 (laws_szAssetS.l0 kq l0 x1_1 x5_1 = some r) ∧ Aside0 (kq ≤ k) ∧ Aside0 (Below w.heap.size w w'))
  case atStart => exact ⟨(wrap64 (a1 - (l0.length : Int))), (0), tE, tE, H', ⟨Nat.le_refl _⟩, ⟨by repeat (first | (with_reducible first | exact HB.out | apply below_alloc | apply pw_below_drewN | apply below_drew1) | exact HB.out)⟩⟩
  case round =>
   clear H'
   try clear p2
   try clear c3
   try clear c3b0
   obtain ⟨x1_1, x5_1, rfl, rfl, HA, HK1, HB⟩ := hrel
   cases gk with
   | zero => exact absurd HA.out (by simp [laws_szAssetS.l0])
   | succ k1 =>
    have H := HA.out
    clear HA
    simp only [laws_szAssetS.l0] at H
    by_cases c4 : x5_1 < (l0.length : Int)
    ·rw [if_pos c4] at H
     have c4b0 : decide (x5_1 < (l0.length : Int)) = true := decide_eq_true c4
     clear c4
     by_cases c5 : 0 ≤ x5_1
     ·rw [if_pos c5] at H
      have c5b0 : decide (0 ≤ x5_1) = true := decide_eq_true c5
      clear c5
      replace H := Option.bind_eq_some_iff.mp H
      obtain ⟨t106, A60, H⟩ := H
      replace H : (if t106 < 0 then (some (-1)) else (laws_szAssetS.l0 k1 l0 t106 (wrap64 (x5_1 + 1)))) = some r := H
      have A6 := Aside0.mk A60
      clear A60
      by_cases c7 : t106 < 0
      ·rw [if_pos c7] at H
       have c7b0 : decide (t106 < 0) = true := decide_eq_true c7
       clear c7
       obtain rfl := Option.some.inj H
       have p105 : 0 ≤ (x5_1 : Int) := of_decide_eq_true hE
       have q105 : x5_1 < (l0.length : Int) := of_decide_eq_true hE
       obtain ⟨ad105, A105_1, c105_1, A105_2, c105_2, e105, hx105_0, hx105_1, hx105_2, hl105_1, hi105_1, hl105_2, hi105_2⟩ := at_T62 HR0.out x5_1 p105 q105
       cases e105
       replace hx105_0 := (HB.out.cell (World.block_lt_of_cell? w _ hx105_0)).trans hx105_0
       replace hx105_1 := (HB.out.cell (World.block_lt_of_cell? w _ hx105_1)).trans hx105_1
       replace hx105_2 := (HB.out.cell (World.block_lt_of_cell? w _ hx105_2)).trans hx105_2
       have HR105_1 := Aside0.mk hi105_1
       have HC105_1 := Aside0.mk hl105_1
       clear hi105_1 hl105_1
       have HR105_2 := Aside0.mk hi105_2
       have HC105_2 := Aside0.mk hl105_2
       clear hi105_2 hl105_2
       replace p105 := eq_true p105
       replace q105 := eq_true q105
       go_wp2_with (first | ((with_reducible refine gate_callee (f := 28) rfl ?_); refine goesL_ (some 23) rfl rfl Try.func28 (by kernel_rfl) rfl #[.agg #[.string ((rd_T62 l0 x5_1).f0), .slice A105_1 ((rd_T62 l0 x5_1).f1).length c105_1, .slice A105_2 ((rd_T62 l0 x5_1).f2).length c105_2], .int .i64 x1_1] rfl aE ?_; (with_reducible refine (laws_szAsset.calls k1 ((rd_T62 l0 x5_1).f0) _ _ ((rd_T62 l0 x5_1).f1) _ _ ((rd_T62 l0 x5_1).f2) x1_1 t106 _ ?side1 ?side2 ?side3 ?side4 A6.out).mono ?_); (case side1 => exact cU (Kd.C_below HR105_1.out HB.out)); (case side2 => exact HC105_1.out); (case side3 => exact cU (Kd.C_below HR105_2.out HB.out)); (case side4 => exact HC105_2.out); rintro e w8 ⟨rfl, hb⟩; refine ⟨_, rfl, ?_⟩; replace HB := bH (lU) hb; (try clear hb)))
       go_ret
       exact ⟨eE, lU⟩
      ·rw [if_neg c7] at H
       have c7b0 : decide (t106 < 0) = false := decide_eq_false c7
       clear c7
       have H' := Aside0.mk H
       clear H
       have p105 : 0 ≤ (x5_1 : Int) := of_decide_eq_true hE
       have q105 : x5_1 < (l0.length : Int) := of_decide_eq_true hE
       obtain ⟨ad105, A105_1, c105_1, A105_2, c105_2, e105, hx105_0, hx105_1, hx105_2, hl105_1, hi105_1, hl105_2, hi105_2⟩ := at_T62 HR0.out x5_1 p105 q105
       cases e105
       replace hx105_0 := (HB.out.cell (World.block_lt_of_cell? w _ hx105_0)).trans hx105_0
       replace hx105_1 := (HB.out.cell (World.block_lt_of_cell? w _ hx105_1)).trans hx105_1
       replace hx105_2 := (HB.out.cell (World.block_lt_of_cell? w _ hx105_2)).trans hx105_2
       have HR105_1 := Aside0.mk hi105_1
       have HC105_1 := Aside0.mk hl105_1
       clear hi105_1 hl105_1
       have HR105_2 := Aside0.mk hi105_2
       have HC105_2 := Aside0.mk hl105_2
       clear hi105_2 hl105_2
       replace p105 := eq_true p105
       replace q105 := eq_true q105
       go_wp2_with (first | ((with_reducible refine gate_callee (f := 28) rfl ?_); refine goesL_ (some 23) rfl rfl Try.func28 (by kernel_rfl) rfl #[.agg #[.string ((rd_T62 l0 x5_1).f0), .slice A105_1 ((rd_T62 l0 x5_1).f1).length c105_1, .slice A105_2 ((rd_T62 l0 x5_1).f2).length c105_2], .int .i64 x1_1] rfl aE ?_; (with_reducible refine (laws_szAsset.calls k1 ((rd_T62 l0 x5_1).f0) _ _ ((rd_T62 l0 x5_1).f1) _ _ ((rd_T62 l0 x5_1).f2) x1_1 t106 _ ?side1 ?side2 ?side3 ?side4 A6.out).mono ?_); (case side1 => exact cU (Kd.C_below HR105_1.out HB.out)); (case side2 => exact HC105_1.out); (case side3 => exact cU (Kd.C_below HR105_2.out HB.out)); (case side4 => exact HC105_2.out); rintro e w9 ⟨rfl, hb⟩; refine ⟨_, rfl, ?_⟩; replace HB := bH (lU) hb; (try clear hb)))
       go_roundg k1
       case measure => have := HK1.out; omega
       case rel => exact ⟨(t106), (wrap64 (x5_1 + 1)), tE, tE, H', ⟨by have := HK1.out; omega⟩, ⟨by repeat (first | (with_reducible first | exact HB.out | apply below_alloc | apply pw_below_drewN | apply below_drew1) | exact HB.out)⟩⟩
     ·rw [if_neg c5] at H
      exact absurd H (by simp)
    ·rw [if_neg c4] at H
     have c4b0 : decide (x5_1 < (l0.length : Int)) = false := decide_eq_false c4
     clear c4
     obtain rfl := Option.some.inj H
     go_wp2
     go_ret
     exact ⟨eE, lU⟩
def laws_toStringS.l0 : Nat → List ByteArray → List ByteArray → Int → Option (List ByteArray)
 | 0, _, _, _ => none
 | k + 1, x0, x3, x4 => if x4 < (x0.length : Int) then (if 0 ≤ x4 then (if x4 < (x3.length : Int) then (laws_toStringS.l0 k x0 (x3.set (x4 : Int).toNat (rdOf ByteArray.empty x0 x4)) (wrap64 (x4 + 1))) else (none)) else (none)) else (some x3)
def laws_toStringS.f (k : Nat) (l0 : List ByteArray) : Option (List ByteArray) := if 0 ≤ (l0.length : Int) then (if ((l0.length : Int) : Int).toNat ≤ 17592186044416 then (laws_toStringS.l0 k l0 (List.replicate ((l0.length : Int) : Int).toNat (⟨#[]⟩ : ByteArray)) 0) else (none)) else (none)
theorem laws_toStringS.mono_l : ∀ k, (∀ y0 y1 y2, LeO (laws_toStringS.l0 k y0 y1 y2) (laws_toStringS.l0 (k + 1) y0 y1 y2))
 | 0 => fun _ _ _ r h => by simp [laws_toStringS.l0] at h
 | k + 1 => by
  have ih0 := laws_toStringS.mono_l k
  ·intro y0 y1 y2
   unfold laws_toStringS.l0
   repeat' first
   | (with_reducible exact ih0 _ _ _)
   | (with_reducible exact LeO.refl _)
   | (with_reducible exact LeO.none _)
   | (with_reducible refine LeO.ite ?_ ?_)
   | (with_reducible refine LeO.bind ?_ (fun _ => ?_))
   | exact ih0 _ _ _
   | exact LeO.none _
   | refine LeO.ite ?_ ?_
   | refine LeO.bind ?_ (fun _ => ?_)
theorem laws_toStringS.mono : ∀ a0 k, LeO (laws_toStringS.f k a0) (laws_toStringS.f (k + 1) a0) := by
 intro a0 k
 have ih0 := laws_toStringS.mono_l k
 unfold laws_toStringS.f
 repeat' first
   | (with_reducible exact ih0 _ _ _)
   | (with_reducible exact LeO.refl _)
   | (with_reducible exact LeO.none _)
   | (with_reducible refine LeO.ite ?_ ?_)
   | (with_reducible refine LeO.bind ?_ (fun _ => ?_))
   | exact ih0 _ _ _
   | exact LeO.none _
   | refine LeO.ite ?_ ?_
   | refine LeO.bind ?_ (fun _ => ?_)
set_option maxHeartbeats 8000000 in
set_option maxRecDepth 100000 in
theorem laws_toStringS.calls (k : Nat) (A0 : Option Addr) (c0 : Nat) (l0 : List ByteArray) (r : List ByteArray) (w : World) (hr0 : Kd.C Kd.string w A0 l0.length l0) (hc0 : l0.length ≤ c0) (h : laws_toStringS.f k l0 = some r) :
  Calls Try.prog 71 #[.slice A0 l0.length c0] w fun e w' => ∃ v0_ : Value, e = .returned (v0_) ∧ Kd.R Kd.string 9 w' w.heap.size (fun _ => True) v0_ r ∧ Below w.heap.size w w' := by
 have HR0 := Aside0.mk hr0
 have HC0 := Aside0.mk hc0
 clear hr0 hc0
 have HB := Aside0.mk (Below.refl w.heap.size w)
 have H : (if 0 ≤ (l0.length : Int) then (if ((l0.length : Int) : Int).toNat ≤ 17592186044416 then (laws_toStringS.l0 k l0 (List.replicate ((l0.length : Int) : Int).toNat (⟨#[]⟩ : ByteArray)) 0) else (none)) else (none)) = some r := h
 clear h
 by_cases c2 : 0 ≤ (l0.length : Int)
 ·rw [if_pos c2] at H
  have c2b0 := eq_true c2
  have c2b1 : decide (0 ≤ (l0.length : Int)) = true := decide_eq_true c2
  clear c2
  by_cases c3 : ((l0.length : Int) : Int).toNat ≤ 17592186044416
  ·rw [if_pos c3] at H
   have c3b0 := eq_true c3
   have c3b1 : decide (((l0.length : Int) : Int).toNat ≤ 17592186044416) = true := decide_eq_true c3
   clear c3
   obtain ⟨y107, hy107⟩ : ∃ y_ : List ByteArray, y_ = (List.replicate ((l0.length : Int) : Int).toNat (⟨#[]⟩ : ByteArray)) := ⟨_, rfl⟩
   replace H : (laws_toStringS.l0 k l0 y107 0) = some r := by first | (rw [hy107]; with_reducible exact H) | (have H2_ := (Option.bind_some _ _).symm.trans H; rw [hy107]; with_reducible exact H2_) | (have H2_ := (Option.bind_some _ _).symm.trans H; with_reducible exact H2_) | with_reducible exact H | (rw [hy107]; exact H) | exact H
   have Ny107 := Aside0.mk hy107
   clear hy107
   have H' := Aside0.mk H
   clear H
   go_enter Try.func71, Try.ntmps71
   go_wp2_with (first | ((with_reducible refine gate_dst (N := 7) rfl ?_); refine Kd.R_make Kd.string _ 9 rfl (N := 7) rfl 29 _ _ rfl (l0.length : Int) rfl rfl Try.underlying29 (.string ⟨#[]⟩) 16 info9 rfl (by decide) (by omega) (⟨#[]⟩ : ByteArray) (ok := fun _ => True) (okp := fun _ => True) rfl (fun _ hk => hk) trivial (of_decide_eq_true hE) (Nat.le_trans (Nat.mul_le_mul_right _ (of_decide_eq_true hE : (l0.length : Int).toNat ≤ 17592186044416)) (by omega)) (Below.refl _ _) (Nat.le_refl _) ?_; intro v108 w4 ho5 hb hg_ hnew_; clear hg_ hnew_; (first | rw [← Ny107.out] at ho5 | (simp only [Int.reduceToNat] at ho5; rw [← Ny107.out] at ho5)); have HO109 := Aside0.mk (Kd.R_lower ho5 (below_size (lU))); replace HB := bH (lU) hb; clear hb ho5))
   (try simp only [Act.put, List.setIfInBounds_toArray, List.set_cons_zero, List.set_cons_succ])
   go_loopg [4] k (fun kq v4 w' => ∃ (x3_1 : List ByteArray) (x4_1 : Int), v4 = .int .i64 x4_1 ∧ Aside0 (laws_toStringS.l0 kq l0 x3_1 x4_1 = some r) ∧ Aside0 (kq ≤ k) ∧ Aside0 (Kd.R Kd.string 9 w' w.heap.size (fun _ => True) v108 x3_1) ∧ Aside0 (Below w.heap.size w w'))
   case atStart => exact ⟨(y107), (0), tE, H', ⟨Nat.le_refl _⟩, ⟨by (with_reducible repeat (first | apply Kd.R_alloc | apply Kd.R_drewN | apply Kd.R_drew)); exact HO109.out⟩, ⟨by repeat (first | (with_reducible first | exact HB.out | apply below_alloc | apply pw_below_drewN | apply below_drew1) | exact HB.out)⟩⟩
   case round =>
    clear H'
    try clear c2
    try clear c2b0
    try clear c2b1
    try clear p2
    try clear c3
    try clear c3b0
    try clear c3b1
    obtain ⟨x3_1, x4_1, rfl, HA, HK1, HO_3, HB⟩ := hrel
    cases gk with
    | zero => exact absurd HA.out (by simp [laws_toStringS.l0])
    | succ k1 =>
     have H := HA.out
     clear HA
     simp only [laws_toStringS.l0] at H
     by_cases c6 : x4_1 < (l0.length : Int)
     ·rw [if_pos c6] at H
      have c6b0 : decide (x4_1 < (l0.length : Int)) = true := decide_eq_true c6
      clear c6
      by_cases c7 : 0 ≤ x4_1
      ·rw [if_pos c7] at H
       have c7b0 : decide (0 ≤ x4_1) = true := decide_eq_true c7
       clear c7
       by_cases c8 : x4_1 < (x3_1.length : Int)
       ·rw [if_pos c8] at H
        have c8b0 : decide (x4_1 < (x3_1.length : Int)) = true := decide_eq_true c8
        clear c8
        obtain ⟨y111, hy111⟩ : ∃ y_ : List ByteArray, y_ = (x3_1.set (x4_1 : Int).toNat (rdOf ByteArray.empty l0 x4_1)) := ⟨_, rfl⟩
        replace H : (laws_toStringS.l0 k1 l0 y111 (wrap64 (x4_1 + 1))) = some r := by first | (rw [hy111]; with_reducible exact H) | (have H2_ := (Option.bind_some _ _).symm.trans H; rw [hy111]; with_reducible exact H2_) | (have H2_ := (Option.bind_some _ _).symm.trans H; with_reducible exact H2_) | with_reducible exact H | (rw [hy111]; exact H) | exact H
        have Ny111 := Aside0.mk hy111
        clear hy111
        have H' := Aside0.mk H
        clear H
        have p110 : 0 ≤ (x4_1 : Int) := of_decide_eq_true hE
        have q110 : x4_1 < (l0.length : Int) := of_decide_eq_true hE
        obtain ⟨ad110, e110, hx110_0⟩ := Kd.at_string HR0.out x4_1 p110 q110
        cases e110
        replace hx110_0 := (HB.out.cell (World.block_lt_of_cell? w _ hx110_0)).trans hx110_0
        replace p110 := eq_true p110
        replace q110 := eq_true q110
        have p9 : 0 ≤ (x4_1 : Int) := of_decide_eq_true hE
        have q9 : (x4_1 : Int) < ((x3_1.length : Int) : Int) := of_decide_eq_true hE
        obtain ⟨go9, co9, eo9, gb9, gl9, cl9, HG9⟩ := Kd.R_form HO_3.out (by omega)
        (first | cases eo9 | (injection eo9 with ea_ en_ ec_; (first | subst ea_ | (injection ea_ with ea_; subst ea_)); subst ec_; clear en_))
        have GB9 := Aside0.mk gb9
        have GG9 := Aside0.mk HG9
        clear gb9 gl9 HG9
        obtain ⟨hx9_0, hf9_0⟩ := Kd.R_celln (⟨#[]⟩ : ByteArray) HO_3.out (x4_1 : Int) p9 q9
        replace p9 := eq_true p9
        replace q9 := eq_true q9
        have HP10 := Kd.R_putg HO_3.out (x4_1 : Int) (rdOf ByteArray.empty l0 x4_1)
        go_wp2_with (first | ((with_reducible refine gate_store (t := 9) (p := 20) rfl ?_); refine store_event (t := 9) (p := 20) (v := ?vo_w11) (w1 := (wr.setCell ⟨go9, (x4_1 : Int).toNat, none⟩ (.string (rdOf ByteArray.empty l0 x4_1)))) ?hg ?ho ?hn ?hr ?_; (case ho => rfl); (case hg => rfl); (case hn => rfl); (case hr => exact sE); intro w11 hw; have hg : wr.grownBy w11 (some go9) := (by rw [hw]; exact HP10.2); have hp_ : Kd.R Kd.string 9 w11 w.heap.size (fun _ => True) (.slice (some ⟨go9, 0, none⟩) x3_1.length co9) y111 := (by rw [hw, Ny111.out]; exact HP10.1); clear HP10; replace HO_3 := Aside0.mk hp_; replace HB := Aside0.mk ((by rw [hw]; exact below_set (HB.out) GB9.out : Below w.heap.size w w11)); clear hg hw hp_))
        go_roundg k1
        case measure => have := HK1.out; omega
        case rel => exact ⟨(y111), (wrap64 (x4_1 + 1)), tE, H', ⟨by have := HK1.out; omega⟩, ⟨by (with_reducible repeat (first | apply Kd.R_alloc | apply Kd.R_drewN | apply Kd.R_drew)); exact HO_3.out⟩, ⟨by repeat (first | (with_reducible first | exact HB.out | apply below_alloc | apply pw_below_drewN | apply below_drew1) | exact HB.out)⟩⟩
       ·rw [if_neg c8] at H
        exact absurd H (by simp)
      ·rw [if_neg c7] at H
       exact absurd H (by simp)
     ·rw [if_neg c6] at H
      have c6b0 : decide (x4_1 < (l0.length : Int)) = false := decide_eq_false c6
      clear c6
      obtain rfl := Option.some.inj H
      go_wp2
      go_ret
      exact ⟨_, eE, by (with_reducible repeat (first | apply Kd.R_alloc | apply Kd.R_drewN | apply Kd.R_drew)); exact HO_3.out, lU⟩
  ·rw [if_neg c3] at H
   exact absurd H (by simp)
 ·rw [if_neg c2] at H
  exact absurd H (by simp)
def laws_toByteS.l0 : Nat → List Int → List Int → Int → Option (List Int)
 | 0, _, _, _ => none
 | k + 1, x0, x3, x4 => if x4 < (x0.length : Int) then (if 0 ≤ x4 then (if x4 < (x3.length : Int) then (laws_toByteS.l0 k x0 (x3.set (x4 : Int).toNat (rd x0 x4)) (wrap64 (x4 + 1))) else (none)) else (none)) else (some x3)
def laws_toByteS.f (k : Nat) (l0 : List Int) : Option (List Int) := if 0 ≤ (l0.length : Int) then (if ((l0.length : Int) : Int).toNat ≤ 281474976710656 then (laws_toByteS.l0 k l0 (List.replicate ((l0.length : Int) : Int).toNat 0) 0) else (none)) else (none)
theorem laws_toByteS.mono_l : ∀ k, (∀ y0 y1 y2, LeO (laws_toByteS.l0 k y0 y1 y2) (laws_toByteS.l0 (k + 1) y0 y1 y2))
 | 0 => fun _ _ _ r h => by simp [laws_toByteS.l0] at h
 | k + 1 => by
  have ih0 := laws_toByteS.mono_l k
  ·intro y0 y1 y2
   unfold laws_toByteS.l0
   repeat' first
   | (with_reducible exact ih0 _ _ _)
   | (with_reducible exact LeO.refl _)
   | (with_reducible exact LeO.none _)
   | (with_reducible refine LeO.ite ?_ ?_)
   | (with_reducible refine LeO.bind ?_ (fun _ => ?_))
   | exact ih0 _ _ _
   | exact LeO.none _
   | refine LeO.ite ?_ ?_
   | refine LeO.bind ?_ (fun _ => ?_)
theorem laws_toByteS.mono : ∀ a0 k, LeO (laws_toByteS.f k a0) (laws_toByteS.f (k + 1) a0) := by
 intro a0 k
 have ih0 := laws_toByteS.mono_l k
 unfold laws_toByteS.f
 repeat' first
   | (with_reducible exact ih0 _ _ _)
   | (with_reducible exact LeO.refl _)
   | (with_reducible exact LeO.none _)
   | (with_reducible refine LeO.ite ?_ ?_)
   | (with_reducible refine LeO.bind ?_ (fun _ => ?_))
   | exact ih0 _ _ _
   | exact LeO.none _
   | refine LeO.ite ?_ ?_
   | refine LeO.bind ?_ (fun _ => ?_)
set_option maxHeartbeats 8000000 in
set_option maxRecDepth 100000 in
theorem laws_toByteS.calls (k : Nat) (A0 : Option Addr) (c0 : Nat) (l0 : List Int) (r : List Int) (w : World) (hr0 : Kd.C (Kd.int .u8) w A0 l0.length l0) (hc0 : l0.length ≤ c0) (h : laws_toByteS.f k l0 = some r) :
  Calls Try.prog 72 #[.slice A0 l0.length c0] w fun e w' => ∃ v0_ : Value, e = .returned (v0_) ∧ Kd.R (Kd.int .u8) 5 w' w.heap.size (fun _ => True) v0_ r ∧ Below w.heap.size w w' := by
 have HR0 := Aside0.mk hr0
 have HC0 := Aside0.mk hc0
 clear hr0 hc0
 have HB := Aside0.mk (Below.refl w.heap.size w)
 have H : (if 0 ≤ (l0.length : Int) then (if ((l0.length : Int) : Int).toNat ≤ 281474976710656 then (laws_toByteS.l0 k l0 (List.replicate ((l0.length : Int) : Int).toNat 0) 0) else (none)) else (none)) = some r := h
 clear h
 by_cases c2 : 0 ≤ (l0.length : Int)
 ·rw [if_pos c2] at H
  have c2b0 := eq_true c2
  have c2b1 : decide (0 ≤ (l0.length : Int)) = true := decide_eq_true c2
  clear c2
  by_cases c3 : ((l0.length : Int) : Int).toNat ≤ 281474976710656
  ·rw [if_pos c3] at H
   have c3b0 := eq_true c3
   have c3b1 : decide (((l0.length : Int) : Int).toNat ≤ 281474976710656) = true := decide_eq_true c3
   clear c3
   obtain ⟨y112, hy112⟩ : ∃ y_ : List Int, y_ = (List.replicate ((l0.length : Int) : Int).toNat 0) := ⟨_, rfl⟩
   replace H : (laws_toByteS.l0 k l0 y112 0) = some r := by first | (rw [hy112]; with_reducible exact H) | (have H2_ := (Option.bind_some _ _).symm.trans H; rw [hy112]; with_reducible exact H2_) | (have H2_ := (Option.bind_some _ _).symm.trans H; with_reducible exact H2_) | with_reducible exact H | (rw [hy112]; exact H) | exact H
   have Ny112 := Aside0.mk hy112
   clear hy112
   have H' := Aside0.mk H
   clear H
   go_enter Try.func72, Try.ntmps72
   go_wp2_with (first | ((with_reducible refine gate_dst (N := 7) rfl ?_); refine Kd.R_make (Kd.int .u8) _ 5 rfl (N := 7) rfl 60 _ _ rfl (l0.length : Int) rfl rfl Try.underlying60 (.int .u8 0) 1 info5 rfl (by decide) (by omega) 0 (ok := fun _ => True) (okp := fun _ => True) rfl (fun _ hk => hk) trivial (of_decide_eq_true hE) (Nat.le_trans (Nat.mul_le_mul_right _ (of_decide_eq_true hE : (l0.length : Int).toNat ≤ 281474976710656)) (by omega)) (Below.refl _ _) (Nat.le_refl _) ?_; intro v113 w4 ho5 hb hg_ hnew_; clear hg_ hnew_; (first | rw [← Ny112.out] at ho5 | (simp only [Int.reduceToNat] at ho5; rw [← Ny112.out] at ho5)); have HO114 := Aside0.mk (Kd.R_lower ho5 (below_size (lU))); replace HB := bH (lU) hb; clear hb ho5))
   (try simp only [Act.put, List.setIfInBounds_toArray, List.set_cons_zero, List.set_cons_succ])
   go_loopg [4] k (fun kq v4 w' => ∃ (x3_1 : List Int) (x4_1 : Int), v4 = .int .i64 x4_1 ∧ Aside0 (laws_toByteS.l0 kq l0 x3_1 x4_1 = some r) ∧ Aside0 (kq ≤ k) ∧ Aside0 (Kd.R (Kd.int .u8) 5 w' w.heap.size (fun _ => True) v113 x3_1) ∧ Aside0 (Below w.heap.size w w'))
   case atStart => exact ⟨(y112), (0), tE, H', ⟨Nat.le_refl _⟩, ⟨by (with_reducible repeat (first | apply Kd.R_alloc | apply Kd.R_drewN | apply Kd.R_drew)); exact HO114.out⟩, ⟨by repeat (first | (with_reducible first | exact HB.out | apply below_alloc | apply pw_below_drewN | apply below_drew1) | exact HB.out)⟩⟩
   case round =>
    clear H'
    try clear c2
    try clear c2b0
    try clear c2b1
    try clear p2
    try clear c3
    try clear c3b0
    try clear c3b1
    obtain ⟨x3_1, x4_1, rfl, HA, HK1, HO_3, HB⟩ := hrel
    cases gk with
    | zero => exact absurd HA.out (by simp [laws_toByteS.l0])
    | succ k1 =>
     have H := HA.out
     clear HA
     simp only [laws_toByteS.l0] at H
     by_cases c6 : x4_1 < (l0.length : Int)
     ·rw [if_pos c6] at H
      have c6b0 : decide (x4_1 < (l0.length : Int)) = true := decide_eq_true c6
      clear c6
      by_cases c7 : 0 ≤ x4_1
      ·rw [if_pos c7] at H
       have c7b0 : decide (0 ≤ x4_1) = true := decide_eq_true c7
       clear c7
       by_cases c8 : x4_1 < (x3_1.length : Int)
       ·rw [if_pos c8] at H
        have c8b0 : decide (x4_1 < (x3_1.length : Int)) = true := decide_eq_true c8
        clear c8
        obtain ⟨y116, hy116⟩ : ∃ y_ : List Int, y_ = (x3_1.set (x4_1 : Int).toNat (rd l0 x4_1)) := ⟨_, rfl⟩
        replace H : (laws_toByteS.l0 k1 l0 y116 (wrap64 (x4_1 + 1))) = some r := by first | (rw [hy116]; with_reducible exact H) | (have H2_ := (Option.bind_some _ _).symm.trans H; rw [hy116]; with_reducible exact H2_) | (have H2_ := (Option.bind_some _ _).symm.trans H; with_reducible exact H2_) | with_reducible exact H | (rw [hy116]; exact H) | exact H
        have Ny116 := Aside0.mk hy116
        clear hy116
        have H' := Aside0.mk H
        clear H
        have p115 : 0 ≤ (x4_1 : Int) := of_decide_eq_true hE
        have q115 : x4_1 < (l0.length : Int) := of_decide_eq_true hE
        obtain ⟨ad115, e115, hx115_0⟩ := Kd.at_int HR0.out x4_1 p115 q115
        cases e115
        replace hx115_0 := (HB.out.cell (World.block_lt_of_cell? w _ hx115_0)).trans hx115_0
        replace p115 := eq_true p115
        replace q115 := eq_true q115
        have p9 : 0 ≤ (x4_1 : Int) := of_decide_eq_true hE
        have q9 : (x4_1 : Int) < ((x3_1.length : Int) : Int) := of_decide_eq_true hE
        obtain ⟨go9, co9, eo9, gb9, gl9, cl9, HG9⟩ := Kd.R_form HO_3.out (by omega)
        (first | cases eo9 | (injection eo9 with ea_ en_ ec_; (first | subst ea_ | (injection ea_ with ea_; subst ea_)); subst ec_; clear en_))
        have GB9 := Aside0.mk gb9
        have GG9 := Aside0.mk HG9
        clear gb9 gl9 HG9
        obtain ⟨hx9_0, hf9_0⟩ := Kd.R_celln 0 HO_3.out (x4_1 : Int) p9 q9
        replace p9 := eq_true p9
        replace q9 := eq_true q9
        have HP10 := Kd.R_putg HO_3.out (x4_1 : Int) (rd l0 x4_1)
        go_wp2_with (first | ((with_reducible refine gate_store (t := 5) (p := 20) rfl ?_); refine store_event (t := 5) (p := 20) (v := ?vo_w11) (w1 := (wr.setCell ⟨go9, (x4_1 : Int).toNat, none⟩ (.int .u8 (rd l0 x4_1)))) ?hg ?ho ?hn ?hr ?_; (case ho => rfl); (case hg => rfl); (case hn => rfl); (case hr => exact sE); intro w11 hw; have hg : wr.grownBy w11 (some go9) := (by rw [hw]; exact HP10.2); have hp_ : Kd.R (Kd.int .u8) 5 w11 w.heap.size (fun _ => True) (.slice (some ⟨go9, 0, none⟩) x3_1.length co9) y116 := (by rw [hw, Ny116.out]; exact HP10.1); clear HP10; replace HO_3 := Aside0.mk hp_; replace HB := Aside0.mk ((by rw [hw]; exact below_set (HB.out) GB9.out : Below w.heap.size w w11)); clear hg hw hp_))
        go_roundg k1
        case measure => have := HK1.out; omega
        case rel => exact ⟨(y116), (wrap64 (x4_1 + 1)), tE, H', ⟨by have := HK1.out; omega⟩, ⟨by (with_reducible repeat (first | apply Kd.R_alloc | apply Kd.R_drewN | apply Kd.R_drew)); exact HO_3.out⟩, ⟨by repeat (first | (with_reducible first | exact HB.out | apply below_alloc | apply pw_below_drewN | apply below_drew1) | exact HB.out)⟩⟩
       ·rw [if_neg c8] at H
        exact absurd H (by simp)
      ·rw [if_neg c7] at H
       exact absurd H (by simp)
     ·rw [if_neg c6] at H
      have c6b0 : decide (x4_1 < (l0.length : Int)) = false := decide_eq_false c6
      clear c6
      obtain rfl := Option.some.inj H
      go_wp2
      go_ret
      exact ⟨_, eE, by (with_reducible repeat (first | apply Kd.R_alloc | apply Kd.R_drewN | apply Kd.R_drew)); exact HO_3.out, lU⟩
  ·rw [if_neg c3] at H
   exact absurd H (by simp)
 ·rw [if_neg c2] at H
  exact absurd H (by simp)
def laws_toAsset.f (k : Nat) (a0_0 : ByteArray) (l0_1 : List ByteArray) (l0_2 : List Int) : Option (ByteArray × List ByteArray × List Int) := (laws_toStringS.f k l0_1).bind fun t120 => ((laws_toByteS.f k l0_2).bind fun t123 => (some (a0_0, t120, t123)))
theorem laws_toAsset.mono : ∀ a0 a1 a2 k, LeO (laws_toAsset.f k a0 a1 a2) (laws_toAsset.f (k + 1) a0 a1 a2) := by
 intro a0 a1 a2 k
 unfold laws_toAsset.f
 repeat' first
   | (with_reducible exact laws_toByteS.mono _ _)
   | (with_reducible exact laws_toStringS.mono _ _)
   | (with_reducible exact LeO.refl _)
   | (with_reducible exact LeO.none _)
   | (with_reducible refine LeO.ite ?_ ?_)
   | (with_reducible refine LeO.bind ?_ (fun _ => ?_))
   | exact laws_toByteS.mono _ _
   | exact laws_toStringS.mono _ _
   | exact LeO.none _
   | refine LeO.ite ?_ ?_
   | refine LeO.bind ?_ (fun _ => ?_)
set_option maxHeartbeats 8000000 in
set_option maxRecDepth 100000 in
theorem laws_toAsset.calls (k : Nat) (a0_0 : ByteArray) (A0_1 : Option Addr) (c0_1 : Nat) (l0_1 : List ByteArray) (A0_2 : Option Addr) (c0_2 : Nat) (l0_2 : List Int) (r1 : ByteArray) (r2 : List ByteArray) (r3 : List Int) (w : World) (hr0_1 : Kd.C Kd.string w A0_1 l0_1.length l0_1) (hc0_1 : l0_1.length ≤ c0_1) (hr0_2 : Kd.C (Kd.int .u8) w A0_2 l0_2.length l0_2) (hc0_2 : l0_2.length ≤ c0_2) (h : laws_toAsset.f k a0_0 l0_1 l0_2 = some (r1, r2, r3)) :
  Calls Try.prog 33 #[.agg #[.string a0_0, .slice A0_1 l0_1.length c0_1, .slice A0_2 l0_2.length c0_2]] w fun e w' => ∃ v1_ v2_ : Value, e = .returned (.agg #[.string r1, v1_, v2_]) ∧ Kd.R Kd.string 9 w' w.heap.size (fun _ => True) v1_ r2 ∧ Kd.R (Kd.int .u8) 5 w' w.heap.size (fun _ => True) v2_ r3 ∧ Below w.heap.size w w' := by
 have hu62 := Try.underlying62
 have hu63 := Try.underlying63
 have HR0_1 := Aside0.mk hr0_1
 have HC0_1 := Aside0.mk hc0_1
 clear hr0_1 hc0_1
 have HR0_2 := Aside0.mk hr0_2
 have HC0_2 := Aside0.mk hc0_2
 clear hr0_2 hc0_2
 have HB := Aside0.mk (Below.refl w.heap.size w)
 have H : ((laws_toStringS.f k l0_1).bind fun t120 => ((laws_toByteS.f k l0_2).bind fun t123 => (some (a0_0, t120, t123)))) = some (r1, r2, r3) := h
 clear h
 replace H := Option.bind_eq_some_iff.mp H
 obtain ⟨t120, A20, H⟩ := H
 replace H : ((laws_toByteS.f k l0_2).bind fun t123 => (some (a0_0, t120, t123))) = some (r1, r2, r3) := H
 have A2 := Aside0.mk A20
 clear A20
 replace H := Option.bind_eq_some_iff.mp H
 obtain ⟨t123, A30, H⟩ := H
 replace H : (some (a0_0, t120, t123)) = some (r1, r2, r3) := H
 have A3 := Aside0.mk A30
 clear A30
 simp only [Option.some.injEq, Prod.mk.injEq] at H
 obtain ⟨rfl, rfl, rfl⟩ := H
 go_enter Try.func33, Try.ntmps33
 go_wp2_with (first | ((with_reducible refine gate_dst (N := 1) rfl ?_); refine box_event rfl (N := 1) rfl (cs := #[.string a0_0, .slice A0_1 l0_1.length c0_1, .slice A0_2 l0_2.length c0_2]) (t := 62) sE ?_; intro gb117 hg w4 hbox hb; have BK117 := Aside0.mk hbox; have GW117 := gS w hg (lU); have GE117 := gS w hg (lU); replace HB := bH (lU) hb; clear hb hbox hg) | ((with_reducible refine gate_dst (N := 2) rfl ?_); refine box_event rfl (N := 2) rfl (cs := #[.string (⟨#[]⟩ : ByteArray), .slice none 0 0, .slice none 0 0]) (t := 63) sE ?_; intro gb118 hg w5 hbox hb; have BK118 := Aside0.mk hbox; have GW118 := gS w hg (lV1 GE117); have GE118 := gS w hg (lV1 GE117); replace HB := bH (lV1 GE117) hb; have NB117_118 := nL hg (bV BK117); have NB118_117 := nG hg (bV BK117); replace BK117 := bB (bV BK117) hb; clear hb hbox hg) | ((with_reducible refine gate_dst (N := 3) rfl ?_); refine box_event rfl (N := 3) rfl (cs := #[.string (⟨#[]⟩ : ByteArray), .slice none 0 0, .slice none 0 0]) (t := 63) sE ?_; intro gb119 hg w6 hbox hb; have BK119 := Aside0.mk hbox; have GW119 := gS w hg (lV2 GE117 GE118); have GE119 := gS w hg (lV2 GE117 GE118); replace HB := bH (lV2 GE117 GE118) hb; have NB117_119 := nL hg (bV BK117); have NB119_117 := nG hg (bV BK117); replace BK117 := bB (bV BK117) hb; have NB118_119 := nL hg (bV BK118); have NB119_118 := nG hg (bV BK118); replace BK118 := bB (bV BK118) hb; clear hb hbox hg; have hnb7 := NB117_118.out; have hnc7 := NB118_117.out; have hnb8 := NB117_119.out; have hnc8 := NB119_117.out; have hcz9_0 := cz BK117 0 (.string a0_0); have hcz9_1 := cz BK117 1 (.slice A0_1 l0_1.length c0_1); have hcz9_2 := cz BK117 2 (.slice A0_2 l0_2.length c0_2); have hfz9_0 := fz BK117 0; have hfz9_1 := fz BK117 1; have hfz9_2 := fz BK117 2; have hnb10 := NB119_118.out; have hnc10 := NB118_119.out; have hcz11_0 := cz BK119 0 (.string (⟨#[]⟩ : ByteArray)); have hcz11_1 := cz BK119 1 (.slice none 0 0); have hcz11_2 := cz BK119 2 (.slice none 0 0); have hfz11_0 := fz BK119 0; have hfz11_1 := fz BK119 1; have hfz11_2 := fz BK119 2) | ((with_reducible refine gate_store (t := 9) (p := 6) rfl ?_); refine store_event (t := 9) (p := 6) (v := ?vo_w12) (w1 := (w6.setCell ⟨gb119, 0, none⟩ (.string a0_0))) ?hg ?ho ?hn ?hr ?_; (case ho => rfl); (case hg => rfl); (case hn => rfl); (case hr => first | (go_simp; done) | (go_simp; rfl) | (have hq0_ := (blk_cell BK119.out 0).trans (show _ = some _ from rfl); have hf0_ := blk_frozen BK119.out 0; first | (go_simp; done) | (go_simp; rfl))); intro w12 hw; replace BK117 : Aside0 (w12.heap[gb117]? = some (.cells #[.string a0_0, .slice A0_1 l0_1.length c0_1, .slice A0_2 l0_2.length c0_2] 62 (0, 0))) := ⟨(by rw [hw]; exact (bG NB117_119 BK117))⟩; replace BK118 : Aside0 (w12.heap[gb118]? = some (.cells #[.string (⟨#[]⟩ : ByteArray), .slice none 0 0, .slice none 0 0] 63 (0, 0))) := ⟨(by rw [hw]; exact (bG NB118_119 BK118))⟩; replace BK119 : Aside0 (w12.heap[gb119]? = some (.cells #[.string a0_0, .slice none 0 0, .slice none 0 0] 63 (0, 0))) := ⟨(by rw [hw]; exact (by refine bU ?_; refine blk_put (cs := #[.string (⟨#[]⟩ : ByteArray), .slice none 0 0, .slice none 0 0]) ?_ 0 _ rfl; refine bU ?_; exact BK119.out))⟩; replace HB : Aside0 (Below w.heap.size w w12) := ⟨(by rw [hw]; exact (lV3 GE117 GE118 GE119))⟩; clear hw; have hcz13_0 := cz BK117 0 (.string a0_0); have hcz13_1 := cz BK117 1 (.slice A0_1 l0_1.length c0_1); have hcz13_2 := cz BK117 2 (.slice A0_2 l0_2.length c0_2); have hfz13_0 := fz BK117 0; have hfz13_1 := fz BK117 1; have hfz13_2 := fz BK117 2) | ((with_reducible refine gate_callee (f := 71) rfl ?_); refine goesL_ (some 9) rfl rfl Try.func71 (by kernel_rfl) rfl #[.slice A0_1 l0_1.length c0_1] rfl aE ?_; (with_reducible refine (laws_toStringS.calls k _ _ l0_1 t120 _ ?side1 ?side2 A2.out).mono ?_); (case side1 => exact cU (Kd.C_below HR0_1.out HB.out)); (case side2 => exact HC0_1.out); rintro e w14 ⟨v121, rfl, ho0, hb⟩; refine ⟨_, rfl, ?_⟩; have HO122 := Aside0.mk (Kd.R_lower ho0 (below_size (lV3 GE117 GE118 GE119))); replace BK117 := bB (bV BK117) hb; replace BK118 := bB (bV BK118) hb; replace BK119 := bB (bV BK119) hb; replace HB := bH (lV3 GE117 GE118 GE119) hb; (try clear hb); (try clear ho0); obtain ⟨Ao15, co15, eo15⟩ := Kd.R_slice HO122.out; subst eo15; have hcz16_0 := cz BK119 0 (.string a0_0); have hcz16_1 := cz BK119 1 (.slice none 0 0); have hcz16_2 := cz BK119 2 (.slice none 0 0); have hfz16_0 := fz BK119 0; have hfz16_1 := fz BK119 1; have hfz16_2 := fz BK119 2) | ((with_reducible refine gate_store (t := 29) (p := 10) rfl ?_); refine store_event (t := 29) (p := 10) (v := ?vo_w17) (w1 := (w14.setCell ⟨gb119, 1, none⟩ (.slice Ao15 t120.length co15))) ?hg ?ho ?hn ?hr ?_; (case ho => rfl); (case hg => rfl); (case hn => rfl); (case hr => first | (go_simp; done) | (go_simp; rfl) | (have hq0_ := (blk_cell BK119.out 1).trans (show _ = some _ from rfl); have hf0_ := blk_frozen BK119.out 1; first | (go_simp; done) | (go_simp; rfl))); intro w17 hw; replace HO122 : Aside0 (Kd.R Kd.string 9 w17 w.heap.size (fun _ => True) (.slice Ao15 t120.length co15) t120) := ⟨(by rw [hw]; exact (by (with_reducible repeat (first | apply Kd.R_alloc | apply Kd.R_drewN | apply Kd.R_drew)); exact Kd.R_mono (Kd.R_far (p := ⟨gb119, 1, none⟩) (Kd.R_types HO122.out BK119.out (by decide)) (fun _ hk => hk.2) (.slice Ao15 t120.length co15)) (fun _ hk => trivial)))⟩; replace BK117 : Aside0 (w17.heap[gb117]? = some (.cells #[.string a0_0, .slice A0_1 l0_1.length c0_1, .slice A0_2 l0_2.length c0_2] 62 (0, 0))) := ⟨(by rw [hw]; exact (bG NB117_119 BK117))⟩; replace BK118 : Aside0 (w17.heap[gb118]? = some (.cells #[.string (⟨#[]⟩ : ByteArray), .slice none 0 0, .slice none 0 0] 63 (0, 0))) := ⟨(by rw [hw]; exact (bG NB118_119 BK118))⟩; replace BK119 : Aside0 (w17.heap[gb119]? = some (.cells #[.string a0_0, .slice Ao15 t120.length co15, .slice none 0 0] 63 (0, 0))) := ⟨(by rw [hw]; exact (by refine bU ?_; refine blk_put (cs := #[.string a0_0, .slice none 0 0, .slice none 0 0]) ?_ 1 _ rfl; refine bU ?_; exact BK119.out))⟩; replace HB : Aside0 (Below w.heap.size w w17) := ⟨(by rw [hw]; exact (lV3 GE117 GE118 GE119))⟩; clear hw; have hcz18_0 := cz BK117 0 (.string a0_0); have hcz18_1 := cz BK117 1 (.slice A0_1 l0_1.length c0_1); have hcz18_2 := cz BK117 2 (.slice A0_2 l0_2.length c0_2); have hfz18_0 := fz BK117 0; have hfz18_1 := fz BK117 1; have hfz18_2 := fz BK117 2) | ((with_reducible refine gate_callee (f := 72) rfl ?_); refine goesL_ (some 13) rfl rfl Try.func72 (by kernel_rfl) rfl #[.slice A0_2 l0_2.length c0_2] rfl aE ?_; (with_reducible refine (laws_toByteS.calls k _ _ l0_2 t123 _ ?side1 ?side2 A3.out).mono ?_); (case side1 => exact cU (Kd.C_below HR0_2.out HB.out)); (case side2 => exact HC0_2.out); rintro e w19 ⟨v124, rfl, ho0, hb⟩; refine ⟨_, rfl, ?_⟩; replace HO122 := Aside0.mk (Kd.R_below (rU HO122.out) hb); have HO125 := Aside0.mk (Kd.R_lower ho0 (below_size (lV3 GE117 GE118 GE119))); replace BK117 := bB (bV BK117) hb; replace BK118 := bB (bV BK118) hb; replace BK119 := bB (bV BK119) hb; replace HB := bH (lV3 GE117 GE118 GE119) hb; (try clear hb); (try clear ho0); obtain ⟨Ao20, co20, eo20⟩ := Kd.R_slice HO125.out; subst eo20; have hcz21_0 := cz BK119 0 (.string a0_0); have hcz21_1 := cz BK119 1 (.slice Ao15 t120.length co15); have hcz21_2 := cz BK119 2 (.slice none 0 0); have hfz21_0 := fz BK119 0; have hfz21_1 := fz BK119 1; have hfz21_2 := fz BK119 2) | ((with_reducible refine gate_store (t := 60) (p := 14) rfl ?_); refine store_event (t := 60) (p := 14) (v := ?vo_w22) (w1 := (w19.setCell ⟨gb119, 2, none⟩ (.slice Ao20 t123.length co20))) ?hg ?ho ?hn ?hr ?_; (case ho => rfl); (case hg => rfl); (case hn => rfl); (case hr => first | (go_simp; done) | (go_simp; rfl) | (have hq0_ := (blk_cell BK119.out 2).trans (show _ = some _ from rfl); have hf0_ := blk_frozen BK119.out 2; first | (go_simp; done) | (go_simp; rfl))); intro w22 hw; replace HO122 : Aside0 (Kd.R Kd.string 9 w22 w.heap.size (fun _ => True) (.slice Ao15 t120.length co15) t120) := ⟨(by rw [hw]; exact (by (with_reducible repeat (first | apply Kd.R_alloc | apply Kd.R_drewN | apply Kd.R_drew)); exact Kd.R_mono (Kd.R_far (p := ⟨gb119, 2, none⟩) (Kd.R_types HO122.out BK119.out (by decide)) (fun _ hk => hk.2) (.slice Ao20 t123.length co20)) (fun _ hk => trivial)))⟩; replace HO125 : Aside0 (Kd.R (Kd.int .u8) 5 w22 w.heap.size (fun _ => True) (.slice Ao20 t123.length co20) t123) := ⟨(by rw [hw]; exact (by (with_reducible repeat (first | apply Kd.R_alloc | apply Kd.R_drewN | apply Kd.R_drew)); exact Kd.R_mono (Kd.R_far (p := ⟨gb119, 2, none⟩) (Kd.R_types HO125.out BK119.out (by decide)) (fun _ hk => hk.2) (.slice Ao20 t123.length co20)) (fun _ hk => trivial)))⟩; replace BK117 : Aside0 (w22.heap[gb117]? = some (.cells #[.string a0_0, .slice A0_1 l0_1.length c0_1, .slice A0_2 l0_2.length c0_2] 62 (0, 0))) := ⟨(by rw [hw]; exact (bG NB117_119 BK117))⟩; replace BK118 : Aside0 (w22.heap[gb118]? = some (.cells #[.string (⟨#[]⟩ : ByteArray), .slice none 0 0, .slice none 0 0] 63 (0, 0))) := ⟨(by rw [hw]; exact (bG NB118_119 BK118))⟩; replace BK119 : Aside0 (w22.heap[gb119]? = some (.cells #[.string a0_0, .slice Ao15 t120.length co15, .slice Ao20 t123.length co20] 63 (0, 0))) := ⟨(by rw [hw]; exact (by refine bU ?_; refine blk_put (cs := #[.string a0_0, .slice Ao15 t120.length co15, .slice none 0 0]) ?_ 2 _ rfl; refine bU ?_; exact BK119.out))⟩; replace HB : Aside0 (Below w.heap.size w w22) := ⟨(by rw [hw]; exact (lV3 GE117 GE118 GE119))⟩; clear hw; have hcz23_0 := cz BK119 0 (.string a0_0); have hcz23_1 := cz BK119 1 (.slice Ao15 t120.length co15); have hcz23_2 := cz BK119 2 (.slice Ao20 t123.length co20); have hfz23_0 := fz BK119 0; have hfz23_1 := fz BK119 1; have hfz23_2 := fz BK119 2; have hcz24_0 := cz BK118 0 (.string (⟨#[]⟩ : ByteArray)); have hcz24_1 := cz BK118 1 (.slice none 0 0); have hcz24_2 := cz BK118 2 (.slice none 0 0); have hfz24_0 := fz BK118 0; have hfz24_1 := fz BK118 1; have hfz24_2 := fz BK118 2) | ((with_reducible refine gate_store (t := 63) (p := 2) rfl ?_); refine store_event (t := 63) (p := 2) (v := ?vo_w25) (w1 := (((w22.setCell ⟨gb118, 0, none⟩ (.string a0_0)).setCell ⟨gb118, 1, none⟩ (.slice Ao15 t120.length co15)).setCell ⟨gb118, 2, none⟩ (.slice Ao20 t123.length co20))) ?hg ?ho ?hn ?hr ?_; (case ho => rfl); (case hg => rfl); (case hn => rfl); (case hr => first | (go_simp; done) | (go_simp; rfl) | (have hq0_ := (blk_cell BK118.out 0).trans (show _ = some _ from rfl); have hf0_ := blk_frozen BK118.out 0; have hq1_ := (blk_cell BK118.out 1).trans (show _ = some _ from rfl); have hf1_ := blk_frozen BK118.out 1; have hq2_ := (blk_cell BK118.out 2).trans (show _ = some _ from rfl); have hf2_ := blk_frozen BK118.out 2; first | (go_simp; done) | (go_simp; rfl))); intro w25 hw; replace HO122 : Aside0 (Kd.R Kd.string 9 w25 w.heap.size (fun _ => True) (.slice Ao15 t120.length co15) t120) := ⟨(by rw [hw]; exact (by (with_reducible repeat (first | apply Kd.R_alloc | apply Kd.R_drewN | apply Kd.R_drew)); exact Kd.R_mono (Kd.R_far (p := ⟨gb118, 2, none⟩) (Kd.R_far (p := ⟨gb118, 1, none⟩) (Kd.R_far (p := ⟨gb118, 0, none⟩) (Kd.R_types HO122.out BK118.out (by decide)) (fun _ hk => hk.2) (.string a0_0)) (fun _ hk => hk.2) (.slice Ao15 t120.length co15)) (fun _ hk => hk.2) (.slice Ao20 t123.length co20)) (fun _ hk => trivial)))⟩; replace HO125 : Aside0 (Kd.R (Kd.int .u8) 5 w25 w.heap.size (fun _ => True) (.slice Ao20 t123.length co20) t123) := ⟨(by rw [hw]; exact (by (with_reducible repeat (first | apply Kd.R_alloc | apply Kd.R_drewN | apply Kd.R_drew)); exact Kd.R_mono (Kd.R_far (p := ⟨gb118, 2, none⟩) (Kd.R_far (p := ⟨gb118, 1, none⟩) (Kd.R_far (p := ⟨gb118, 0, none⟩) (Kd.R_types HO125.out BK118.out (by decide)) (fun _ hk => hk.2) (.string a0_0)) (fun _ hk => hk.2) (.slice Ao15 t120.length co15)) (fun _ hk => hk.2) (.slice Ao20 t123.length co20)) (fun _ hk => trivial)))⟩; replace BK117 : Aside0 (w25.heap[gb117]? = some (.cells #[.string a0_0, .slice A0_1 l0_1.length c0_1, .slice A0_2 l0_2.length c0_2] 62 (0, 0))) := ⟨(by rw [hw]; exact (bG NB117_118 BK117))⟩; replace BK118 : Aside0 (w25.heap[gb118]? = some (.cells #[.string a0_0, .slice Ao15 t120.length co15, .slice Ao20 t123.length co20] 63 (0, 0))) := ⟨(by rw [hw]; exact (by refine bU ?_; refine blk_put (cs := #[.string a0_0, .slice Ao15 t120.length co15, .slice none 0 0]) ?_ 2 _ rfl; refine bU ?_; refine blk_put (cs := #[.string a0_0, .slice none 0 0, .slice none 0 0]) ?_ 1 _ rfl; refine bU ?_; refine blk_put (cs := #[.string (⟨#[]⟩ : ByteArray), .slice none 0 0, .slice none 0 0]) ?_ 0 _ rfl; refine bU ?_; exact BK118.out))⟩; replace BK119 : Aside0 (w25.heap[gb119]? = some (.cells #[.string a0_0, .slice Ao15 t120.length co15, .slice Ao20 t123.length co20] 63 (0, 0))) := ⟨(by rw [hw]; exact (bG NB119_118 BK119))⟩; replace HB : Aside0 (Below w.heap.size w w25) := ⟨(by rw [hw]; exact (lV3 GE117 GE118 GE119))⟩; clear hw))
 refine bodyPost_ret (results_cell_row rfl _ _ gb118 63 #[.string a0_0, .slice Ao15 t120.length co15, .slice Ao20 t123.length co20] (0, 0) _ rfl (bV BK118) Try.underlying63 rfl (by kernel_rfl)) rfl ?_
 exact ⟨_, _, eE, by (with_reducible repeat (first | apply Kd.R_alloc | apply Kd.R_drewN | apply Kd.R_drew)); exact HO122.out, by (with_reducible repeat (first | apply Kd.R_alloc | apply Kd.R_drewN | apply Kd.R_drew)); exact HO125.out, lV3 GE117 GE118 GE119⟩
def laws_toAssetS.l0 : Nat → List (S62) → List (S63) → Int → Option ((List (S63)))
 | 0, _, _, _ => none
 | k + 1, x0, x3, x4 => if x4 < (x0.length : Int) then (if 0 ≤ x4 then ((laws_toAsset.f k ((rd_T62 x0 x4).f0) ((rd_T62 x0 x4).f1) ((rd_T62 x0 x4).f2)).bind fun bt130 => (if x4 < (x3.length : Int) then (laws_toAssetS.l0 k x0 (x3.set (x4 : Int).toNat (⟨bt130.1, bt130.2.1, bt130.2.2⟩ : S63)) (wrap64 (x4 + 1))) else (none))) else (none)) else (some x3)
def laws_toAssetS.f (k : Nat) (l0 : List (S62)) : Option ((List (S63))) := if 0 ≤ (l0.length : Int) then (if ((l0.length : Int) : Int).toNat ≤ 4398046511104 then (laws_toAssetS.l0 k l0 (List.replicate ((l0.length : Int) : Int).toNat z63) 0) else (none)) else (none)
theorem laws_toAssetS.mono_l : ∀ k, (∀ y0 y1 y2, LeO (laws_toAssetS.l0 k y0 y1 y2) (laws_toAssetS.l0 (k + 1) y0 y1 y2))
 | 0 => fun _ _ _ r h => by simp [laws_toAssetS.l0] at h
 | k + 1 => by
  have ih0 := laws_toAssetS.mono_l k
  ·intro y0 y1 y2
   unfold laws_toAssetS.l0
   repeat' first
   | (with_reducible exact ih0 _ _ _)
   | (with_reducible exact laws_toAsset.mono _ _ _ _)
   | (with_reducible exact LeO.refl _)
   | (with_reducible exact LeO.none _)
   | (with_reducible refine LeO.ite ?_ ?_)
   | (with_reducible refine LeO.bind ?_ (fun _ => ?_))
   | exact ih0 _ _ _
   | exact laws_toAsset.mono _ _ _ _
   | exact LeO.none _
   | refine LeO.ite ?_ ?_
   | refine LeO.bind ?_ (fun _ => ?_)
theorem laws_toAssetS.mono : ∀ a0 k, LeO (laws_toAssetS.f k a0) (laws_toAssetS.f (k + 1) a0) := by
 intro a0 k
 have ih0 := laws_toAssetS.mono_l k
 unfold laws_toAssetS.f
 repeat' first
   | (with_reducible exact ih0 _ _ _)
   | (with_reducible exact laws_toAsset.mono _ _ _ _)
   | (with_reducible exact LeO.refl _)
   | (with_reducible exact LeO.none _)
   | (with_reducible refine LeO.ite ?_ ?_)
   | (with_reducible refine LeO.bind ?_ (fun _ => ?_))
   | exact ih0 _ _ _
   | exact laws_toAsset.mono _ _ _ _
   | exact LeO.none _
   | refine LeO.ite ?_ ?_
   | refine LeO.bind ?_ (fun _ => ?_)
set_option maxHeartbeats 8000000 in
set_option maxRecDepth 100000 in
theorem laws_toAssetS.calls (k : Nat) (A0 : Option Addr) (c0 : Nat) (l0 : List (S62)) (r : List (S63)) (w : World) (hr0 : Kd.C k62 w A0 l0.length l0) (hc0 : l0.length ≤ c0) (h : laws_toAssetS.f k l0 = some r) :
  Calls Try.prog 9 #[.slice A0 l0.length c0] w fun e w' => ∃ v0_ : Value, e = .returned (v0_) ∧ Kd.S k63 63 w' w.heap.size (fun _ => True) v0_ r ∧ Below w.heap.size w w' := by
 have hu62 := Try.underlying62
 have hu63 := Try.underlying63
 have HR0 := Aside0.mk hr0
 have HC0 := Aside0.mk hc0
 clear hr0 hc0
 have HB := Aside0.mk (Below.refl w.heap.size w)
 have H : (if 0 ≤ (l0.length : Int) then (if ((l0.length : Int) : Int).toNat ≤ 4398046511104 then (laws_toAssetS.l0 k l0 (List.replicate ((l0.length : Int) : Int).toNat z63) 0) else (none)) else (none)) = some r := h
 clear h
 by_cases c2 : 0 ≤ (l0.length : Int)
 ·rw [if_pos c2] at H
  have c2b0 := eq_true c2
  have c2b1 : decide (0 ≤ (l0.length : Int)) = true := decide_eq_true c2
  clear c2
  by_cases c3 : ((l0.length : Int) : Int).toNat ≤ 4398046511104
  ·rw [if_pos c3] at H
   have c3b0 := eq_true c3
   have c3b1 : decide (((l0.length : Int) : Int).toNat ≤ 4398046511104) = true := decide_eq_true c3
   clear c3
   obtain ⟨y126, hy126⟩ : ∃ y_ : List (S63), y_ = (List.replicate ((l0.length : Int) : Int).toNat z63) := ⟨_, rfl⟩
   replace H : (laws_toAssetS.l0 k l0 y126 0) = some r := by first | (rw [hy126]; with_reducible exact H) | (have H2_ := (Option.bind_some _ _).symm.trans H; rw [hy126]; with_reducible exact H2_) | (have H2_ := (Option.bind_some _ _).symm.trans H; with_reducible exact H2_) | with_reducible exact H | (rw [hy126]; exact H) | exact H
   have Ny126 := Aside0.mk hy126
   clear hy126
   have H' := Aside0.mk H
   clear H
   go_enter Try.func9, Try.ntmps9
   go_wp2_with (first | ((with_reducible refine gate_dst (N := 7) rfl ?_); refine Kd.S_make k63 _ 63 rfl (N := 7) rfl 25 _ _ rfl (l0.length : Int) rfl rfl Try.underlying25 (.agg #[(.string ⟨#[]⟩), (.slice none 0 0), (.slice none 0 0)]) 64 info63 rfl (by decide) (by omega) z63 (ok := fun _ => True) (okp := fun _ => True) (k63_mkM _ _ _ z63 (Kd.R_nil _ _ _ _ _) (Kd.R_nil _ _ _ _ _)) (fun _ hk => hk) trivial (of_decide_eq_true hE) (Nat.le_trans (Nat.mul_le_mul_right _ (of_decide_eq_true hE : (l0.length : Int).toNat ≤ 4398046511104)) (by omega)) (Below.refl _ _) (Nat.le_refl _) ?_; intro v127 w4 ho5 hb hg_ hnew_; clear hg_ hnew_; (first | rw [← Ny126.out] at ho5 | (simp only [Int.reduceToNat] at ho5; rw [← Ny126.out] at ho5)); have HO128 := Aside0.mk (Kd.S_lower ho5 (below_size (lU))); replace HB := bH (lU) hb; clear hb ho5))
   (try simp only [Act.put, List.setIfInBounds_toArray, List.set_cons_zero, List.set_cons_succ])
   go_loopg [4] k (fun kq v4 w' => ∃ (x3_1 : List (S63)) (x4_1 : Int), v4 = .int .i64 x4_1 ∧ Aside0 (laws_toAssetS.l0 kq l0 x3_1 x4_1 = some r) ∧ Aside0 (kq ≤ k) ∧ Aside0 (Kd.S k63 63 w' w.heap.size (fun _ => True) v127 x3_1) ∧ Aside0 (Below w.heap.size w w'))
   case atStart => exact ⟨(y126), (0), tE, H', ⟨Nat.le_refl _⟩, ⟨by (with_reducible repeat (first | apply Kd.S_alloc | apply Kd.S_drewN | apply Kd.S_drew)); exact HO128.out⟩, ⟨by repeat (first | (with_reducible first | exact HB.out | apply below_alloc | apply pw_below_drewN | apply below_drew1) | exact HB.out)⟩⟩
   case round =>
    clear H'
    try clear c2
    try clear c2b0
    try clear c2b1
    try clear p2
    try clear c3
    try clear c3b0
    try clear c3b1
    obtain ⟨x3_1, x4_1, rfl, HA, HK1, HO_3, HB⟩ := hrel
    cases gk with
    | zero => exact absurd HA.out (by simp [laws_toAssetS.l0])
    | succ k1 =>
     have H := HA.out
     clear HA
     simp only [laws_toAssetS.l0] at H
     by_cases c6 : x4_1 < (l0.length : Int)
     ·rw [if_pos c6] at H
      have c6b0 : decide (x4_1 < (l0.length : Int)) = true := decide_eq_true c6
      clear c6
      by_cases c7 : 0 ≤ x4_1
      ·rw [if_pos c7] at H
       have c7b0 : decide (0 ≤ x4_1) = true := decide_eq_true c7
       clear c7
       replace H := Option.bind_eq_some_iff.mp H
       obtain ⟨⟨t130, t131, t134⟩, A80, H⟩ := H
       replace H : (if x4_1 < (x3_1.length : Int) then (laws_toAssetS.l0 k1 l0 (x3_1.set (x4_1 : Int).toNat (⟨t130, t131, t134⟩ : S63)) (wrap64 (x4_1 + 1))) else (none)) = some r := H
       have A8 := Aside0.mk A80
       clear A80
       by_cases c9 : x4_1 < (x3_1.length : Int)
       ·rw [if_pos c9] at H
        have c9b0 : decide (x4_1 < (x3_1.length : Int)) = true := decide_eq_true c9
        clear c9
        obtain ⟨y137, hy137⟩ : ∃ y_ : List (S63), y_ = (x3_1.set (x4_1 : Int).toNat (⟨t130, t131, t134⟩ : S63)) := ⟨_, rfl⟩
        replace H : (laws_toAssetS.l0 k1 l0 y137 (wrap64 (x4_1 + 1))) = some r := by first | (rw [hy137]; with_reducible exact H) | (have H2_ := (Option.bind_some _ _).symm.trans H; rw [hy137]; with_reducible exact H2_) | (have H2_ := (Option.bind_some _ _).symm.trans H; with_reducible exact H2_) | with_reducible exact H | (rw [hy137]; exact H) | exact H
        have Ny137 := Aside0.mk hy137
        clear hy137
        have H' := Aside0.mk H
        clear H
        have p129 : 0 ≤ (x4_1 : Int) := of_decide_eq_true hE
        have q129 : x4_1 < (l0.length : Int) := of_decide_eq_true hE
        obtain ⟨ad129, A129_1, c129_1, A129_2, c129_2, e129, hx129_0, hx129_1, hx129_2, hl129_1, hi129_1, hl129_2, hi129_2⟩ := at_T62 HR0.out x4_1 p129 q129
        cases e129
        replace hx129_0 := (HB.out.cell (World.block_lt_of_cell? w _ hx129_0)).trans hx129_0
        replace hx129_1 := (HB.out.cell (World.block_lt_of_cell? w _ hx129_1)).trans hx129_1
        replace hx129_2 := (HB.out.cell (World.block_lt_of_cell? w _ hx129_2)).trans hx129_2
        have HR129_1 := Aside0.mk hi129_1
        have HC129_1 := Aside0.mk hl129_1
        clear hi129_1 hl129_1
        have HR129_2 := Aside0.mk hi129_2
        have HC129_2 := Aside0.mk hl129_2
        clear hi129_2 hl129_2
        replace p129 := eq_true p129
        replace q129 := eq_true q129
        go_wp2_with (first | ((with_reducible refine gate_callee (f := 33) rfl ?_); refine goesL_ (some 20) rfl rfl Try.func33 (by kernel_rfl) rfl #[.agg #[.string ((rd_T62 l0 x4_1).f0), .slice A129_1 ((rd_T62 l0 x4_1).f1).length c129_1, .slice A129_2 ((rd_T62 l0 x4_1).f2).length c129_2]] rfl aE ?_; (with_reducible refine (laws_toAsset.calls k1 ((rd_T62 l0 x4_1).f0) _ _ ((rd_T62 l0 x4_1).f1) _ _ ((rd_T62 l0 x4_1).f2) t130 t131 t134 _ ?side1 ?side2 ?side3 ?side4 A8.out).mono ?_); (case side1 => exact cU (Kd.C_below HR129_1.out HB.out)); (case side2 => exact HC129_1.out); (case side3 => exact cU (Kd.C_below HR129_2.out HB.out)); (case side4 => exact HC129_2.out); rintro e w11 ⟨v132, v135, rfl, ho0, ho1, hb⟩; refine ⟨_, rfl, ?_⟩; replace HO_3 := Aside0.mk (Kd.S_mono (Kd.S_told (Kd.S_told (Kd.S_old (by (with_reducible repeat (first | apply Kd.S_alloc | apply Kd.S_drewN | apply Kd.S_drew)); exact HO_3.out) hb) (Kd.R_base ho0)) (Kd.R_base ho1)) (fun _ h_ => h_.1)); have HO133 := Aside0.mk (Kd.R_lower ho0 (below_size (lU))); have HO136 := Aside0.mk (Kd.R_lower ho1 (below_size (lU))); replace HB := bH (lU) hb; (try clear hb); (try clear ho0); (try clear ho1); have p10 : 0 ≤ (x4_1 : Int) := of_decide_eq_true hE; have q10 : (x4_1 : Int) < ((x3_1.length : Int) : Int) := of_decide_eq_true hE; obtain ⟨go10, co10, eo10, gb10, gl10, cl10, HG10⟩ := Kd.S_form HO_3.out (by omega); (first | cases eo10 | (injection eo10 with ea_ en_ ec_; (first | subst ea_ | (injection ea_ with ea_; subst ea_)); subst ec_; clear en_)); have GB10 := Aside0.mk gb10; have GG10 := Aside0.mk HG10; clear gb10 gl10 HG10; obtain ⟨_, ce10, hcl10, hM10, hcc10, hfr10, _, _⟩ := Kd.S_elem HO_3.out z63 (x4_1 : Int) p10 q10; obtain ⟨ve10_1, ve10_2, rfl, ge10_1, ge10_2⟩ := k63_openM hM10; have hx10_0 : w11.cell? ⟨go10, (x4_1 : Int).toNat * 3, none⟩ = some (.string ((rd_T63 x3_1 x4_1).f0)) := hcc10 0 _ rfl; have hx10_1 : w11.cell? ⟨go10, (x4_1 : Int).toNat * 3 + 1, none⟩ = some (ve10_1) := hcc10 1 _ rfl; have hx10_2 : w11.cell? ⟨go10, (x4_1 : Int).toNat * 3 + 2, none⟩ = some (ve10_2) := hcc10 2 _ rfl; have hf10_0 : w11.frozen? ⟨go10, (x4_1 : Int).toNat * 3, none⟩ = false := hfr10 0; have hf10_1 : w11.frozen? ⟨go10, (x4_1 : Int).toNat * 3 + 1, none⟩ = false := hfr10 1; have hf10_2 : w11.frozen? ⟨go10, (x4_1 : Int).toNat * 3 + 2, none⟩ = false := hfr10 2; (try clear hcl10); (try clear hcc10); (try clear hfr10); (try clear hM10); replace p10 := eq_true p10; replace q10 := eq_true q10; obtain ⟨Ao14, co14, eo14⟩ := Kd.R_slice HO133.out; subst eo14; obtain ⟨Ao15, co15, eo15⟩ := Kd.R_slice HO136.out; subst eo15; have n_ := Aside0.mk (Kd.S_mono (ok' := (fun k_ => some k_ ≠ (.slice Ao14 t131.length co14 : Value).ownBlock ∧ some k_ ≠ (.slice Ao15 t134.length co15 : Value).ownBlock)) HO_3.out (fun k_ hk => ⟨hk.1.2, hk.2⟩)); clear HO_3; have HO_3 := n_; clear n_; have HX12 := Aside0.mk (show Kd.S k63 63 w11 w.heap.size (fun k_ => ((fun _ => True)) k_ ∧ ¬ ((fun k_ => some k_ = (.slice Ao14 t131.length co14 : Value).ownBlock ∨ some k_ = (.slice Ao15 t134.length co15 : Value).ownBlock)) k_) (.slice (some ⟨go10, 0, none⟩) x3_1.length co10) x3_1 from (by (with_reducible repeat (first | apply Kd.S_alloc | apply Kd.S_drewN | apply Kd.S_drew)); exact Kd.S_mono HO_3.out (fun k_ hk => ⟨trivial, fun e_ => e_.elim (fun h_ => hk.1 h_) (fun h_ => hk.2 h_)⟩))); obtain ⟨oki12, ce12, hcl12, hM12, hcc12, hfr12, hoki12, hH12⟩ := Kd.S_elem HX12.out z63 (x4_1 : Int) (of_decide_eq_true hE) (by have h_ : (x4_1 : Int) < ((x3_1.length : Int) : Int) := of_decide_eq_true hE; first | exact h_ | (have e_ := (Kd.S_reads' HO_3.out).1; omega) | simpa using h_); obtain ⟨ve12_1, ve12_2, rfl, ge12_1, ge12_2⟩ := k63_openM hM12; have HP12 := Kd.S_seg hH12 (of_decide_eq_true hE) (by have h_ : (x4_1 : Int) < ((x3_1.length : Int) : Int) := of_decide_eq_true hE; first | exact h_ | (have e_ := (Kd.S_reads' HO_3.out).1; omega) | simpa using h_) (seg := [.string t130, .slice Ao14 t131.length co14, .slice Ao15 t134.length co15]) (j := 0) (show 3 ≤ 3 from by decide) (x' := (⟨t130, t131, t134⟩ : S63)) (k63_mkM _ _ _ (⟨t130, t131, t134⟩ : S63) (Kd.R_mono (Kd.R_tight rfl (Kd.R_mono (ok' := fun k_ => ((fun _ => True)) k_ ∧ k_ ≠ go10) (Kd.R_apart' (HO133.out) (Kd.S_typed HO_3.out) (by decide)) (fun k_ hk => ⟨trivial, fun e_ => (hk.2) (by rw [e_]; rfl)⟩))) (fun _ h_ => Or.inr (Or.inl h_))) (Kd.R_mono (Kd.R_tight rfl (Kd.R_mono (ok' := fun k_ => ((fun _ => True)) k_ ∧ k_ ≠ go10) (Kd.R_apart' (HO136.out) (Kd.S_typed HO_3.out) (by decide)) (fun k_ hk => ⟨trivial, fun e_ => (hk.2) (by rw [e_]; rfl)⟩))) (fun _ h_ => Or.inr (Or.inr (h_))))) (fun _ hk => hk) (fun k_ hk_ => hk_.elim (fun h_ => ((Kd.R_mono (ok' := fun k_ => ((fun _ => True)) k_ ∧ k_ ≠ go10) (Kd.R_apart' (HO133.out) (Kd.S_typed HO_3.out) (by decide)) (fun k_ hk => ⟨trivial, fun e_ => (hk.2) (by rw [e_]; rfl)⟩))).1 k_ h_.symm) (fun h_ => ((Kd.R_mono (ok' := fun k_ => ((fun _ => True)) k_ ∧ k_ ≠ go10) (Kd.R_apart' (HO136.out) (Kd.S_typed HO_3.out) (by decide)) (fun k_ hk => ⟨trivial, fun e_ => (hk.2) (by rw [e_]; rfl)⟩))).1 k_ h_.symm)); have hx12_0 := hcc12 0 _ rfl; (try simp only [show (k63).sz = 3 from rfl, Nat.mul_one, Nat.add_zero] at hx12_0); have hf12_0 := hfr12 0; (try simp only [show (k63).sz = 3 from rfl, Nat.mul_one, Nat.add_zero] at hf12_0); have hx12_1 := hcc12 1 _ rfl; (try simp only [show (k63).sz = 3 from rfl, Nat.mul_one, Nat.add_zero] at hx12_1); have hf12_1 := hfr12 1; (try simp only [show (k63).sz = 3 from rfl, Nat.mul_one, Nat.add_zero] at hf12_1); have hx12_2 := hcc12 2 _ rfl; (try simp only [show (k63).sz = 3 from rfl, Nat.mul_one, Nat.add_zero] at hx12_2); have hf12_2 := hfr12 2; (try simp only [show (k63).sz = 3 from rfl, Nat.mul_one, Nat.add_zero] at hf12_2); (try clear hcl12); (try clear hcc12); (try clear hfr12); (try clear hM12); (try clear hoki12); (try clear hH12)) | ((with_reducible refine gate_store (t := 63) (p := 21) rfl ?_); refine store_event (t := 63) (p := 21) (v := ?vo_w13) (w1 := (((w11.setCell ⟨go10, (x4_1 : Int).toNat * 3, none⟩ (.string t130)).setCell ⟨go10, (x4_1 : Int).toNat * 3 + 1, none⟩ (.slice Ao14 t131.length co14)).setCell ⟨go10, (x4_1 : Int).toNat * 3 + 2, none⟩ (.slice Ao15 t134.length co15))) ?hg ?ho ?hn ?hr ?_; (case ho => rfl); (case hg => rfl); (case hn => rfl); (case hr => exact sE); intro w13 hw; have hg : w11.grownBy w13 (some go10) := (by rw [hw]; exact HP12.2); have hp_ : Kd.S k63 63 w13 w.heap.size (fun _ => True) (.slice (some ⟨go10, 0, none⟩) x3_1.length co10) y137 := (by rw [hw, Ny137.out]; exact HP12.1); clear HP12; replace HO_3 := Aside0.mk hp_; replace HB := Aside0.mk ((by rw [hw]; exact below_set (below_set (below_set (HB.out) GB10.out) GB10.out) GB10.out : Below w.heap.size w w13)); clear HO133 HO136; clear hg hw hp_))
        go_roundg k1
        case measure => have := HK1.out; omega
        case rel => exact ⟨(y137), (wrap64 (x4_1 + 1)), tE, H', ⟨by have := HK1.out; omega⟩, ⟨by (with_reducible repeat (first | apply Kd.S_alloc | apply Kd.S_drewN | apply Kd.S_drew)); exact HO_3.out⟩, ⟨by repeat (first | (with_reducible first | exact HB.out | apply below_alloc | apply pw_below_drewN | apply below_drew1) | exact HB.out)⟩⟩
       ·rw [if_neg c9] at H
        exact absurd H (by simp)
      ·rw [if_neg c7] at H
       exact absurd H (by simp)
     ·rw [if_neg c6] at H
      have c6b0 : decide (x4_1 < (l0.length : Int)) = false := decide_eq_false c6
      clear c6
      obtain rfl := Option.some.inj H
      go_wp2
      go_ret
      exact ⟨_, eE, by (with_reducible repeat (first | apply Kd.S_alloc | apply Kd.S_drewN | apply Kd.S_drew)); exact HO_3.out, lU⟩
  ·rw [if_neg c3] at H
   exact absurd H (by simp)
 ·rw [if_neg c2] at H
  exact absurd H (by simp)
end Go.Proofs.Ytifejplilaefiaa.PFnExactMakeOrder
namespace Go.Proofs.Ytifejplilaefiaa.PFnExactMakeOrder
open Go.RowKit Go.Proofs.YtifejplilaefiaaW.PrintWords Go.Proofs.YtifejplilaefiaaW.PrintLast Go.Proofs.YtifejplilaefiaaW.PrintMore
attribute [local go_sem] max2_int min2_int max_two min_two max_three min_three max_four min_four   -- for this text's walks alone
set_option linter.unusedVariables false
set_option linter.unusedSimpArgs false
def laws_eqStringS.l0 : Nat → List ByteArray → List ByteArray → Int → Option (Bool)
 | 0, _, _, _ => none
 | k + 1, x0, x1, x5 => if x5 < (x0.length : Int) then (if 0 ≤ x5 then (if x5 < (x1.length : Int) then (if (rdOf ByteArray.empty x0 x5).toList = (rdOf ByteArray.empty x1 x5).toList then (laws_eqStringS.l0 k x0 x1 (wrap64 (x5 + 1))) else (some false)) else (none)) else (none)) else (some true)
def laws_eqStringS.f (k : Nat) (l0 : List ByteArray) (l1 : List ByteArray) : Option (Bool) := if (l0.length : Int) = (l1.length : Int) then (laws_eqStringS.l0 k l0 l1 0) else (some false)
theorem laws_eqStringS.mono_l : ∀ k, (∀ y0 y1 y2, LeO (laws_eqStringS.l0 k y0 y1 y2) (laws_eqStringS.l0 (k + 1) y0 y1 y2))
 | 0 => fun _ _ _ r h => by simp [laws_eqStringS.l0] at h
 | k + 1 => by
  have ih0 := laws_eqStringS.mono_l k
  ·intro y0 y1 y2
   unfold laws_eqStringS.l0
   repeat' first
   | (with_reducible exact ih0 _ _ _)
   | (with_reducible exact LeO.refl _)
   | (with_reducible exact LeO.none _)
   | (with_reducible refine LeO.ite ?_ ?_)
   | (with_reducible refine LeO.bind ?_ (fun _ => ?_))
   | exact ih0 _ _ _
   | exact LeO.none _
   | refine LeO.ite ?_ ?_
   | refine LeO.bind ?_ (fun _ => ?_)
theorem laws_eqStringS.mono : ∀ a0 a1 k, LeO (laws_eqStringS.f k a0 a1) (laws_eqStringS.f (k + 1) a0 a1) := by
 intro a0 a1 k
 have ih0 := laws_eqStringS.mono_l k
 unfold laws_eqStringS.f
 repeat' first
   | (with_reducible exact ih0 _ _ _)
   | (with_reducible exact LeO.refl _)
   | (with_reducible exact LeO.none _)
   | (with_reducible refine LeO.ite ?_ ?_)
   | (with_reducible refine LeO.bind ?_ (fun _ => ?_))
   | exact ih0 _ _ _
   | exact LeO.none _
   | refine LeO.ite ?_ ?_
   | refine LeO.bind ?_ (fun _ => ?_)
set_option maxHeartbeats 8000000 in
set_option maxRecDepth 100000 in
theorem laws_eqStringS.calls (k : Nat) (A0 : Option Addr) (c0 : Nat) (l0 : List ByteArray) (A1 : Option Addr) (c1 : Nat) (l1 : List ByteArray) (r : Bool) (w : World) (hr0 : Kd.C Kd.string w A0 l0.length l0) (hc0 : l0.length ≤ c0) (hr1 : Kd.C Kd.string w A1 l1.length l1) (hc1 : l1.length ≤ c1) (h : laws_eqStringS.f k l0 l1 = some r) :
  Calls Try.prog 14 #[.slice A0 l0.length c0, .slice A1 l1.length c1] w fun e w' => e = .returned (.bool r) ∧ Drawn0 w w' := by
 have HR0 := Aside0.mk hr0
 have HC0 := Aside0.mk hc0
 clear hr0 hc0
 have HR1 := Aside0.mk hr1
 have HC1 := Aside0.mk hc1
 clear hr1 hc1
 have H : (if (l0.length : Int) = (l1.length : Int) then (laws_eqStringS.l0 k l0 l1 0) else (some false)) = some r := h
 clear h
 by_cases c3 : (l0.length : Int) = (l1.length : Int)
 ·rw [if_pos c3] at H
  have c3b0 : ((l0.length : Int) == (l1.length : Int)) = true := beq_iff_eq.mpr c3
  have c3b1 : ((l0.length : Int) != (l1.length : Int)) = false := bne_eq_false_iff_eq.mpr c3
  have c3b2 : (l0.length == l1.length) = true := by first | simpa using c3 | (simp at c3 ⊢; omega)
  clear c3
  have H' := Aside0.mk H
  clear H
  go_enter Try.func14, Try.ntmps14
  go_wp2
  repeat (go_quiet (fail); try go_wp2)
  go_loopg [5] k (fun kq v5 w' => ∃ (x5_1 : Int), v5 = .int .i64 x5_1 ∧ Aside0 (laws_eqStringS.l0 kq l0 l1 x5_1 = some r) ∧ Aside0 (kq ≤ k) ∧ Drawn0 w w')
  case atStart => exact ⟨(0), tE, H', ⟨Nat.le_refl _⟩, by repeat (first | exact Drawn0.refl _ | apply Drawn0.step)⟩
  case round =>
   clear H'
   try clear c1
   try clear p2
   try clear c3
   try clear c3b0
   try clear c3b1
   try clear c3b2
   obtain ⟨x5_1, rfl, HA, HK1, ⟨m1, rfl⟩⟩ := hrel
   cases gk with
   | zero => exact absurd HA.out (by simp [laws_eqStringS.l0])
   | succ k1 =>
    have H := HA.out
    clear HA
    simp only [laws_eqStringS.l0] at H
    by_cases c4 : x5_1 < (l0.length : Int)
    ·rw [if_pos c4] at H
     have c4b0 : decide (x5_1 < (l0.length : Int)) = true := decide_eq_true c4
     clear c4
     by_cases c5 : 0 ≤ x5_1
     ·rw [if_pos c5] at H
      have c5b0 : decide (0 ≤ x5_1) = true := decide_eq_true c5
      clear c5
      by_cases c6 : x5_1 < (l1.length : Int)
      ·rw [if_pos c6] at H
       have c6b0 : decide (x5_1 < (l1.length : Int)) = true := decide_eq_true c6
       clear c6
       by_cases c7 : (rdOf ByteArray.empty l0 x5_1).toList = (rdOf ByteArray.empty l1 x5_1).toList
       ·rw [if_pos c7] at H
        have c7b0 : ((rdOf ByteArray.empty l0 x5_1).toList == (rdOf ByteArray.empty l1 x5_1).toList) = true := beq_iff_eq.mpr c7
        have c7b1 : ((rdOf ByteArray.empty l0 x5_1).toList != (rdOf ByteArray.empty l1 x5_1).toList) = false := bne_eq_false_iff_eq.mpr c7
        clear c7
        have H' := Aside0.mk H
        clear H
        have p138 : 0 ≤ (x5_1 : Int) := of_decide_eq_true hE
        have q138 : x5_1 < (l0.length : Int) := of_decide_eq_true hE
        obtain ⟨ad138, e138, hx138_0⟩ := Kd.at_string HR0.out x5_1 p138 q138
        cases e138
        replace p138 := eq_true p138
        replace q138 := eq_true q138
        have p139 : 0 ≤ (x5_1 : Int) := of_decide_eq_true hE
        have q139 : x5_1 < (l1.length : Int) := of_decide_eq_true hE
        obtain ⟨ad139, e139, hx139_0⟩ := Kd.at_string HR1.out x5_1 p139 q139
        cases e139
        replace p139 := eq_true p139
        replace q139 := eq_true q139
        go_wp2
        repeat (go_quiet (fail); try go_wp2)
        go_roundg k1
        case measure => have := HK1.out; omega
        case rel => exact ⟨(wrap64 (x5_1 + 1)), tE, H', ⟨by have := HK1.out; omega⟩, by repeat (first | exact Drawn0.refl _ | apply Drawn0.step)⟩
       ·rw [if_neg c7] at H
        have c7b0 : ((rdOf ByteArray.empty l0 x5_1).toList == (rdOf ByteArray.empty l1 x5_1).toList) = false := beq_eq_false_iff_ne.mpr c7
        have c7b1 : ((rdOf ByteArray.empty l0 x5_1).toList != (rdOf ByteArray.empty l1 x5_1).toList) = true := bne_iff_ne.mpr c7
        obtain rfl := Option.some.inj H
        have p138 : 0 ≤ (x5_1 : Int) := of_decide_eq_true hE
        have q138 : x5_1 < (l0.length : Int) := of_decide_eq_true hE
        obtain ⟨ad138, e138, hx138_0⟩ := Kd.at_string HR0.out x5_1 p138 q138
        cases e138
        replace p138 := eq_true p138
        replace q138 := eq_true q138
        have p139 : 0 ≤ (x5_1 : Int) := of_decide_eq_true hE
        have q139 : x5_1 < (l1.length : Int) := of_decide_eq_true hE
        obtain ⟨ad139, e139, hx139_0⟩ := Kd.at_string HR1.out x5_1 p139 q139
        cases e139
        replace p139 := eq_true p139
        replace q139 := eq_true q139
        go_wp2
        repeat (go_quiet (fail); try go_wp2)
        go_ret
        exact ⟨by first | rfl | (simp; done) | (simp [*]; done) | exact not_isEmpty _ | exact (not_isEmpty _).symm | exact is_empty _ | exact (is_empty _).symm, by repeat (first | exact Drawn0.refl _ | apply Drawn0.step)⟩
      ·rw [if_neg c6] at H
       exact absurd H (by simp)
     ·rw [if_neg c5] at H
      exact absurd H (by simp)
    ·rw [if_neg c4] at H
     have c4b0 : decide (x5_1 < (l0.length : Int)) = false := decide_eq_false c4
     clear c4
     obtain rfl := Option.some.inj H
     go_wp2
     repeat (go_quiet (fail); try go_wp2)
     go_ret
     exact ⟨by first | rfl | (simp; done) | (simp [*]; done) | exact not_isEmpty _ | exact (not_isEmpty _).symm | exact is_empty _ | exact (is_empty _).symm, by repeat (first | exact Drawn0.refl _ | apply Drawn0.step)⟩
 ·rw [if_neg c3] at H
  have c3b0 : ((l0.length : Int) == (l1.length : Int)) = false := beq_eq_false_iff_ne.mpr c3
  have c3b1 : ((l0.length : Int) != (l1.length : Int)) = true := bne_iff_ne.mpr c3
  have c3b2 : (l0.length == l1.length) = false := by first | simpa using c3 | (simp at c3 ⊢; omega)
  obtain rfl := Option.some.inj H
  go_enter Try.func14, Try.ntmps14
  go_wp2
  repeat (go_quiet (fail); try go_wp2)
  go_ret
  exact ⟨by first | rfl | (simp; done) | (simp [*]; done) | exact not_isEmpty _ | exact (not_isEmpty _).symm | exact is_empty _ | exact (is_empty _).symm, by repeat (first | exact Drawn0.refl _ | apply Drawn0.step)⟩
def laws_eqByteS.l0 : Nat → List Int → List Int → Int → Option (Bool)
 | 0, _, _, _ => none
 | k + 1, x0, x1, x5 => if x5 < (x0.length : Int) then (if 0 ≤ x5 then (if x5 < (x1.length : Int) then (if (rd x0 x5) = (rd x1 x5) then (laws_eqByteS.l0 k x0 x1 (wrap64 (x5 + 1))) else (some false)) else (none)) else (none)) else (some true)
def laws_eqByteS.f (k : Nat) (l0 : List Int) (l1 : List Int) : Option (Bool) := if (l0.length : Int) = (l1.length : Int) then (laws_eqByteS.l0 k l0 l1 0) else (some false)
theorem laws_eqByteS.mono_l : ∀ k, (∀ y0 y1 y2, LeO (laws_eqByteS.l0 k y0 y1 y2) (laws_eqByteS.l0 (k + 1) y0 y1 y2))
 | 0 => fun _ _ _ r h => by simp [laws_eqByteS.l0] at h
 | k + 1 => by
  have ih0 := laws_eqByteS.mono_l k
  ·intro y0 y1 y2
   unfold laws_eqByteS.l0
   repeat' first
   | (with_reducible exact ih0 _ _ _)
   | (with_reducible exact LeO.refl _)
   | (with_reducible exact LeO.none _)
   | (with_reducible refine LeO.ite ?_ ?_)
   | (with_reducible refine LeO.bind ?_ (fun _ => ?_))
   | exact ih0 _ _ _
   | exact LeO.none _
   | refine LeO.ite ?_ ?_
   | refine LeO.bind ?_ (fun _ => ?_)
theorem laws_eqByteS.mono : ∀ a0 a1 k, LeO (laws_eqByteS.f k a0 a1) (laws_eqByteS.f (k + 1) a0 a1) := by
 intro a0 a1 k
 have ih0 := laws_eqByteS.mono_l k
 unfold laws_eqByteS.f
 repeat' first
   | (with_reducible exact ih0 _ _ _)
   | (with_reducible exact LeO.refl _)
   | (with_reducible exact LeO.none _)
   | (with_reducible refine LeO.ite ?_ ?_)
   | (with_reducible refine LeO.bind ?_ (fun _ => ?_))
   | exact ih0 _ _ _
   | exact LeO.none _
   | refine LeO.ite ?_ ?_
   | refine LeO.bind ?_ (fun _ => ?_)
set_option maxHeartbeats 8000000 in
set_option maxRecDepth 100000 in
theorem laws_eqByteS.calls (k : Nat) (A0 : Option Addr) (c0 : Nat) (l0 : List Int) (A1 : Option Addr) (c1 : Nat) (l1 : List Int) (r : Bool) (w : World) (hr0 : Kd.C (Kd.int .u8) w A0 l0.length l0) (hc0 : l0.length ≤ c0) (hr1 : Kd.C (Kd.int .u8) w A1 l1.length l1) (hc1 : l1.length ≤ c1) (h : laws_eqByteS.f k l0 l1 = some r) :
  Calls Try.prog 81 #[.slice A0 l0.length c0, .slice A1 l1.length c1] w fun e w' => e = .returned (.bool r) ∧ Drawn0 w w' := by
 have HR0 := Aside0.mk hr0
 have HC0 := Aside0.mk hc0
 clear hr0 hc0
 have HR1 := Aside0.mk hr1
 have HC1 := Aside0.mk hc1
 clear hr1 hc1
 have H : (if (l0.length : Int) = (l1.length : Int) then (laws_eqByteS.l0 k l0 l1 0) else (some false)) = some r := h
 clear h
 by_cases c3 : (l0.length : Int) = (l1.length : Int)
 ·rw [if_pos c3] at H
  have c3b0 : ((l0.length : Int) == (l1.length : Int)) = true := beq_iff_eq.mpr c3
  have c3b1 : ((l0.length : Int) != (l1.length : Int)) = false := bne_eq_false_iff_eq.mpr c3
  have c3b2 : (l0.length == l1.length) = true := by first | simpa using c3 | (simp at c3 ⊢; omega)
  clear c3
  have H' := Aside0.mk H
  clear H
  go_enter Try.func81, Try.ntmps81
  go_wp2
  repeat (go_quiet (fail); try go_wp2)
  go_loopg [5] k (fun kq v5 w' => ∃ (x5_1 : Int), v5 = .int .i64 x5_1 ∧ Aside0 (laws_eqByteS.l0 kq l0 l1 x5_1 = some r) ∧ Aside0 (kq ≤ k) ∧ Drawn0 w w')
  case atStart => exact ⟨(0), tE, H', ⟨Nat.le_refl _⟩, by repeat (first | exact Drawn0.refl _ | apply Drawn0.step)⟩
  case round =>
   clear H'
   try clear c1
   try clear p2
   try clear c3
   try clear c3b0
   try clear c3b1
   try clear c3b2
   obtain ⟨x5_1, rfl, HA, HK1, ⟨m1, rfl⟩⟩ := hrel
   cases gk with
   | zero => exact absurd HA.out (by simp [laws_eqByteS.l0])
   | succ k1 =>
    have H := HA.out
    clear HA
    simp only [laws_eqByteS.l0] at H
    by_cases c4 : x5_1 < (l0.length : Int)
    ·rw [if_pos c4] at H
     have c4b0 : decide (x5_1 < (l0.length : Int)) = true := decide_eq_true c4
     clear c4
     by_cases c5 : 0 ≤ x5_1
     ·rw [if_pos c5] at H
      have c5b0 : decide (0 ≤ x5_1) = true := decide_eq_true c5
      clear c5
      by_cases c6 : x5_1 < (l1.length : Int)
      ·rw [if_pos c6] at H
       have c6b0 : decide (x5_1 < (l1.length : Int)) = true := decide_eq_true c6
       clear c6
       by_cases c7 : (rd l0 x5_1) = (rd l1 x5_1)
       ·rw [if_pos c7] at H
        have c7b0 : ((rd l0 x5_1) == (rd l1 x5_1)) = true := beq_iff_eq.mpr c7
        have c7b1 : ((rd l0 x5_1) != (rd l1 x5_1)) = false := bne_eq_false_iff_eq.mpr c7
        clear c7
        have H' := Aside0.mk H
        clear H
        have p140 : 0 ≤ (x5_1 : Int) := of_decide_eq_true hE
        have q140 : x5_1 < (l0.length : Int) := of_decide_eq_true hE
        obtain ⟨ad140, e140, hx140_0⟩ := Kd.at_int HR0.out x5_1 p140 q140
        cases e140
        replace p140 := eq_true p140
        replace q140 := eq_true q140
        have p141 : 0 ≤ (x5_1 : Int) := of_decide_eq_true hE
        have q141 : x5_1 < (l1.length : Int) := of_decide_eq_true hE
        obtain ⟨ad141, e141, hx141_0⟩ := Kd.at_int HR1.out x5_1 p141 q141
        cases e141
        replace p141 := eq_true p141
        replace q141 := eq_true q141
        go_wp2
        repeat (go_quiet (fail); try go_wp2)
        go_roundg k1
        case measure => have := HK1.out; omega
        case rel => exact ⟨(wrap64 (x5_1 + 1)), tE, H', ⟨by have := HK1.out; omega⟩, by repeat (first | exact Drawn0.refl _ | apply Drawn0.step)⟩
       ·rw [if_neg c7] at H
        have c7b0 : ((rd l0 x5_1) == (rd l1 x5_1)) = false := beq_eq_false_iff_ne.mpr c7
        have c7b1 : ((rd l0 x5_1) != (rd l1 x5_1)) = true := bne_iff_ne.mpr c7
        obtain rfl := Option.some.inj H
        have p140 : 0 ≤ (x5_1 : Int) := of_decide_eq_true hE
        have q140 : x5_1 < (l0.length : Int) := of_decide_eq_true hE
        obtain ⟨ad140, e140, hx140_0⟩ := Kd.at_int HR0.out x5_1 p140 q140
        cases e140
        replace p140 := eq_true p140
        replace q140 := eq_true q140
        have p141 : 0 ≤ (x5_1 : Int) := of_decide_eq_true hE
        have q141 : x5_1 < (l1.length : Int) := of_decide_eq_true hE
        obtain ⟨ad141, e141, hx141_0⟩ := Kd.at_int HR1.out x5_1 p141 q141
        cases e141
        replace p141 := eq_true p141
        replace q141 := eq_true q141
        go_wp2
        repeat (go_quiet (fail); try go_wp2)
        go_ret
        exact ⟨by first | rfl | (simp; done) | (simp [*]; done) | exact not_isEmpty _ | exact (not_isEmpty _).symm | exact is_empty _ | exact (is_empty _).symm, by repeat (first | exact Drawn0.refl _ | apply Drawn0.step)⟩
      ·rw [if_neg c6] at H
       exact absurd H (by simp)
     ·rw [if_neg c5] at H
      exact absurd H (by simp)
    ·rw [if_neg c4] at H
     have c4b0 : decide (x5_1 < (l0.length : Int)) = false := decide_eq_false c4
     clear c4
     obtain rfl := Option.some.inj H
     go_wp2
     repeat (go_quiet (fail); try go_wp2)
     go_ret
     exact ⟨by first | rfl | (simp; done) | (simp [*]; done) | exact not_isEmpty _ | exact (not_isEmpty _).symm | exact is_empty _ | exact (is_empty _).symm, by repeat (first | exact Drawn0.refl _ | apply Drawn0.step)⟩
 ·rw [if_neg c3] at H
  have c3b0 : ((l0.length : Int) == (l1.length : Int)) = false := beq_eq_false_iff_ne.mpr c3
  have c3b1 : ((l0.length : Int) != (l1.length : Int)) = true := bne_iff_ne.mpr c3
  have c3b2 : (l0.length == l1.length) = false := by first | simpa using c3 | (simp at c3 ⊢; omega)
  obtain rfl := Option.some.inj H
  go_enter Try.func81, Try.ntmps81
  go_wp2
  repeat (go_quiet (fail); try go_wp2)
  go_ret
  exact ⟨by first | rfl | (simp; done) | (simp [*]; done) | exact not_isEmpty _ | exact (not_isEmpty _).symm | exact is_empty _ | exact (is_empty _).symm, by repeat (first | exact Drawn0.refl _ | apply Drawn0.step)⟩
def laws_eqAsset.f (k : Nat) (a0_0 : ByteArray) (l0_1 : List ByteArray) (l0_2 : List Int) (a1_0 : ByteArray) (l1_1 : List ByteArray) (l1_2 : List Int) : Option (Bool) := if a0_0.toList = a1_0.toList then ((laws_eqStringS.f k l0_1 l1_1).bind fun t144 => (if t144 = true then ((laws_eqByteS.f k l0_2 l1_2).bind fun t145 => (if t145 = true then (some true) else (some false))) else (some false))) else (some false)
theorem laws_eqAsset.mono : ∀ a0 a1 a2 a3 a4 a5 k, LeO (laws_eqAsset.f k a0 a1 a2 a3 a4 a5) (laws_eqAsset.f (k + 1) a0 a1 a2 a3 a4 a5) := by
 intro a0 a1 a2 a3 a4 a5 k
 unfold laws_eqAsset.f
 repeat' first
   | (with_reducible exact laws_eqByteS.mono _ _ _)
   | (with_reducible exact laws_eqStringS.mono _ _ _)
   | (with_reducible exact LeO.refl _)
   | (with_reducible exact LeO.none _)
   | (with_reducible refine LeO.ite ?_ ?_)
   | (with_reducible refine LeO.bind ?_ (fun _ => ?_))
   | exact laws_eqByteS.mono _ _ _
   | exact laws_eqStringS.mono _ _ _
   | exact LeO.none _
   | refine LeO.ite ?_ ?_
   | refine LeO.bind ?_ (fun _ => ?_)
set_option maxHeartbeats 8000000 in
set_option maxRecDepth 100000 in
theorem laws_eqAsset.calls (k : Nat) (a0_0 : ByteArray) (A0_1 : Option Addr) (c0_1 : Nat) (l0_1 : List ByteArray) (A0_2 : Option Addr) (c0_2 : Nat) (l0_2 : List Int) (a1_0 : ByteArray) (A1_1 : Option Addr) (c1_1 : Nat) (l1_1 : List ByteArray) (A1_2 : Option Addr) (c1_2 : Nat) (l1_2 : List Int) (r : Bool) (w : World) (hr0_1 : Kd.C Kd.string w A0_1 l0_1.length l0_1) (hc0_1 : l0_1.length ≤ c0_1) (hr0_2 : Kd.C (Kd.int .u8) w A0_2 l0_2.length l0_2) (hc0_2 : l0_2.length ≤ c0_2) (hr1_1 : Kd.C Kd.string w A1_1 l1_1.length l1_1) (hc1_1 : l1_1.length ≤ c1_1) (hr1_2 : Kd.C (Kd.int .u8) w A1_2 l1_2.length l1_2) (hc1_2 : l1_2.length ≤ c1_2) (h : laws_eqAsset.f k a0_0 l0_1 l0_2 a1_0 l1_1 l1_2 = some r) :
  Calls Try.prog 40 #[.agg #[.string a0_0, .slice A0_1 l0_1.length c0_1, .slice A0_2 l0_2.length c0_2], .agg #[.string a1_0, .slice A1_1 l1_1.length c1_1, .slice A1_2 l1_2.length c1_2]] w fun e w' => e = .returned (.bool r) ∧ Below w.heap.size w w' := by
 have hu63 := Try.underlying63
 have HR0_1 := Aside0.mk hr0_1
 have HC0_1 := Aside0.mk hc0_1
 clear hr0_1 hc0_1
 have HR0_2 := Aside0.mk hr0_2
 have HC0_2 := Aside0.mk hc0_2
 clear hr0_2 hc0_2
 have HR1_1 := Aside0.mk hr1_1
 have HC1_1 := Aside0.mk hc1_1
 clear hr1_1 hc1_1
 have HR1_2 := Aside0.mk hr1_2
 have HC1_2 := Aside0.mk hc1_2
 clear hr1_2 hc1_2
 have HB := Aside0.mk (Below.refl w.heap.size w)
 have H : (if a0_0.toList = a1_0.toList then ((laws_eqStringS.f k l0_1 l1_1).bind fun t144 => (if t144 = true then ((laws_eqByteS.f k l0_2 l1_2).bind fun t145 => (if t145 = true then (some true) else (some false))) else (some false))) else (some false)) = some r := h
 clear h
 by_cases c3 : a0_0.toList = a1_0.toList
 ·rw [if_pos c3] at H
  have c3b0 : (a0_0.toList == a1_0.toList) = true := beq_iff_eq.mpr c3
  have c3b1 : (a0_0.toList != a1_0.toList) = false := bne_eq_false_iff_eq.mpr c3
  clear c3
  replace H := Option.bind_eq_some_iff.mp H
  obtain ⟨t144, A40, H⟩ := H
  replace H : (if t144 = true then ((laws_eqByteS.f k l0_2 l1_2).bind fun t145 => (if t145 = true then (some true) else (some false))) else (some false)) = some r := H
  have A4 := Aside0.mk A40
  clear A40
  by_cases c5 : t144 = true
  ·subst c5
   have H1 : ((laws_eqByteS.f k l0_2 l1_2).bind fun t145 => (if t145 = true then (some true) else (some false))) = some r := by rw [if_pos rfl] at H; exact H
   clear H
   have H := H1
   clear H1
   replace H := Option.bind_eq_some_iff.mp H
   obtain ⟨t145, A60, H⟩ := H
   replace H : (if t145 = true then (some true) else (some false)) = some r := H
   have A6 := Aside0.mk A60
   clear A60
   by_cases c7 : t145 = true
   ·subst c7
    have H1 : (some true) = some r := by rw [if_pos rfl] at H; exact H
    clear H
    have H := H1
    clear H1
    obtain rfl := Option.some.inj H
    go_enter Try.func40, Try.ntmps40
    go_wp2_with (first | ((with_reducible refine gate_dst (N := 2) rfl ?_); refine box_event rfl (N := 2) rfl (cs := #[.string a0_0, .slice A0_1 l0_1.length c0_1, .slice A0_2 l0_2.length c0_2]) (t := 63) sE ?_; intro gb142 hg w8 hbox hb; have BK142 := Aside0.mk hbox; have GW142 := gS w hg (lU); have GE142 := gS w hg (lU); replace HB := bH (lU) hb; clear hb hbox hg) | ((with_reducible refine gate_dst (N := 3) rfl ?_); refine box_event rfl (N := 3) rfl (cs := #[.string a1_0, .slice A1_1 l1_1.length c1_1, .slice A1_2 l1_2.length c1_2]) (t := 63) sE ?_; intro gb143 hg w9 hbox hb; have BK143 := Aside0.mk hbox; have GW143 := gS w hg (lV1 GE142); have GE143 := gS w hg (lV1 GE142); replace HB := bH (lV1 GE142) hb; have NB142_143 := nL hg (bV BK142); have NB143_142 := nG hg (bV BK142); replace BK142 := bB (bV BK142) hb; clear hb hbox hg; have hnb10 := NB142_143.out; have hnc10 := NB143_142.out; have hcz11_0 := cz BK142 0 (.string a0_0); have hcz11_1 := cz BK142 1 (.slice A0_1 l0_1.length c0_1); have hcz11_2 := cz BK142 2 (.slice A0_2 l0_2.length c0_2); have hfz11_0 := fz BK142 0; have hfz11_1 := fz BK142 1; have hfz11_2 := fz BK142 2; have hcz12_0 := cz BK143 0 (.string a1_0); have hcz12_1 := cz BK143 1 (.slice A1_1 l1_1.length c1_1); have hcz12_2 := cz BK143 2 (.slice A1_2 l1_2.length c1_2); have hfz12_0 := fz BK143 0; have hfz12_1 := fz BK143 1; have hfz12_2 := fz BK143 2) | ((with_reducible refine gate_callee (f := 14) rfl ?_); refine goesL_ (some 14) rfl rfl Try.func14 (by kernel_rfl) rfl #[.slice A0_1 l0_1.length c0_1, .slice A1_1 l1_1.length c1_1] rfl aE ?_; (with_reducible refine (laws_eqStringS.calls k _ _ l0_1 _ _ l1_1 true _ ?side1 ?side2 ?side3 ?side4 A4.out).mono ?_); (case side1 => exact cU (Kd.C_below HR0_1.out HB.out)); (case side2 => exact HC0_1.out); (case side3 => exact cU (Kd.C_below HR1_1.out HB.out)); (case side4 => exact HC1_1.out); rintro e w' ⟨rfl, ⟨nd, rfl⟩⟩; refine ⟨_, rfl, ?_⟩) | ((with_reducible refine gate_callee (f := 81) rfl ?_); refine goesL_ (some 20) rfl rfl Try.func81 (by kernel_rfl) rfl #[.slice A0_2 l0_2.length c0_2, .slice A1_2 l1_2.length c1_2] rfl aE ?_; (with_reducible refine (laws_eqByteS.calls k _ _ l0_2 _ _ l1_2 true _ ?side1 ?side2 ?side3 ?side4 A6.out).mono ?_); (case side1 => exact cU (Kd.C_below HR0_2.out (lV2 GE142 GE143))); (case side2 => exact HC0_2.out); (case side3 => exact cU (Kd.C_below HR1_2.out (lV2 GE142 GE143))); (case side4 => exact HC1_2.out); rintro e w' ⟨rfl, ⟨nd, rfl⟩⟩; refine ⟨_, rfl, ?_⟩))
    go_ret
    exact ⟨eE, lV2 GE142 GE143⟩
   ·replace c7 := Bool.eq_false_iff.mpr c7
    subst c7
    have H1 : (some false) = some r := by rw [if_neg (show ¬ (false = true) by decide)] at H; exact H
    clear H
    have H := H1
    clear H1
    obtain rfl := Option.some.inj H
    go_enter Try.func40, Try.ntmps40
    go_wp2_with (first | ((with_reducible refine gate_dst (N := 2) rfl ?_); refine box_event rfl (N := 2) rfl (cs := #[.string a0_0, .slice A0_1 l0_1.length c0_1, .slice A0_2 l0_2.length c0_2]) (t := 63) sE ?_; intro gb142 hg w13 hbox hb; have BK142 := Aside0.mk hbox; have GW142 := gS w hg (lU); have GE142 := gS w hg (lU); replace HB := bH (lU) hb; clear hb hbox hg) | ((with_reducible refine gate_dst (N := 3) rfl ?_); refine box_event rfl (N := 3) rfl (cs := #[.string a1_0, .slice A1_1 l1_1.length c1_1, .slice A1_2 l1_2.length c1_2]) (t := 63) sE ?_; intro gb143 hg w14 hbox hb; have BK143 := Aside0.mk hbox; have GW143 := gS w hg (lV1 GE142); have GE143 := gS w hg (lV1 GE142); replace HB := bH (lV1 GE142) hb; have NB142_143 := nL hg (bV BK142); have NB143_142 := nG hg (bV BK142); replace BK142 := bB (bV BK142) hb; clear hb hbox hg; have hnb15 := NB142_143.out; have hnc15 := NB143_142.out; have hcz16_0 := cz BK142 0 (.string a0_0); have hcz16_1 := cz BK142 1 (.slice A0_1 l0_1.length c0_1); have hcz16_2 := cz BK142 2 (.slice A0_2 l0_2.length c0_2); have hfz16_0 := fz BK142 0; have hfz16_1 := fz BK142 1; have hfz16_2 := fz BK142 2; have hcz17_0 := cz BK143 0 (.string a1_0); have hcz17_1 := cz BK143 1 (.slice A1_1 l1_1.length c1_1); have hcz17_2 := cz BK143 2 (.slice A1_2 l1_2.length c1_2); have hfz17_0 := fz BK143 0; have hfz17_1 := fz BK143 1; have hfz17_2 := fz BK143 2) | ((with_reducible refine gate_callee (f := 14) rfl ?_); refine goesL_ (some 14) rfl rfl Try.func14 (by kernel_rfl) rfl #[.slice A0_1 l0_1.length c0_1, .slice A1_1 l1_1.length c1_1] rfl aE ?_; (with_reducible refine (laws_eqStringS.calls k _ _ l0_1 _ _ l1_1 true _ ?side1 ?side2 ?side3 ?side4 A4.out).mono ?_); (case side1 => exact cU (Kd.C_below HR0_1.out HB.out)); (case side2 => exact HC0_1.out); (case side3 => exact cU (Kd.C_below HR1_1.out HB.out)); (case side4 => exact HC1_1.out); rintro e w' ⟨rfl, ⟨nd, rfl⟩⟩; refine ⟨_, rfl, ?_⟩) | ((with_reducible refine gate_callee (f := 81) rfl ?_); refine goesL_ (some 20) rfl rfl Try.func81 (by kernel_rfl) rfl #[.slice A0_2 l0_2.length c0_2, .slice A1_2 l1_2.length c1_2] rfl aE ?_; (with_reducible refine (laws_eqByteS.calls k _ _ l0_2 _ _ l1_2 false _ ?side1 ?side2 ?side3 ?side4 A6.out).mono ?_); (case side1 => exact cU (Kd.C_below HR0_2.out (lV2 GE142 GE143))); (case side2 => exact HC0_2.out); (case side3 => exact cU (Kd.C_below HR1_2.out (lV2 GE142 GE143))); (case side4 => exact HC1_2.out); rintro e w' ⟨rfl, ⟨nd, rfl⟩⟩; refine ⟨_, rfl, ?_⟩))
    go_ret
    exact ⟨eE, lV2 GE142 GE143⟩
  ·replace c5 := Bool.eq_false_iff.mpr c5
   subst c5
   have H1 : (some false) = some r := by rw [if_neg (show ¬ (false = true) by decide)] at H; exact H
   clear H
   have H := H1
   clear H1
   obtain rfl := Option.some.inj H
   go_enter Try.func40, Try.ntmps40
   go_wp2_with (first | ((with_reducible refine gate_dst (N := 2) rfl ?_); refine box_event rfl (N := 2) rfl (cs := #[.string a0_0, .slice A0_1 l0_1.length c0_1, .slice A0_2 l0_2.length c0_2]) (t := 63) sE ?_; intro gb142 hg w18 hbox hb; have BK142 := Aside0.mk hbox; have GW142 := gS w hg (lU); have GE142 := gS w hg (lU); replace HB := bH (lU) hb; clear hb hbox hg) | ((with_reducible refine gate_dst (N := 3) rfl ?_); refine box_event rfl (N := 3) rfl (cs := #[.string a1_0, .slice A1_1 l1_1.length c1_1, .slice A1_2 l1_2.length c1_2]) (t := 63) sE ?_; intro gb143 hg w19 hbox hb; have BK143 := Aside0.mk hbox; have GW143 := gS w hg (lV1 GE142); have GE143 := gS w hg (lV1 GE142); replace HB := bH (lV1 GE142) hb; have NB142_143 := nL hg (bV BK142); have NB143_142 := nG hg (bV BK142); replace BK142 := bB (bV BK142) hb; clear hb hbox hg; have hnb20 := NB142_143.out; have hnc20 := NB143_142.out; have hcz21_0 := cz BK142 0 (.string a0_0); have hcz21_1 := cz BK142 1 (.slice A0_1 l0_1.length c0_1); have hcz21_2 := cz BK142 2 (.slice A0_2 l0_2.length c0_2); have hfz21_0 := fz BK142 0; have hfz21_1 := fz BK142 1; have hfz21_2 := fz BK142 2; have hcz22_0 := cz BK143 0 (.string a1_0); have hcz22_1 := cz BK143 1 (.slice A1_1 l1_1.length c1_1); have hcz22_2 := cz BK143 2 (.slice A1_2 l1_2.length c1_2); have hfz22_0 := fz BK143 0; have hfz22_1 := fz BK143 1; have hfz22_2 := fz BK143 2) | ((with_reducible refine gate_callee (f := 14) rfl ?_); refine goesL_ (some 14) rfl rfl Try.func14 (by kernel_rfl) rfl #[.slice A0_1 l0_1.length c0_1, .slice A1_1 l1_1.length c1_1] rfl aE ?_; (with_reducible refine (laws_eqStringS.calls k _ _ l0_1 _ _ l1_1 false _ ?side1 ?side2 ?side3 ?side4 A4.out).mono ?_); (case side1 => exact cU (Kd.C_below HR0_1.out HB.out)); (case side2 => exact HC0_1.out); (case side3 => exact cU (Kd.C_below HR1_1.out HB.out)); (case side4 => exact HC1_1.out); rintro e w' ⟨rfl, ⟨nd, rfl⟩⟩; refine ⟨_, rfl, ?_⟩))
   go_ret
   exact ⟨eE, lV2 GE142 GE143⟩
 ·rw [if_neg c3] at H
  have c3b0 : (a0_0.toList == a1_0.toList) = false := beq_eq_false_iff_ne.mpr c3
  have c3b1 : (a0_0.toList != a1_0.toList) = true := bne_iff_ne.mpr c3
  obtain rfl := Option.some.inj H
  go_enter Try.func40, Try.ntmps40
  go_wp2_with (first | ((with_reducible refine gate_dst (N := 2) rfl ?_); refine box_event rfl (N := 2) rfl (cs := #[.string a0_0, .slice A0_1 l0_1.length c0_1, .slice A0_2 l0_2.length c0_2]) (t := 63) sE ?_; intro gb142 hg w23 hbox hb; have BK142 := Aside0.mk hbox; have GW142 := gS w hg (lU); have GE142 := gS w hg (lU); replace HB := bH (lU) hb; clear hb hbox hg) | ((with_reducible refine gate_dst (N := 3) rfl ?_); refine box_event rfl (N := 3) rfl (cs := #[.string a1_0, .slice A1_1 l1_1.length c1_1, .slice A1_2 l1_2.length c1_2]) (t := 63) sE ?_; intro gb143 hg w24 hbox hb; have BK143 := Aside0.mk hbox; have GW143 := gS w hg (lV1 GE142); have GE143 := gS w hg (lV1 GE142); replace HB := bH (lV1 GE142) hb; have NB142_143 := nL hg (bV BK142); have NB143_142 := nG hg (bV BK142); replace BK142 := bB (bV BK142) hb; clear hb hbox hg; have hnb25 := NB142_143.out; have hnc25 := NB143_142.out; have hcz26_0 := cz BK142 0 (.string a0_0); have hcz26_1 := cz BK142 1 (.slice A0_1 l0_1.length c0_1); have hcz26_2 := cz BK142 2 (.slice A0_2 l0_2.length c0_2); have hfz26_0 := fz BK142 0; have hfz26_1 := fz BK142 1; have hfz26_2 := fz BK142 2; have hcz27_0 := cz BK143 0 (.string a1_0); have hcz27_1 := cz BK143 1 (.slice A1_1 l1_1.length c1_1); have hcz27_2 := cz BK143 2 (.slice A1_2 l1_2.length c1_2); have hfz27_0 := fz BK143 0; have hfz27_1 := fz BK143 1; have hfz27_2 := fz BK143 2))
  go_ret
  exact ⟨eE, lV2 GE142 GE143⟩
def laws_eqAssetS.l0 : Nat → List (S63) → List (S63) → Int → Option (Bool)
 | 0, _, _, _ => none
 | k + 1, x0, x1, x5 => if x5 < (x0.length : Int) then (if 0 ≤ x5 then (if x5 < (x1.length : Int) then ((laws_eqAsset.f k ((rd_T63 x0 x5).f0) ((rd_T63 x0 x5).f1) ((rd_T63 x0 x5).f2) ((rd_T63 x1 x5).f0) ((rd_T63 x1 x5).f1) ((rd_T63 x1 x5).f2)).bind fun t148 => (if t148 = true then (laws_eqAssetS.l0 k x0 x1 (wrap64 (x5 + 1))) else (some false))) else (none)) else (none)) else (some true)
def laws_eqAssetS.f (k : Nat) (l0 : List (S63)) (l1 : List (S63)) : Option (Bool) := if (l0.length : Int) = (l1.length : Int) then (laws_eqAssetS.l0 k l0 l1 0) else (some false)
theorem laws_eqAssetS.mono_l : ∀ k, (∀ y0 y1 y2, LeO (laws_eqAssetS.l0 k y0 y1 y2) (laws_eqAssetS.l0 (k + 1) y0 y1 y2))
 | 0 => fun _ _ _ r h => by simp [laws_eqAssetS.l0] at h
 | k + 1 => by
  have ih0 := laws_eqAssetS.mono_l k
  ·intro y0 y1 y2
   unfold laws_eqAssetS.l0
   repeat' first
   | (with_reducible exact ih0 _ _ _)
   | (with_reducible exact laws_eqAsset.mono _ _ _ _ _ _ _)
   | (with_reducible exact LeO.refl _)
   | (with_reducible exact LeO.none _)
   | (with_reducible refine LeO.ite ?_ ?_)
   | (with_reducible refine LeO.bind ?_ (fun _ => ?_))
   | exact ih0 _ _ _
   | exact laws_eqAsset.mono _ _ _ _ _ _ _
   | exact LeO.none _
   | refine LeO.ite ?_ ?_
   | refine LeO.bind ?_ (fun _ => ?_)
theorem laws_eqAssetS.mono : ∀ a0 a1 k, LeO (laws_eqAssetS.f k a0 a1) (laws_eqAssetS.f (k + 1) a0 a1) := by
 intro a0 a1 k
 have ih0 := laws_eqAssetS.mono_l k
 unfold laws_eqAssetS.f
 repeat' first
   | (with_reducible exact ih0 _ _ _)
   | (with_reducible exact laws_eqAsset.mono _ _ _ _ _ _ _)
   | (with_reducible exact LeO.refl _)
   | (with_reducible exact LeO.none _)
   | (with_reducible refine LeO.ite ?_ ?_)
   | (with_reducible refine LeO.bind ?_ (fun _ => ?_))
   | exact ih0 _ _ _
   | exact laws_eqAsset.mono _ _ _ _ _ _ _
   | exact LeO.none _
   | refine LeO.ite ?_ ?_
   | refine LeO.bind ?_ (fun _ => ?_)
def laws_eqAssetS.T6 : Bool × List (List Nat × List Nat) := (true, [([], []), ([], []), ([0, 1], [0, 1]), ([2], [2]), ([], []), ([], []), ([4, 5], [4, 5]), ([6], [6]), ([3, 7], [3, 7]), ([8], [8])])
def laws_eqAssetS.B6 : List Nat := [0, 0, 3, 7, 0, 0, 48, 112, 255, 511]
theorem laws_eqAssetS.tab6 : rtab .any (opsOf Try.f11 6) = laws_eqAssetS.T6 := by kernel_rfl
theorem laws_eqAssetS.bits6 : waitsOk laws_eqAssetS.T6.2 laws_eqAssetS.B6 = true := by kernel_rfl
set_option maxHeartbeats 8000000 in
set_option maxRecDepth 100000 in
theorem laws_eqAssetS.calls (k : Nat) (A0 : Option Addr) (c0 : Nat) (l0 : List (S63)) (A1 : Option Addr) (c1 : Nat) (l1 : List (S63)) (r : Bool) (w : World) (hr0 : Kd.C k63 w A0 l0.length l0) (hc0 : l0.length ≤ c0) (hr1 : Kd.C k63 w A1 l1.length l1) (hc1 : l1.length ≤ c1) (h : laws_eqAssetS.f k l0 l1 = some r) :
  Calls Try.prog 11 #[.slice A0 l0.length c0, .slice A1 l1.length c1] w fun e w' => e = .returned (.bool r) ∧ Below w.heap.size w w' := by
 have hu63 := Try.underlying63
 have HR0 := Aside0.mk hr0
 have HC0 := Aside0.mk hc0
 clear hr0 hc0
 have HR1 := Aside0.mk hr1
 have HC1 := Aside0.mk hc1
 clear hr1 hc1
 have HB := Aside0.mk (Below.refl w.heap.size w)
 have H : (if (l0.length : Int) = (l1.length : Int) then (laws_eqAssetS.l0 k l0 l1 0) else (some false)) = some r := h
 clear h
 by_cases c3 : (l0.length : Int) = (l1.length : Int)
 ·rw [if_pos c3] at H
  have c3b0 : ((l0.length : Int) == (l1.length : Int)) = true := beq_iff_eq.mpr c3
  have c3b1 : ((l0.length : Int) != (l1.length : Int)) = false := bne_eq_false_iff_eq.mpr c3
  have c3b2 : (l0.length == l1.length) = true := by first | simpa using c3 | (simp at c3 ⊢; omega)
  clear c3
  have H' := Aside0.mk H
  clear H
  go_enter Try.func11, Try.ntmps11
  go_wp2
  go_loopg [5] k (fun kq v5 w' => ∃ (x5_1 : Int), v5 = .int .i64 x5_1 ∧ Aside0 (laws_eqAssetS.l0 kq l0 l1 x5_1 = some r) ∧ Aside0 (kq ≤ k) ∧ Aside0 (Below w.heap.size w w'))
  case atStart => exact ⟨(0), tE, H', ⟨Nat.le_refl _⟩, ⟨by repeat (first | (with_reducible first | exact HB.out | apply below_alloc | apply pw_below_drewN | apply below_drew1) | exact HB.out)⟩⟩
  case round =>
   clear H'
   try clear c1
   try clear p2
   try clear c3
   try clear c3b0
   try clear c3b1
   try clear c3b2
   obtain ⟨x5_1, rfl, HA, HK1, HB⟩ := hrel
   cases gk with
   | zero => exact absurd HA.out (by simp [laws_eqAssetS.l0])
   | succ k1 =>
    have H := HA.out
    clear HA
    simp only [laws_eqAssetS.l0] at H
    by_cases c4 : x5_1 < (l0.length : Int)
    ·rw [if_pos c4] at H
     have c4b0 : decide (x5_1 < (l0.length : Int)) = true := decide_eq_true c4
     clear c4
     by_cases c5 : 0 ≤ x5_1
     ·rw [if_pos c5] at H
      have c5b0 : decide (0 ≤ x5_1) = true := decide_eq_true c5
      clear c5
      by_cases c6 : x5_1 < (l1.length : Int)
      ·rw [if_pos c6] at H
       have c6b0 : decide (x5_1 < (l1.length : Int)) = true := decide_eq_true c6
       clear c6
       replace H := Option.bind_eq_some_iff.mp H
       obtain ⟨t148, A70, H⟩ := H
       replace H : (if t148 = true then (laws_eqAssetS.l0 k1 l0 l1 (wrap64 (x5_1 + 1))) else (some false)) = some r := H
       have A7 := Aside0.mk A70
       clear A70
       by_cases c8 : t148 = true
       ·subst c8
        have H1 : (laws_eqAssetS.l0 k1 l0 l1 (wrap64 (x5_1 + 1))) = some r := by rw [if_pos rfl] at H; exact H
        clear H
        have H := H1
        clear H1
        have H' := Aside0.mk H
        clear H
        try go_wp2
        replace HB := Aside0.mk (below_drew1 HB.out)
        have p146 : 0 ≤ (x5_1 : Int) := of_decide_eq_true hE
        have q146 : x5_1 < (l0.length : Int) := of_decide_eq_true hE
        obtain ⟨ad146, A146_1, c146_1, A146_2, c146_2, e146, hx146_0, hx146_1, hx146_2, hl146_1, hi146_1, hl146_2, hi146_2⟩ := at_T63 HR0.out x5_1 p146 q146
        have hw146_2 := hx146_2
        have hw146_1 := hx146_1
        have hw146_0 := hx146_0
        cases e146
        replace hx146_0 := (HB.out.cell (World.block_lt_of_cell? w _ hx146_0)).trans hx146_0
        replace hx146_1 := (HB.out.cell (World.block_lt_of_cell? w _ hx146_1)).trans hx146_1
        replace hx146_2 := (HB.out.cell (World.block_lt_of_cell? w _ hx146_2)).trans hx146_2
        have HR146_1 := Aside0.mk hi146_1
        have HC146_1 := Aside0.mk hl146_1
        clear hi146_1 hl146_1
        have HR146_2 := Aside0.mk hi146_2
        have HC146_2 := Aside0.mk hl146_2
        clear hi146_2 hl146_2
        replace p146 := eq_true p146
        replace q146 := eq_true q146
        have p147 : 0 ≤ (x5_1 : Int) := of_decide_eq_true hE
        have q147 : x5_1 < (l1.length : Int) := of_decide_eq_true hE
        obtain ⟨ad147, A147_1, c147_1, A147_2, c147_2, e147, hx147_0, hx147_1, hx147_2, hl147_1, hi147_1, hl147_2, hi147_2⟩ := at_T63 HR1.out x5_1 p147 q147
        have hw147_2 := hx147_2
        have hw147_1 := hx147_1
        have hw147_0 := hx147_0
        cases e147
        replace hx147_0 := (HB.out.cell (World.block_lt_of_cell? w _ hx147_0)).trans hx147_0
        replace hx147_1 := (HB.out.cell (World.block_lt_of_cell? w _ hx147_1)).trans hx147_1
        replace hx147_2 := (HB.out.cell (World.block_lt_of_cell? w _ hx147_2)).trans hx147_2
        have HR147_1 := Aside0.mk hi147_1
        have HC147_1 := Aside0.mk hl147_1
        clear hi147_1 hl147_1
        have HR147_2 := Aside0.mk hi147_2
        have HC147_2 := Aside0.mk hl147_2
        clear hi147_2 hl147_2
        replace p147 := eq_true p147
        replace q147 := eq_true q147
        refine start_ (n := 10) (S := fun w' => w'.cell? (ad146.add ((x5_1).toNat * 3)) = some (.string ((rd_T63 l0 x5_1).f0)) ∧ w'.cell? ⟨(ad146.add ((x5_1).toNat * 3)).block, (ad146.add ((x5_1).toNat * 3)).off + 1, none⟩ = some (.slice A146_1 ((rd_T63 l0 x5_1).f1).length c146_1) ∧ w'.cell? ⟨(ad146.add ((x5_1).toNat * 3)).block, (ad146.add ((x5_1).toNat * 3)).off + 2, none⟩ = some (.slice A146_2 ((rd_T63 l0 x5_1).f2).length c146_2) ∧ w'.cell? (ad147.add ((x5_1).toNat * 3)) = some (.string ((rd_T63 l1 x5_1).f0)) ∧ w'.cell? ⟨(ad147.add ((x5_1).toNat * 3)).block, (ad147.add ((x5_1).toNat * 3)).off + 1, none⟩ = some (.slice A147_1 ((rd_T63 l1 x5_1).f1).length c147_1) ∧ w'.cell? ⟨(ad147.add ((x5_1).toNat * 3)).block, (ad147.add ((x5_1).toNat * 3)).off + 2, none⟩ = some (.slice A147_2 ((rd_T63 l1 x5_1).f2).length c147_2)) (ds := []) #[false, false, false, false, false, false, false, false, false, false] (by kernel_rfl) rfl rfl ⟨((HB.out.cell (World.block_lt_of_cell? w _ hw146_0)).trans hw146_0), ((HB.out.cell (World.block_lt_of_cell? w _ hw146_1)).trans hw146_1), ((HB.out.cell (World.block_lt_of_cell? w _ hw146_2)).trans hw146_2), ((HB.out.cell (World.block_lt_of_cell? w _ hw147_0)).trans hw147_0), ((HB.out.cell (World.block_lt_of_cell? w _ hw147_1)).trans hw147_1), ((HB.out.cell (World.block_lt_of_cell? w _ hw147_2)).trans hw147_2)⟩ (fun hHeld => ?_); refine with_tabW laws_eqAssetS.tab6 laws_eqAssetS.bits6 (fun HT_ HW_ => ?_)
        generalize wr.drew = w9 at HB HR146_1 HR146_2 HR147_1 HR147_2 hx146_0 hx146_1 hx146_2 hx147_0 hx147_1 hx147_2 hHeld ⊢
        refine pureA 0 17 (bz 10 1) rfl rfl (any_of HT_.out (by kernel_rfl)) ?_
        refine pureA 1 18 (bz 10 3) rfl rfl (any_of HT_.out (by kernel_rfl)) ?_
        refine pureA 2 19 (bz 10 7) rfl rfl (any_of HT_.out (by kernel_rfl)) ?_
        refine pureA 4 21 (bz 10 23) rfl rfl (any_of HT_.out (by kernel_rfl)) ?_
        refine pureA 5 22 (bz 10 55) rfl rfl (any_of HT_.out (by kernel_rfl)) ?_
        refine pureA 6 23 (bz 10 119) rfl rfl (any_of HT_.out (by kernel_rfl)) ?_
        refine takeA 3 20 (bz 10 127) rfl rfl (take_ofW HT_.out HW_.out (by kernel_rfl)) hHeld (by rintro w' ⟨s0, s1, s2, s3, s4, s5⟩; go_simp; with_reducible rfl) ?_
        refine takeA 7 24 (bz 10 255) rfl rfl (take_ofW HT_.out HW_.out (by kernel_rfl)) hHeld (by rintro w' ⟨s0, s1, s2, s3, s4, s5⟩; go_simp; with_reducible rfl) ?_
        refine one_ (i := 8) (N := some 25) (bz 10 511) rfl rfl (one_of HT_.out (by kernel_rfl)) (by decide) (fun K hK => ?_)
        refine goes_ Try.func40 (by kernel_rfl) rfl #[.agg #[.string ((rd_T63 l0 x5_1).f0), .slice A146_1 ((rd_T63 l0 x5_1).f1).length c146_1, .slice A146_2 ((rd_T63 l0 x5_1).f2).length c146_2], .agg #[.string ((rd_T63 l1 x5_1).f0), .slice A147_1 ((rd_T63 l1 x5_1).f1).length c147_1, .slice A147_2 ((rd_T63 l1 x5_1).f2).length c147_2]] (by rfl) rfl rfl aE ?_
        with_reducible refine (laws_eqAsset.calls k1 ((rd_T63 l0 x5_1).f0) _ _ ((rd_T63 l0 x5_1).f1) _ _ ((rd_T63 l0 x5_1).f2) ((rd_T63 l1 x5_1).f0) _ _ ((rd_T63 l1 x5_1).f1) _ _ ((rd_T63 l1 x5_1).f2) true _ ?side1 ?side2 ?side3 ?side4 ?side5 ?side6 ?side7 ?side8 A7.out).mono ?_
        (case side1 => exact cU (Kd.C_below HR146_1.out HB.out))
        (case side2 => exact HC146_1.out)
        (case side3 => exact cU (Kd.C_below HR146_2.out HB.out))
        (case side4 => exact HC146_2.out)
        (case side5 => exact cU (Kd.C_below HR147_1.out HB.out))
        (case side6 => exact HC147_1.out)
        (case side7 => exact cU (Kd.C_below HR147_2.out HB.out))
        (case side8 => exact HC147_2.out)
        rintro e w10 ⟨rfl, hb⟩
        refine ⟨_, rfl, ?_⟩
        replace HB := bH (lU) hb
        (try clear hb)
        (try clear hb2)
        (try clear hk)
        (try clear hi)
        refine hK.out _ _ ⟨((HB.out.cell (World.block_lt_of_cell? w _ hw146_0)).trans hw146_0), ((HB.out.cell (World.block_lt_of_cell? w _ hw146_1)).trans hw146_1), ((HB.out.cell (World.block_lt_of_cell? w _ hw146_2)).trans hw146_2), ((HB.out.cell (World.block_lt_of_cell? w _ hw147_0)).trans hw147_0), ((HB.out.cell (World.block_lt_of_cell? w _ hw147_1)).trans hw147_1), ((HB.out.cell (World.block_lt_of_cell? w _ hw147_2)).trans hw147_2)⟩ (fun hHeld => ?_)
        clear hK K
        refine norm_ (a' := ?_) ?_ ?_
        rotate_left
        ·show Act.put _ (some 25) _ = _
         simp only [Act.put, List.setIfInBounds_toArray, List.set_cons_zero, List.set_cons_succ, i64_w, i32_w]
         rfl
        refine pureA 9 26 (bz 10 1023) rfl rfl (any_of HT_.out (by kernel_rfl)) ?_
        refine done_ (done_of HT_.out (by kernel_rfl)) ?_
        try go_wp2
        go_roundg k1
        case measure => have := HK1.out; omega
        case rel => exact ⟨(wrap64 (x5_1 + 1)), tE, H', ⟨by have := HK1.out; omega⟩, ⟨by repeat (first | (with_reducible first | exact HB.out | apply below_alloc | apply pw_below_drewN | apply below_drew1) | exact HB.out)⟩⟩
       ·replace c8 := Bool.eq_false_iff.mpr c8
        subst c8
        have H1 : (some false) = some r := by rw [if_neg (show ¬ (false = true) by decide)] at H; exact H
        clear H
        have H := H1
        clear H1
        obtain rfl := Option.some.inj H
        try go_wp2
        replace HB := Aside0.mk (below_drew1 HB.out)
        have p146 : 0 ≤ (x5_1 : Int) := of_decide_eq_true hE
        have q146 : x5_1 < (l0.length : Int) := of_decide_eq_true hE
        obtain ⟨ad146, A146_1, c146_1, A146_2, c146_2, e146, hx146_0, hx146_1, hx146_2, hl146_1, hi146_1, hl146_2, hi146_2⟩ := at_T63 HR0.out x5_1 p146 q146
        have hw146_2 := hx146_2
        have hw146_1 := hx146_1
        have hw146_0 := hx146_0
        cases e146
        replace hx146_0 := (HB.out.cell (World.block_lt_of_cell? w _ hx146_0)).trans hx146_0
        replace hx146_1 := (HB.out.cell (World.block_lt_of_cell? w _ hx146_1)).trans hx146_1
        replace hx146_2 := (HB.out.cell (World.block_lt_of_cell? w _ hx146_2)).trans hx146_2
        have HR146_1 := Aside0.mk hi146_1
        have HC146_1 := Aside0.mk hl146_1
        clear hi146_1 hl146_1
        have HR146_2 := Aside0.mk hi146_2
        have HC146_2 := Aside0.mk hl146_2
        clear hi146_2 hl146_2
        replace p146 := eq_true p146
        replace q146 := eq_true q146
        have p147 : 0 ≤ (x5_1 : Int) := of_decide_eq_true hE
        have q147 : x5_1 < (l1.length : Int) := of_decide_eq_true hE
        obtain ⟨ad147, A147_1, c147_1, A147_2, c147_2, e147, hx147_0, hx147_1, hx147_2, hl147_1, hi147_1, hl147_2, hi147_2⟩ := at_T63 HR1.out x5_1 p147 q147
        have hw147_2 := hx147_2
        have hw147_1 := hx147_1
        have hw147_0 := hx147_0
        cases e147
        replace hx147_0 := (HB.out.cell (World.block_lt_of_cell? w _ hx147_0)).trans hx147_0
        replace hx147_1 := (HB.out.cell (World.block_lt_of_cell? w _ hx147_1)).trans hx147_1
        replace hx147_2 := (HB.out.cell (World.block_lt_of_cell? w _ hx147_2)).trans hx147_2
        have HR147_1 := Aside0.mk hi147_1
        have HC147_1 := Aside0.mk hl147_1
        clear hi147_1 hl147_1
        have HR147_2 := Aside0.mk hi147_2
        have HC147_2 := Aside0.mk hl147_2
        clear hi147_2 hl147_2
        replace p147 := eq_true p147
        replace q147 := eq_true q147
        refine start_ (n := 10) (S := fun w' => w'.cell? (ad146.add ((x5_1).toNat * 3)) = some (.string ((rd_T63 l0 x5_1).f0)) ∧ w'.cell? ⟨(ad146.add ((x5_1).toNat * 3)).block, (ad146.add ((x5_1).toNat * 3)).off + 1, none⟩ = some (.slice A146_1 ((rd_T63 l0 x5_1).f1).length c146_1) ∧ w'.cell? ⟨(ad146.add ((x5_1).toNat * 3)).block, (ad146.add ((x5_1).toNat * 3)).off + 2, none⟩ = some (.slice A146_2 ((rd_T63 l0 x5_1).f2).length c146_2) ∧ w'.cell? (ad147.add ((x5_1).toNat * 3)) = some (.string ((rd_T63 l1 x5_1).f0)) ∧ w'.cell? ⟨(ad147.add ((x5_1).toNat * 3)).block, (ad147.add ((x5_1).toNat * 3)).off + 1, none⟩ = some (.slice A147_1 ((rd_T63 l1 x5_1).f1).length c147_1) ∧ w'.cell? ⟨(ad147.add ((x5_1).toNat * 3)).block, (ad147.add ((x5_1).toNat * 3)).off + 2, none⟩ = some (.slice A147_2 ((rd_T63 l1 x5_1).f2).length c147_2)) (ds := []) #[false, false, false, false, false, false, false, false, false, false] (by kernel_rfl) rfl rfl ⟨((HB.out.cell (World.block_lt_of_cell? w _ hw146_0)).trans hw146_0), ((HB.out.cell (World.block_lt_of_cell? w _ hw146_1)).trans hw146_1), ((HB.out.cell (World.block_lt_of_cell? w _ hw146_2)).trans hw146_2), ((HB.out.cell (World.block_lt_of_cell? w _ hw147_0)).trans hw147_0), ((HB.out.cell (World.block_lt_of_cell? w _ hw147_1)).trans hw147_1), ((HB.out.cell (World.block_lt_of_cell? w _ hw147_2)).trans hw147_2)⟩ (fun hHeld => ?_); refine with_tabW laws_eqAssetS.tab6 laws_eqAssetS.bits6 (fun HT_ HW_ => ?_)
        generalize wr.drew = w11 at HB HR146_1 HR146_2 HR147_1 HR147_2 hx146_0 hx146_1 hx146_2 hx147_0 hx147_1 hx147_2 hHeld ⊢
        refine pureA 0 17 (bz 10 1) rfl rfl (any_of HT_.out (by kernel_rfl)) ?_
        refine pureA 1 18 (bz 10 3) rfl rfl (any_of HT_.out (by kernel_rfl)) ?_
        refine pureA 2 19 (bz 10 7) rfl rfl (any_of HT_.out (by kernel_rfl)) ?_
        refine pureA 4 21 (bz 10 23) rfl rfl (any_of HT_.out (by kernel_rfl)) ?_
        refine pureA 5 22 (bz 10 55) rfl rfl (any_of HT_.out (by kernel_rfl)) ?_
        refine pureA 6 23 (bz 10 119) rfl rfl (any_of HT_.out (by kernel_rfl)) ?_
        refine takeA 3 20 (bz 10 127) rfl rfl (take_ofW HT_.out HW_.out (by kernel_rfl)) hHeld (by rintro w' ⟨s0, s1, s2, s3, s4, s5⟩; go_simp; with_reducible rfl) ?_
        refine takeA 7 24 (bz 10 255) rfl rfl (take_ofW HT_.out HW_.out (by kernel_rfl)) hHeld (by rintro w' ⟨s0, s1, s2, s3, s4, s5⟩; go_simp; with_reducible rfl) ?_
        refine one_ (i := 8) (N := some 25) (bz 10 511) rfl rfl (one_of HT_.out (by kernel_rfl)) (by decide) (fun K hK => ?_)
        refine goes_ Try.func40 (by kernel_rfl) rfl #[.agg #[.string ((rd_T63 l0 x5_1).f0), .slice A146_1 ((rd_T63 l0 x5_1).f1).length c146_1, .slice A146_2 ((rd_T63 l0 x5_1).f2).length c146_2], .agg #[.string ((rd_T63 l1 x5_1).f0), .slice A147_1 ((rd_T63 l1 x5_1).f1).length c147_1, .slice A147_2 ((rd_T63 l1 x5_1).f2).length c147_2]] (by rfl) rfl rfl aE ?_
        with_reducible refine (laws_eqAsset.calls k1 ((rd_T63 l0 x5_1).f0) _ _ ((rd_T63 l0 x5_1).f1) _ _ ((rd_T63 l0 x5_1).f2) ((rd_T63 l1 x5_1).f0) _ _ ((rd_T63 l1 x5_1).f1) _ _ ((rd_T63 l1 x5_1).f2) false _ ?side1 ?side2 ?side3 ?side4 ?side5 ?side6 ?side7 ?side8 A7.out).mono ?_
        (case side1 => exact cU (Kd.C_below HR146_1.out HB.out))
        (case side2 => exact HC146_1.out)
        (case side3 => exact cU (Kd.C_below HR146_2.out HB.out))
        (case side4 => exact HC146_2.out)
        (case side5 => exact cU (Kd.C_below HR147_1.out HB.out))
        (case side6 => exact HC147_1.out)
        (case side7 => exact cU (Kd.C_below HR147_2.out HB.out))
        (case side8 => exact HC147_2.out)
        rintro e w12 ⟨rfl, hb⟩
        refine ⟨_, rfl, ?_⟩
        replace HB := bH (lU) hb
        (try clear hb)
        (try clear hb2)
        (try clear hk)
        (try clear hi)
        refine hK.out _ _ ⟨((HB.out.cell (World.block_lt_of_cell? w _ hw146_0)).trans hw146_0), ((HB.out.cell (World.block_lt_of_cell? w _ hw146_1)).trans hw146_1), ((HB.out.cell (World.block_lt_of_cell? w _ hw146_2)).trans hw146_2), ((HB.out.cell (World.block_lt_of_cell? w _ hw147_0)).trans hw147_0), ((HB.out.cell (World.block_lt_of_cell? w _ hw147_1)).trans hw147_1), ((HB.out.cell (World.block_lt_of_cell? w _ hw147_2)).trans hw147_2)⟩ (fun hHeld => ?_)
        clear hK K
        refine norm_ (a' := ?_) ?_ ?_
        rotate_left
        ·show Act.put _ (some 25) _ = _
         simp only [Act.put, List.setIfInBounds_toArray, List.set_cons_zero, List.set_cons_succ, i64_w, i32_w]
         rfl
        refine pureA 9 26 (bz 10 1023) rfl rfl (any_of HT_.out (by kernel_rfl)) ?_
        refine done_ (done_of HT_.out (by kernel_rfl)) ?_
        try go_wp2
        go_ret
        exact ⟨eE, lU⟩
      ·rw [if_neg c6] at H
       exact absurd H (by simp)
     ·rw [if_neg c5] at H
      exact absurd H (by simp)
    ·rw [if_neg c4] at H
     have c4b0 : decide (x5_1 < (l0.length : Int)) = false := decide_eq_false c4
     clear c4
     obtain rfl := Option.some.inj H
     go_wp2
     go_ret
     exact ⟨eE, lU⟩
 ·rw [if_neg c3] at H
  have c3b0 : ((l0.length : Int) == (l1.length : Int)) = false := beq_eq_false_iff_ne.mpr c3
  have c3b1 : ((l0.length : Int) != (l1.length : Int)) = true := bne_iff_ne.mpr c3
  have c3b2 : (l0.length == l1.length) = false := by first | simpa using c3 | (simp at c3 ⊢; omega)
  obtain rfl := Option.some.inj H
  go_enter Try.func11, Try.ntmps11
  go_wp2
  go_ret
  exact ⟨eE, lU⟩
def spec_l1Digit.f (a0 : Int) : Option (Bool) := if a0 ≥ 48 then (some (decide (a0 ≤ 57))) else (some false)
set_option maxHeartbeats 8000000 in
set_option maxRecDepth 100000 in
theorem spec_l1Digit.calls (a0 : Int) (r : Bool) (w : World) (h : spec_l1Digit.f a0 = some r) :
  Calls Try.prog 68 #[.int .u8 a0] w fun e w' => e = .returned (.bool r) ∧ Drawn0 w w' := by
 have H : (if a0 ≥ 48 then (some (decide (a0 ≤ 57))) else (some false)) = some r := h
 clear h
 by_cases c2 : a0 ≥ 48
 ·rw [if_pos c2] at H
  have c2b0 : decide (48 ≤ a0) = true := decide_eq_true c2
  clear c2
  obtain rfl := Option.some.inj H
  go_enter Try.func68, Try.ntmps68
  go_wp2
  go_ret
  exact ⟨by first | rfl | (simp; done) | (simp [*]; done) | exact not_isEmpty _ | exact (not_isEmpty _).symm | exact is_empty _ | exact (is_empty _).symm, by repeat (first | exact Drawn0.refl _ | apply Drawn0.step)⟩
 ·rw [if_neg c2] at H
  have c2b0 : decide (48 ≤ a0) = false := decide_eq_false c2
  clear c2
  obtain rfl := Option.some.inj H
  go_enter Try.func68, Try.ntmps68
  go_wp2
  go_ret
  exact ⟨by first | rfl | (simp; done) | (simp [*]; done) | exact not_isEmpty _ | exact (not_isEmpty _).symm | exact is_empty _ | exact (is_empty _).symm, by repeat (first | exact Drawn0.refl _ | apply Drawn0.step)⟩
end Go.Proofs.Ytifejplilaefiaa.PFnExactMakeOrder
namespace Go.Proofs.Ytifejplilaefiaa.PFnExactMakeOrder
open Go.RowKit Go.Proofs.YtifejplilaefiaaW.PrintWords Go.Proofs.YtifejplilaefiaaW.PrintLast Go.Proofs.YtifejplilaefiaaW.PrintMore
attribute [local go_sem] max2_int min2_int max_two min_two max_three min_three max_four min_four   -- for this text's walks alone
set_option linter.unusedVariables false
set_option linter.unusedSimpArgs false
def spec_l1Letter.f (a0 : Int) : Option (Bool) := if a0 ≥ 97 then (if a0 ≤ 122 then (some true) else (if a0 ≥ 65 then (if a0 ≤ 90 then (some true) else (some (a0 == 95))) else (some (a0 == 95)))) else (if a0 ≥ 65 then (if a0 ≤ 90 then (some true) else (some (a0 == 95))) else (some (a0 == 95)))
set_option maxHeartbeats 8000000 in
set_option maxRecDepth 100000 in
theorem spec_l1Letter.calls (a0 : Int) (r : Bool) (w : World) (h : spec_l1Letter.f a0 = some r) :
  Calls Try.prog 69 #[.int .u8 a0] w fun e w' => e = .returned (.bool r) ∧ Drawn0 w w' := by
 have H : (if a0 ≥ 97 then (if a0 ≤ 122 then (some true) else (if a0 ≥ 65 then (if a0 ≤ 90 then (some true) else (some (a0 == 95))) else (some (a0 == 95)))) else (if a0 ≥ 65 then (if a0 ≤ 90 then (some true) else (some (a0 == 95))) else (some (a0 == 95)))) = some r := h
 clear h
 by_cases c2 : a0 ≥ 97
 ·rw [if_pos c2] at H
  have c2b0 : decide (97 ≤ a0) = true := decide_eq_true c2
  clear c2
  by_cases c3 : a0 ≤ 122
  ·rw [if_pos c3] at H
   have c3b0 : decide (a0 ≤ 122) = true := decide_eq_true c3
   clear c3
   obtain rfl := Option.some.inj H
   go_enter Try.func69, Try.ntmps69
   go_wp2
   go_ret
   exact ⟨by first | rfl | (simp; done) | (simp [*]; done) | exact not_isEmpty _ | exact (not_isEmpty _).symm | exact is_empty _ | exact (is_empty _).symm, by repeat (first | exact Drawn0.refl _ | apply Drawn0.step)⟩
  ·rw [if_neg c3] at H
   have c3b0 : decide (a0 ≤ 122) = false := decide_eq_false c3
   clear c3
   by_cases c4 : a0 ≥ 65
   ·rw [if_pos c4] at H
    have c4b0 : decide (65 ≤ a0) = true := decide_eq_true c4
    clear c4
    by_cases c5 : a0 ≤ 90
    ·rw [if_pos c5] at H
     have c5b0 : decide (a0 ≤ 90) = true := decide_eq_true c5
     clear c5
     obtain rfl := Option.some.inj H
     go_enter Try.func69, Try.ntmps69
     go_wp2
     go_ret
     exact ⟨by first | rfl | (simp; done) | (simp [*]; done) | exact not_isEmpty _ | exact (not_isEmpty _).symm | exact is_empty _ | exact (is_empty _).symm, by repeat (first | exact Drawn0.refl _ | apply Drawn0.step)⟩
    ·rw [if_neg c5] at H
     have c5b0 : decide (a0 ≤ 90) = false := decide_eq_false c5
     clear c5
     obtain rfl := Option.some.inj H
     go_enter Try.func69, Try.ntmps69
     go_wp2
     go_ret
     exact ⟨by first | rfl | (simp; done) | (simp [*]; done) | exact not_isEmpty _ | exact (not_isEmpty _).symm | exact is_empty _ | exact (is_empty _).symm, by repeat (first | exact Drawn0.refl _ | apply Drawn0.step)⟩
   ·rw [if_neg c4] at H
    have c4b0 : decide (65 ≤ a0) = false := decide_eq_false c4
    clear c4
    obtain rfl := Option.some.inj H
    go_enter Try.func69, Try.ntmps69
    go_wp2
    go_ret
    exact ⟨by first | rfl | (simp; done) | (simp [*]; done) | exact not_isEmpty _ | exact (not_isEmpty _).symm | exact is_empty _ | exact (is_empty _).symm, by repeat (first | exact Drawn0.refl _ | apply Drawn0.step)⟩
 ·rw [if_neg c2] at H
  have c2b0 : decide (97 ≤ a0) = false := decide_eq_false c2
  clear c2
  by_cases c6 : a0 ≥ 65
  ·rw [if_pos c6] at H
   have c6b0 : decide (65 ≤ a0) = true := decide_eq_true c6
   clear c6
   by_cases c7 : a0 ≤ 90
   ·rw [if_pos c7] at H
    have c7b0 : decide (a0 ≤ 90) = true := decide_eq_true c7
    clear c7
    obtain rfl := Option.some.inj H
    go_enter Try.func69, Try.ntmps69
    go_wp2
    go_ret
    exact ⟨by first | rfl | (simp; done) | (simp [*]; done) | exact not_isEmpty _ | exact (not_isEmpty _).symm | exact is_empty _ | exact (is_empty _).symm, by repeat (first | exact Drawn0.refl _ | apply Drawn0.step)⟩
   ·rw [if_neg c7] at H
    have c7b0 : decide (a0 ≤ 90) = false := decide_eq_false c7
    clear c7
    obtain rfl := Option.some.inj H
    go_enter Try.func69, Try.ntmps69
    go_wp2
    go_ret
    exact ⟨by first | rfl | (simp; done) | (simp [*]; done) | exact not_isEmpty _ | exact (not_isEmpty _).symm | exact is_empty _ | exact (is_empty _).symm, by repeat (first | exact Drawn0.refl _ | apply Drawn0.step)⟩
  ·rw [if_neg c6] at H
   have c6b0 : decide (65 ≤ a0) = false := decide_eq_false c6
   clear c6
   obtain rfl := Option.some.inj H
   go_enter Try.func69, Try.ntmps69
   go_wp2
   go_ret
   exact ⟨by first | rfl | (simp; done) | (simp [*]; done) | exact not_isEmpty _ | exact (not_isEmpty _).symm | exact is_empty _ | exact (is_empty _).symm, by repeat (first | exact Drawn0.refl _ | apply Drawn0.step)⟩
mutual
def spec_GoodName.j0 : Nat → ByteArray → Bool → Option (Bool)
 | 0, _, _ => none
 | k + 1, x0, x16 => if x16 = true then (some false) else (spec_GoodName.l0 k x0 0)
def spec_GoodName.l0 : Nat → ByteArray → Int → Option (Bool)
 | 0, _, _ => none
 | k + 1, x0, x3 => if x3 < (x0.size : Int) then (if 0 ≤ x3 then ((spec_l1Letter.f (bt x0 x3)).bind fun t150 => (if t150 = true then (spec_GoodName.l0 k x0 (wrap64 (x3 + 1))) else ((spec_l1Digit.f (bt x0 x3)).bind fun t151 => (if t151 = true then (spec_GoodName.l0 k x0 (wrap64 (x3 + 1))) else (some false))))) else (none)) else (some true)
end
def spec_GoodName.f (k : Nat) (a0 : ByteArray) : Option (Bool) := if (a0.size : Int) < 1 then (spec_GoodName.j0 k a0 true) else (if (a0.size : Int) > 20 then (spec_GoodName.j0 k a0 true) else (if 0 < (a0.size : Int) then ((spec_l1Digit.f (bt a0 0)).bind fun t149 => (spec_GoodName.j0 k a0 t149)) else (none)))
theorem spec_GoodName.mono_l : ∀ k, (∀ y0 y1, LeO (spec_GoodName.j0 k y0 y1) (spec_GoodName.j0 (k + 1) y0 y1)) ∧ (∀ y0 y1, LeO (spec_GoodName.l0 k y0 y1) (spec_GoodName.l0 (k + 1) y0 y1))
 | 0 => ⟨fun _ _ r h => by simp [spec_GoodName.j0] at h, fun _ _ r h => by simp [spec_GoodName.l0] at h⟩
 | k + 1 => by
  obtain ⟨ih0, ih1⟩ := spec_GoodName.mono_l k
  refine ⟨?_, ?_⟩
  ·intro y0 y1
   unfold spec_GoodName.j0
   repeat' first
   | (with_reducible exact ih0 _ _)
   | (with_reducible exact ih1 _ _)
   | (with_reducible exact LeO.refl _)
   | (with_reducible exact LeO.none _)
   | (with_reducible refine LeO.ite ?_ ?_)
   | (with_reducible refine LeO.bind ?_ (fun _ => ?_))
   | exact ih0 _ _
   | exact ih1 _ _
   | exact LeO.none _
   | refine LeO.ite ?_ ?_
   | refine LeO.bind ?_ (fun _ => ?_)
  ·intro y0 y1
   unfold spec_GoodName.l0
   repeat' first
   | (with_reducible exact ih0 _ _)
   | (with_reducible exact ih1 _ _)
   | (with_reducible exact LeO.refl _)
   | (with_reducible exact LeO.none _)
   | (with_reducible refine LeO.ite ?_ ?_)
   | (with_reducible refine LeO.bind ?_ (fun _ => ?_))
   | exact ih0 _ _
   | exact ih1 _ _
   | exact LeO.none _
   | refine LeO.ite ?_ ?_
   | refine LeO.bind ?_ (fun _ => ?_)
theorem spec_GoodName.mono : ∀ a0 k, LeO (spec_GoodName.f k a0) (spec_GoodName.f (k + 1) a0) := by
 intro a0 k
 obtain ⟨ih0, ih1⟩ := spec_GoodName.mono_l k
 unfold spec_GoodName.f
 repeat' first
   | (with_reducible exact ih0 _ _)
   | (with_reducible exact ih1 _ _)
   | (with_reducible exact LeO.refl _)
   | (with_reducible exact LeO.none _)
   | (with_reducible refine LeO.ite ?_ ?_)
   | (with_reducible refine LeO.bind ?_ (fun _ => ?_))
   | exact ih0 _ _
   | exact ih1 _ _
   | exact LeO.none _
   | refine LeO.ite ?_ ?_
   | refine LeO.bind ?_ (fun _ => ?_)
set_option maxHeartbeats 8000000 in
set_option maxRecDepth 100000 in
theorem spec_GoodName.calls (k : Nat) (a0 : ByteArray) (r : Bool) (w : World) (h : spec_GoodName.f k a0 = some r) :
  Calls Try.prog 29 #[.string a0] w fun e w' => e = .returned (.bool r) ∧ Drawn0 w w' := by
 have H : (if (a0.size : Int) < 1 then (spec_GoodName.j0 k a0 true) else (if (a0.size : Int) > 20 then (spec_GoodName.j0 k a0 true) else (if 0 < (a0.size : Int) then ((spec_l1Digit.f (bt a0 0)).bind fun t149 => (spec_GoodName.j0 k a0 t149)) else (none)))) = some r := h
 clear h
 have HC2 := Aside0.mk H
 clear H
 go_enter Try.func29, Try.ntmps29
 go_upto_region 1 with (fail)
 go_cut [16] (fun v16 wc => ∃ (kq : Nat) (x16_1 : Bool), v16 = .bool x16_1 ∧ Aside0 (spec_GoodName.j0 kq a0 x16_1 = some r) ∧ Aside0 (kq ≤ k) ∧ Drawn0 w wc)
 case first =>
  have H := HC2.out
  clear HC2
  by_cases c3 : (a0.size : Int) < 1
  ·rw [if_pos c3] at H
   have c3b0 : decide ((a0.size : Int) < 1) = true := decide_eq_true c3
   have c3b1 : decide (a0.size < 1) = true := decide_eq_true (by omega)
   clear c3
   (first | rw [c3b0] | (simp only [i64_w, i32_w]; rw [c3b0]) | (rw [c3b2]; simp only [Bool.not_false, Bool.not_true]) | skip)
   have H' := Aside0.mk H
   clear H
   go_wp2
   go_meet
   case rel => exact ⟨_, (true), tE, H', ⟨by first | omega | exact Nat.le_refl _⟩, by repeat (first | exact Drawn0.refl _ | apply Drawn0.step)⟩
  ·rw [if_neg c3] at H
   have c3b0 : decide ((a0.size : Int) < 1) = false := decide_eq_false c3
   have c3b1 : decide (a0.size < 1) = false := decide_eq_false (by omega)
   clear c3
   (first | rw [c3b0] | (simp only [i64_w, i32_w]; rw [c3b0]) | (rw [c3b2]; simp only [Bool.not_false, Bool.not_true]) | skip)
   by_cases c4 : (a0.size : Int) > 20
   ·rw [if_pos c4] at H
    have c4b0 : decide (20 < (a0.size : Int)) = true := decide_eq_true c4
    have c4b1 : decide (20 < a0.size) = true := decide_eq_true (by omega)
    clear c4
    have H' := Aside0.mk H
    clear H
    go_wp2
    go_meet
    case rel => exact ⟨_, (true), tE, H', ⟨by first | omega | exact Nat.le_refl _⟩, by repeat (first | exact Drawn0.refl _ | apply Drawn0.step)⟩
   ·rw [if_neg c4] at H
    have c4b0 : decide (20 < (a0.size : Int)) = false := decide_eq_false c4
    have c4b1 : decide (20 < a0.size) = false := decide_eq_false (by omega)
    clear c4
    by_cases c5 : 0 < (a0.size : Int)
    ·rw [if_pos c5] at H
     have c5b0 : decide (0 < (a0.size : Int)) = true := decide_eq_true c5
     have c5b1 : decide (0 < a0.size) = true := decide_eq_true (by omega)
     clear c5
     replace H := Option.bind_eq_some_iff.mp H
     obtain ⟨t149, A70, H⟩ := H
     replace H : (spec_GoodName.j0 k a0 t149) = some r := H
     have A7 := Aside0.mk A70
     clear A70
     have H' := Aside0.mk H
     clear H
     have p6 : 0 ≤ (0 : Int) := (by omega)
     have q6 : 0 < a0.size := (by have : (0 : Int) < (a0.size : Int) := of_decide_eq_true hE; omega)
     have hx6 : ∀ h : 0 < a0.size, ((a0[0]'h).toNat : Int) = bt a0 0 := bt_at a0 0
     clear p6
     have qi6 : (0 < (a0.size : Int)) = True := eq_true (of_decide_eq_true hE)
     replace q6 := eq_true q6
     go_wp2_with (first | (go_at_call 68; (with_reducible refine (spec_l1Digit.calls (bt a0 0) t149 _ A7.out).mono ?_); rintro e w' ⟨rfl, ⟨nd, rfl⟩⟩))
     go_meet
     case rel => exact ⟨_, (t149), tE, H', ⟨by first | omega | exact Nat.le_refl _⟩, by repeat (first | exact Drawn0.refl _ | apply Drawn0.step)⟩
    ·rw [if_neg c5] at H
     exact absurd H (by simp)
 case rest =>
  clear HC2
  try clear c2
  try clear p2
  try clear c3
  try clear c3b0
  try clear c3b1
  try clear c3b2
  try clear c4
  try clear c4b0
  try clear c4b1
  try clear c5
  try clear c5b0
  try clear c5b1
  try clear p6
  try clear q6
  try clear hx6
  try clear qi6
  try clear p6
  try clear q6
  obtain ⟨kq, x16_1, rfl, HA, HJ1, ⟨mc1, rfl⟩⟩ := hcut
  cases kq with
  | zero => exact absurd HA.out (by simp [spec_GoodName.j0])
  | succ kj1 =>
   have H := HA.out
   clear HA
   simp only [spec_GoodName.j0] at H
   by_cases c8 : x16_1 = true
   ·subst c8
    have H1 : (some false) = some r := by rw [if_pos rfl] at H; exact H
    clear H
    have H := H1
    clear H1
    obtain rfl := Option.some.inj H
    go_wp2
    go_ret
    exact ⟨by first | rfl | (simp; done) | (simp [*]; done) | exact not_isEmpty _ | exact (not_isEmpty _).symm | exact is_empty _ | exact (is_empty _).symm, by repeat (first | exact Drawn0.refl _ | apply Drawn0.step)⟩
   ·replace c8 := Bool.eq_false_iff.mpr c8
    subst c8
    have H1 : (spec_GoodName.l0 kj1 a0 0) = some r := by rw [if_neg (show ¬ (false = true) by decide)] at H; exact H
    clear H
    have H := H1
    clear H1
    have H' := Aside0.mk H
    clear H
    go_wp2
    go_loopg [3] kj1 (fun kq v3 w' => ∃ (x3_2 : Int), v3 = .int .i64 x3_2 ∧ Aside0 (spec_GoodName.l0 kq a0 x3_2 = some r) ∧ Aside0 (kq ≤ kj1) ∧ Drawn0 w w')
    case atStart => exact ⟨(0), tE, H', ⟨Nat.le_refl _⟩, by repeat (first | exact Drawn0.refl _ | apply Drawn0.step)⟩
    case round =>
     clear H'
     try clear c1
     try clear c2
     try clear p2
     try clear c3
     try clear c3b0
     try clear c3b1
     try clear c3b2
     try clear c4
     try clear c4b0
     try clear c4b1
     try clear c5
     try clear c5b0
     try clear c5b1
     try clear p6
     try clear q6
     try clear hx6
     try clear qi6
     try clear c8
     try clear p2
     try clear p6
     try clear q6
     obtain ⟨x3_2, rfl, HA, HK2, ⟨m2, rfl⟩⟩ := hrel
     cases gk with
     | zero => exact absurd HA.out (by simp [spec_GoodName.l0])
     | succ k2 =>
      have H := HA.out
      clear HA
      simp only [spec_GoodName.l0] at H
      by_cases c9 : x3_2 < (a0.size : Int)
      ·rw [if_pos c9] at H
       have c9b0 : decide (x3_2 < (a0.size : Int)) = true := decide_eq_true c9
       clear c9
       by_cases c10 : 0 ≤ x3_2
       ·rw [if_pos c10] at H
        have c10b0 : decide (0 ≤ x3_2) = true := decide_eq_true c10
        clear c10
        replace H := Option.bind_eq_some_iff.mp H
        obtain ⟨t150, A120, H⟩ := H
        replace H : (if t150 = true then (spec_GoodName.l0 k2 a0 (wrap64 (x3_2 + 1))) else ((spec_l1Digit.f (bt a0 x3_2)).bind fun t151 => (if t151 = true then (spec_GoodName.l0 k2 a0 (wrap64 (x3_2 + 1))) else (some false)))) = some r := H
        have A12 := Aside0.mk A120
        clear A120
        by_cases c13 : t150 = true
        ·subst c13
         have H1 : (spec_GoodName.l0 k2 a0 (wrap64 (x3_2 + 1))) = some r := by rw [if_pos rfl] at H; exact H
         clear H
         have H := H1
         clear H1
         have H' := Aside0.mk H
         clear H
         have p11 : 0 ≤ (x3_2 : Int) := of_decide_eq_true hE
         have q11 : x3_2 < (a0.size : Int) := of_decide_eq_true hE
         have hx11 := bt_at a0 x3_2
         replace p11 := eq_true p11
         replace q11 := eq_true q11
         go_wp2_with (first | ((with_reducible refine gate_callee (f := 69) rfl ?_); refine goesL_ (some 26) rfl rfl Try.func69 (by kernel_rfl) rfl #[.int .u8 (bt a0 x3_2)] rfl aE ?_; (with_reducible refine (spec_l1Letter.calls (bt a0 x3_2) true _ A12.out).mono ?_); rintro e w' ⟨rfl, ⟨nd, rfl⟩⟩; refine ⟨_, rfl, ?_⟩))
         go_roundg k2
         case measure => have := HJ1.out; have := HK2.out; omega
         case rel => exact ⟨(wrap64 (x3_2 + 1)), tE, H', ⟨by have := HJ1.out; have := HK2.out; omega⟩, by repeat (first | exact Drawn0.refl _ | apply Drawn0.step)⟩
        ·replace c13 := Bool.eq_false_iff.mpr c13
         subst c13
         have H1 : ((spec_l1Digit.f (bt a0 x3_2)).bind fun t151 => (if t151 = true then (spec_GoodName.l0 k2 a0 (wrap64 (x3_2 + 1))) else (some false))) = some r := by rw [if_neg (show ¬ (false = true) by decide)] at H; exact H
         clear H
         have H := H1
         clear H1
         replace H := Option.bind_eq_some_iff.mp H
         obtain ⟨t151, A150, H⟩ := H
         replace H : (if t151 = true then (spec_GoodName.l0 k2 a0 (wrap64 (x3_2 + 1))) else (some false)) = some r := H
         have A15 := Aside0.mk A150
         clear A150
         by_cases c16 : t151 = true
         ·subst c16
          have H1 : (spec_GoodName.l0 k2 a0 (wrap64 (x3_2 + 1))) = some r := by rw [if_pos rfl] at H; exact H
          clear H
          have H := H1
          clear H1
          have H' := Aside0.mk H
          clear H
          have p11 : 0 ≤ (x3_2 : Int) := of_decide_eq_true hE
          have q11 : x3_2 < (a0.size : Int) := of_decide_eq_true hE
          have hx11 := bt_at a0 x3_2
          replace p11 := eq_true p11
          replace q11 := eq_true q11
          go_wp2_with (first | ((with_reducible refine gate_callee (f := 69) rfl ?_); refine goesL_ (some 26) rfl rfl Try.func69 (by kernel_rfl) rfl #[.int .u8 (bt a0 x3_2)] rfl aE ?_; (with_reducible refine (spec_l1Letter.calls (bt a0 x3_2) false _ A12.out).mono ?_); rintro e w' ⟨rfl, ⟨nd, rfl⟩⟩; refine ⟨_, rfl, ?_⟩; have p14 : 0 ≤ (x3_2 : Int) := of_decide_eq_true hE; have q14 : x3_2 < (a0.size : Int) := of_decide_eq_true hE; have hx14 := bt_at a0 x3_2; replace p14 := eq_true p14; replace q14 := eq_true q14) | (go_at_call 68; (with_reducible refine (spec_l1Digit.calls (bt a0 x3_2) true _ A15.out).mono ?_); rintro e w' ⟨rfl, ⟨nd, rfl⟩⟩))
          go_roundg k2
          case measure => have := HJ1.out; have := HK2.out; omega
          case rel => exact ⟨(wrap64 (x3_2 + 1)), tE, H', ⟨by have := HJ1.out; have := HK2.out; omega⟩, by repeat (first | exact Drawn0.refl _ | apply Drawn0.step)⟩
         ·replace c16 := Bool.eq_false_iff.mpr c16
          subst c16
          have H1 : (some false) = some r := by rw [if_neg (show ¬ (false = true) by decide)] at H; exact H
          clear H
          have H := H1
          clear H1
          obtain rfl := Option.some.inj H
          have p11 : 0 ≤ (x3_2 : Int) := of_decide_eq_true hE
          have q11 : x3_2 < (a0.size : Int) := of_decide_eq_true hE
          have hx11 := bt_at a0 x3_2
          replace p11 := eq_true p11
          replace q11 := eq_true q11
          go_wp2_with (first | ((with_reducible refine gate_callee (f := 69) rfl ?_); refine goesL_ (some 26) rfl rfl Try.func69 (by kernel_rfl) rfl #[.int .u8 (bt a0 x3_2)] rfl aE ?_; (with_reducible refine (spec_l1Letter.calls (bt a0 x3_2) false _ A12.out).mono ?_); rintro e w' ⟨rfl, ⟨nd, rfl⟩⟩; refine ⟨_, rfl, ?_⟩; have p14 : 0 ≤ (x3_2 : Int) := of_decide_eq_true hE; have q14 : x3_2 < (a0.size : Int) := of_decide_eq_true hE; have hx14 := bt_at a0 x3_2; replace p14 := eq_true p14; replace q14 := eq_true q14) | (go_at_call 68; (with_reducible refine (spec_l1Digit.calls (bt a0 x3_2) false _ A15.out).mono ?_); rintro e w' ⟨rfl, ⟨nd, rfl⟩⟩))
          go_ret
          exact ⟨by first | rfl | (simp; done) | (simp [*]; done) | exact not_isEmpty _ | exact (not_isEmpty _).symm | exact is_empty _ | exact (is_empty _).symm, by repeat (first | exact Drawn0.refl _ | apply Drawn0.step)⟩
       ·rw [if_neg c10] at H
        exact absurd H (by simp)
      ·rw [if_neg c9] at H
       have c9b0 : decide (x3_2 < (a0.size : Int)) = false := decide_eq_false c9
       clear c9
       obtain rfl := Option.some.inj H
       go_wp2
       go_ret
       exact ⟨by first | rfl | (simp; done) | (simp [*]; done) | exact not_isEmpty _ | exact (not_isEmpty _).symm | exact is_empty _ | exact (is_empty _).symm, by repeat (first | exact Drawn0.refl _ | apply Drawn0.step)⟩
def spec_l3Names.l0 : Nat → List ByteArray → List ByteArray → Int → Int → Option (Bool)
 | 0, _, _, _, _ => none
 | k + 1, x0, x11, x12, x13 => if x13 < x12 then (if 0 ≤ x13 then (if x13 < (x11.length : Int) then ((spec_GoodName.f k (rdOf ByteArray.empty x11 x13)).bind fun t153 => (if t153 = true then (if x13 > 0 then (if 0 ≤ (wrap64 (x13 - 1)) then (if (wrap64 (x13 - 1)) < (x0.length : Int) then (if ((Op.bytesLess ((rdOf ByteArray.empty x0 (wrap64 (x13 - 1))).toList) ((rdOf ByteArray.empty x11 x13).toList)) = true) then (spec_l3Names.l0 k x0 x11 x12 (wrap64 (x13 + 1))) else (some false)) else (none)) else (none)) else (spec_l3Names.l0 k x0 x11 x12 (wrap64 (x13 + 1)))) else (some false))) else (none)) else (none)) else (some true)
def spec_l3Names.f (k : Nat) (l0 : List ByteArray) (a1 : Int) : Option (Bool) := if (l0.length : Int) > a1 then (some false) else (spec_l3Names.l0 k l0 l0 (l0.length : Int) 0)
theorem spec_l3Names.mono_l : ∀ k, (∀ y0 y1 y2 y3, LeO (spec_l3Names.l0 k y0 y1 y2 y3) (spec_l3Names.l0 (k + 1) y0 y1 y2 y3))
 | 0 => fun _ _ _ _ r h => by simp [spec_l3Names.l0] at h
 | k + 1 => by
  have ih0 := spec_l3Names.mono_l k
  ·intro y0 y1 y2 y3
   unfold spec_l3Names.l0
   repeat' first
   | (with_reducible exact ih0 _ _ _ _)
   | (with_reducible exact spec_GoodName.mono _ _)
   | (with_reducible exact LeO.refl _)
   | (with_reducible exact LeO.none _)
   | (with_reducible refine LeO.ite ?_ ?_)
   | (with_reducible refine LeO.bind ?_ (fun _ => ?_))
   | exact ih0 _ _ _ _
   | exact spec_GoodName.mono _ _
   | exact LeO.none _
   | refine LeO.ite ?_ ?_
   | refine LeO.bind ?_ (fun _ => ?_)
theorem spec_l3Names.mono : ∀ a0 a1 k, LeO (spec_l3Names.f k a0 a1) (spec_l3Names.f (k + 1) a0 a1) := by
 intro a0 a1 k
 have ih0 := spec_l3Names.mono_l k
 unfold spec_l3Names.f
 repeat' first
   | (with_reducible exact ih0 _ _ _ _)
   | (with_reducible exact spec_GoodName.mono _ _)
   | (with_reducible exact LeO.refl _)
   | (with_reducible exact LeO.none _)
   | (with_reducible refine LeO.ite ?_ ?_)
   | (with_reducible refine LeO.bind ?_ (fun _ => ?_))
   | exact ih0 _ _ _ _
   | exact spec_GoodName.mono _ _
   | exact LeO.none _
   | refine LeO.ite ?_ ?_
   | refine LeO.bind ?_ (fun _ => ?_)
set_option maxHeartbeats 8000000 in
set_option maxRecDepth 100000 in
theorem spec_l3Names.calls (k : Nat) (A0 : Option Addr) (c0 : Nat) (l0 : List ByteArray) (a1 : Int) (r : Bool) (w : World) (hr0 : Kd.C Kd.string w A0 l0.length l0) (hc0 : l0.length ≤ c0) (h : spec_l3Names.f k l0 a1 = some r) :
  Calls Try.prog 30 #[.slice A0 l0.length c0, .int .i64 a1] w fun e w' => e = .returned (.bool r) ∧ Drawn0 w w' := by
 have HR0 := Aside0.mk hr0
 have HC0 := Aside0.mk hc0
 clear hr0 hc0
 have H : (if (l0.length : Int) > a1 then (some false) else (spec_l3Names.l0 k l0 l0 (l0.length : Int) 0)) = some r := h
 clear h
 by_cases c3 : (l0.length : Int) > a1
 ·rw [if_pos c3] at H
  have c3b0 : decide (a1 < (l0.length : Int)) = true := decide_eq_true c3
  clear c3
  obtain rfl := Option.some.inj H
  go_enter Try.func30, Try.ntmps30
  go_wp2
  go_ret
  exact ⟨by first | rfl | (simp; done) | (simp [*]; done) | exact not_isEmpty _ | exact (not_isEmpty _).symm | exact is_empty _ | exact (is_empty _).symm, by repeat (first | exact Drawn0.refl _ | apply Drawn0.step)⟩
 ·rw [if_neg c3] at H
  have c3b0 : decide (a1 < (l0.length : Int)) = false := decide_eq_false c3
  clear c3
  have H' := Aside0.mk H
  clear H
  go_enter Try.func30, Try.ntmps30
  go_wp2
  go_loopg [13] k (fun kq v13 w' => ∃ (x13_1 : Int), v13 = .int .i64 x13_1 ∧ Aside0 (spec_l3Names.l0 kq l0 l0 (l0.length : Int) x13_1 = some r) ∧ Aside0 (kq ≤ k) ∧ Drawn0 w w')
  case atStart => exact ⟨(0), tE, H', ⟨Nat.le_refl _⟩, by repeat (first | exact Drawn0.refl _ | apply Drawn0.step)⟩
  case round =>
   clear H'
   try clear p2
   try clear c3
   try clear c3b0
   obtain ⟨x13_1, rfl, HA, HK1, ⟨m1, rfl⟩⟩ := hrel
   cases gk with
   | zero => exact absurd HA.out (by simp [spec_l3Names.l0])
   | succ k1 =>
    have H := HA.out
    clear HA
    simp only [spec_l3Names.l0] at H
    by_cases c4 : x13_1 < (l0.length : Int)
    ·rw [if_pos c4] at H
     have c4b0 : decide (x13_1 < (l0.length : Int)) = true := decide_eq_true c4
     clear c4
     by_cases c5 : 0 ≤ x13_1
     ·rw [if_pos c5] at H
      have c5b0 : decide (0 ≤ x13_1) = true := decide_eq_true c5
      clear c5
      by_cases c6 : x13_1 < (l0.length : Int)
      ·rw [if_pos c6] at H
       have c6b0 : decide (x13_1 < (l0.length : Int)) = true := decide_eq_true c6
       clear c6
       replace H := Option.bind_eq_some_iff.mp H
       obtain ⟨t153, A70, H⟩ := H
       replace H : (if t153 = true then (if x13_1 > 0 then (if 0 ≤ (wrap64 (x13_1 - 1)) then (if (wrap64 (x13_1 - 1)) < (l0.length : Int) then (if ((Op.bytesLess ((rdOf ByteArray.empty l0 (wrap64 (x13_1 - 1))).toList) ((rdOf ByteArray.empty l0 x13_1).toList)) = true) then (spec_l3Names.l0 k1 l0 l0 (l0.length : Int) (wrap64 (x13_1 + 1))) else (some false)) else (none)) else (none)) else (spec_l3Names.l0 k1 l0 l0 (l0.length : Int) (wrap64 (x13_1 + 1)))) else (some false)) = some r := H
       have A7 := Aside0.mk A70
       clear A70
       by_cases c8 : t153 = true
       ·subst c8
        have H1 : (if x13_1 > 0 then (if 0 ≤ (wrap64 (x13_1 - 1)) then (if (wrap64 (x13_1 - 1)) < (l0.length : Int) then (if ((Op.bytesLess ((rdOf ByteArray.empty l0 (wrap64 (x13_1 - 1))).toList) ((rdOf ByteArray.empty l0 x13_1).toList)) = true) then (spec_l3Names.l0 k1 l0 l0 (l0.length : Int) (wrap64 (x13_1 + 1))) else (some false)) else (none)) else (none)) else (spec_l3Names.l0 k1 l0 l0 (l0.length : Int) (wrap64 (x13_1 + 1)))) = some r := by rw [if_pos rfl] at H; exact H
        clear H
        have H := H1
        clear H1
        by_cases c9 : x13_1 > 0
        ·rw [if_pos c9] at H
         have c9b0 : decide (0 < x13_1) = true := decide_eq_true c9
         clear c9
         obtain ⟨ji10, hji10⟩ : ∃ j_ : Int, (wrap64 (x13_1 - 1)) = j_ := ⟨_, rfl⟩
         replace H : (if 0 ≤ (ji10) then (if (ji10) < (l0.length : Int) then (if ((Op.bytesLess ((rdOf ByteArray.empty l0 (ji10)).toList) ((rdOf ByteArray.empty l0 x13_1).toList)) = true) then (spec_l3Names.l0 k1 l0 l0 (l0.length : Int) (wrap64 (x13_1 + 1))) else (some false)) else (none)) else (none)) = some r := by first | (rw [hji10] at H; exact H) | (simp only [hji10] at H ⊢; exact H)
         (try rw [hji10] at A7)
         have hji10w : (IntKind.i64.wrap (x13_1 - 1)) = ji10 := (i64_w _).trans hji10
         by_cases c11 : 0 ≤ (ji10)
         ·rw [if_pos c11] at H
          have c11b0 : decide (0 ≤ (ji10)) = true := decide_eq_true c11
          clear c11
          by_cases c12 : (ji10) < (l0.length : Int)
          ·rw [if_pos c12] at H
           have c12b0 : decide ((ji10) < (l0.length : Int)) = true := decide_eq_true c12
           clear c12
           by_cases c13 : ((Op.bytesLess ((rdOf ByteArray.empty l0 (ji10)).toList) ((rdOf ByteArray.empty l0 x13_1).toList)) = true)
           ·rw [if_pos c13] at H
            have c13b0 : (Op.bytesLess ((rdOf ByteArray.empty l0 (ji10)).toList) ((rdOf ByteArray.empty l0 x13_1).toList)) = true := c13
            clear c13
            have H' := Aside0.mk H
            clear H
            have p152 : 0 ≤ (x13_1 : Int) := of_decide_eq_true hE
            have q152 : x13_1 < (l0.length : Int) := of_decide_eq_true hE
            obtain ⟨ad152, e152, hx152_0⟩ := Kd.at_string HR0.out x13_1 p152 q152
            cases e152
            replace p152 := eq_true p152
            replace q152 := eq_true q152
            go_wp2_with (first | ((with_reducible refine gate_callee (f := 29) rfl ?_); refine goesL_ (some 19) rfl rfl Try.func29 (by kernel_rfl) rfl #[.string (rdOf ByteArray.empty l0 x13_1)] rfl aE ?_; (with_reducible refine (spec_GoodName.calls k1 (rdOf ByteArray.empty l0 x13_1) true _ A7.out).mono ?_); rintro e w' ⟨rfl, ⟨nd, rfl⟩⟩; refine ⟨_, rfl, ?_⟩; have p154 : 0 ≤ ((ji10) : Int) := of_decide_eq_true hE; have q154 : (ji10) < (l0.length : Int) := of_decide_eq_true hE; obtain ⟨ad154, e154, hx154_0⟩ := Kd.at_string HR0.out (ji10) p154 q154; obtain rfl : ad152 = ad154 := (by injection e154); replace p154 := eq_true p154; replace q154 := eq_true q154))
            go_roundg k1
            case measure => have := HK1.out; omega
            case rel => exact ⟨(wrap64 (x13_1 + 1)), tE, H', ⟨by have := HK1.out; omega⟩, by repeat (first | exact Drawn0.refl _ | apply Drawn0.step)⟩
           ·rw [if_neg c13] at H
            have c13b0 : (Op.bytesLess ((rdOf ByteArray.empty l0 (ji10)).toList) ((rdOf ByteArray.empty l0 x13_1).toList)) = false := by simpa using c13
            clear c13
            obtain rfl := Option.some.inj H
            have p152 : 0 ≤ (x13_1 : Int) := of_decide_eq_true hE
            have q152 : x13_1 < (l0.length : Int) := of_decide_eq_true hE
            obtain ⟨ad152, e152, hx152_0⟩ := Kd.at_string HR0.out x13_1 p152 q152
            cases e152
            replace p152 := eq_true p152
            replace q152 := eq_true q152
            go_wp2_with (first | ((with_reducible refine gate_callee (f := 29) rfl ?_); refine goesL_ (some 19) rfl rfl Try.func29 (by kernel_rfl) rfl #[.string (rdOf ByteArray.empty l0 x13_1)] rfl aE ?_; (with_reducible refine (spec_GoodName.calls k1 (rdOf ByteArray.empty l0 x13_1) true _ A7.out).mono ?_); rintro e w' ⟨rfl, ⟨nd, rfl⟩⟩; refine ⟨_, rfl, ?_⟩; have p154 : 0 ≤ ((ji10) : Int) := of_decide_eq_true hE; have q154 : (ji10) < (l0.length : Int) := of_decide_eq_true hE; obtain ⟨ad154, e154, hx154_0⟩ := Kd.at_string HR0.out (ji10) p154 q154; obtain rfl : ad152 = ad154 := (by injection e154); replace p154 := eq_true p154; replace q154 := eq_true q154))
            go_ret
            exact ⟨by first | rfl | (simp; done) | (simp only [← hji10] <;> (first | rfl | simp)) | (simp [*]; done) | exact not_isEmpty _ | exact (not_isEmpty _).symm | exact is_empty _ | exact (is_empty _).symm, by repeat (first | exact Drawn0.refl _ | apply Drawn0.step)⟩
          ·rw [if_neg c12] at H
           exact absurd H (by simp)
         ·rw [if_neg c11] at H
          exact absurd H (by simp)
        ·rw [if_neg c9] at H
         have c9b0 : decide (0 < x13_1) = false := decide_eq_false c9
         clear c9
         have H' := Aside0.mk H
         clear H
         have p152 : 0 ≤ (x13_1 : Int) := of_decide_eq_true hE
         have q152 : x13_1 < (l0.length : Int) := of_decide_eq_true hE
         obtain ⟨ad152, e152, hx152_0⟩ := Kd.at_string HR0.out x13_1 p152 q152
         cases e152
         replace p152 := eq_true p152
         replace q152 := eq_true q152
         go_wp2_with (first | ((with_reducible refine gate_callee (f := 29) rfl ?_); refine goesL_ (some 19) rfl rfl Try.func29 (by kernel_rfl) rfl #[.string (rdOf ByteArray.empty l0 x13_1)] rfl aE ?_; (with_reducible refine (spec_GoodName.calls k1 (rdOf ByteArray.empty l0 x13_1) true _ A7.out).mono ?_); rintro e w' ⟨rfl, ⟨nd, rfl⟩⟩; refine ⟨_, rfl, ?_⟩))
         go_roundg k1
         case measure => have := HK1.out; omega
         case rel => exact ⟨(wrap64 (x13_1 + 1)), tE, H', ⟨by have := HK1.out; omega⟩, by repeat (first | exact Drawn0.refl _ | apply Drawn0.step)⟩
       ·replace c8 := Bool.eq_false_iff.mpr c8
        subst c8
        have H1 : (some false) = some r := by rw [if_neg (show ¬ (false = true) by decide)] at H; exact H
        clear H
        have H := H1
        clear H1
        obtain rfl := Option.some.inj H
        have p152 : 0 ≤ (x13_1 : Int) := of_decide_eq_true hE
        have q152 : x13_1 < (l0.length : Int) := of_decide_eq_true hE
        obtain ⟨ad152, e152, hx152_0⟩ := Kd.at_string HR0.out x13_1 p152 q152
        cases e152
        replace p152 := eq_true p152
        replace q152 := eq_true q152
        go_wp2_with (first | ((with_reducible refine gate_callee (f := 29) rfl ?_); refine goesL_ (some 19) rfl rfl Try.func29 (by kernel_rfl) rfl #[.string (rdOf ByteArray.empty l0 x13_1)] rfl aE ?_; (with_reducible refine (spec_GoodName.calls k1 (rdOf ByteArray.empty l0 x13_1) false _ A7.out).mono ?_); rintro e w' ⟨rfl, ⟨nd, rfl⟩⟩; refine ⟨_, rfl, ?_⟩))
        go_ret
        exact ⟨by first | rfl | (simp; done) | (simp [*]; done) | exact not_isEmpty _ | exact (not_isEmpty _).symm | exact is_empty _ | exact (is_empty _).symm, by repeat (first | exact Drawn0.refl _ | apply Drawn0.step)⟩
      ·rw [if_neg c6] at H
       exact absurd H (by simp)
     ·rw [if_neg c5] at H
      exact absurd H (by simp)
    ·rw [if_neg c4] at H
     have c4b0 : decide (x13_1 < (l0.length : Int)) = false := decide_eq_false c4
     clear c4
     obtain rfl := Option.some.inj H
     go_wp2
     go_ret
     exact ⟨by first | rfl | (simp; done) | (simp [*]; done) | exact not_isEmpty _ | exact (not_isEmpty _).symm | exact is_empty _ | exact (is_empty _).symm, by repeat (first | exact Drawn0.refl _ | apply Drawn0.step)⟩
def spec_l21At.l0 : Nat → ByteArray → List (S63) → Int → Int → Option (Int)
 | 0, _, _, _, _ => none
 | k + 1, x1, x7, x8, x9 => if x9 < x8 then (if 0 ≤ x9 then (if x9 < (x7.length : Int) then (if ((rd_T63 x7 x9).f0).toList = x1.toList then (some x9) else (spec_l21At.l0 k x1 x7 x8 (wrap64 (x9 + 1)))) else (none)) else (none)) else (some (-1))
def spec_l21At.f (k : Nat) (l0 : List (S63)) (a1 : ByteArray) : Option (Int) := spec_l21At.l0 k a1 l0 (l0.length : Int) 0
theorem spec_l21At.mono_l : ∀ k, (∀ y0 y1 y2 y3, LeO (spec_l21At.l0 k y0 y1 y2 y3) (spec_l21At.l0 (k + 1) y0 y1 y2 y3))
 | 0 => fun _ _ _ _ r h => by simp [spec_l21At.l0] at h
 | k + 1 => by
  have ih0 := spec_l21At.mono_l k
  ·intro y0 y1 y2 y3
   unfold spec_l21At.l0
   repeat' first
   | (with_reducible exact ih0 _ _ _ _)
   | (with_reducible exact LeO.refl _)
   | (with_reducible exact LeO.none _)
   | (with_reducible refine LeO.ite ?_ ?_)
   | (with_reducible refine LeO.bind ?_ (fun _ => ?_))
   | exact ih0 _ _ _ _
   | exact LeO.none _
   | refine LeO.ite ?_ ?_
   | refine LeO.bind ?_ (fun _ => ?_)
theorem spec_l21At.mono : ∀ a0 a1 k, LeO (spec_l21At.f k a0 a1) (spec_l21At.f (k + 1) a0 a1) := by
 intro a0 a1 k
 have ih0 := spec_l21At.mono_l k
 unfold spec_l21At.f
 repeat' first
   | (with_reducible exact ih0 _ _ _ _)
   | (with_reducible exact LeO.refl _)
   | (with_reducible exact LeO.none _)
   | (with_reducible refine LeO.ite ?_ ?_)
   | (with_reducible refine LeO.bind ?_ (fun _ => ?_))
   | exact ih0 _ _ _ _
   | exact LeO.none _
   | refine LeO.ite ?_ ?_
   | refine LeO.bind ?_ (fun _ => ?_)
set_option maxHeartbeats 8000000 in
set_option maxRecDepth 100000 in
theorem spec_l21At.calls (k : Nat) (A0 : Option Addr) (c0 : Nat) (l0 : List (S63)) (a1 : ByteArray) (r : Int) (w : World) (hr0 : Kd.C k63 w A0 l0.length l0) (hc0 : l0.length ≤ c0) (h : spec_l21At.f k l0 a1 = some r) :
  Calls Try.prog 31 #[.slice A0 l0.length c0, .string a1] w fun e w' => e = .returned (.int .i64 r) ∧ Below w.heap.size w w' := by
 have hu63 := Try.underlying63
 have HR0 := Aside0.mk hr0
 have HC0 := Aside0.mk hc0
 clear hr0 hc0
 have HB := Aside0.mk (Below.refl w.heap.size w)
 have H : (spec_l21At.l0 k a1 l0 (l0.length : Int) 0) = some r := h
 clear h
 have H' := Aside0.mk H
 clear H
 go_enter Try.func31, Try.ntmps31
 go_wp2
 go_loopg [9] k (fun kq v9 w' => ∃ (x9_1 : Int), v9 = .int .i64 x9_1 ∧ Aside0 (spec_l21At.l0 kq a1 l0 (l0.length : Int) x9_1 = some r) ∧ Aside0 (kq ≤ k) ∧ Aside0 (Below w.heap.size w w'))
 case atStart => exact ⟨(0), tE, H', ⟨Nat.le_refl _⟩, ⟨by repeat (first | (with_reducible first | exact HB.out | apply below_alloc | apply pw_below_drewN | apply below_drew1) | exact HB.out)⟩⟩
 case round =>
  clear H'
  try clear p2
  obtain ⟨x9_1, rfl, HA, HK1, HB⟩ := hrel
  cases gk with
  | zero => exact absurd HA.out (by simp [spec_l21At.l0])
  | succ k1 =>
   have H := HA.out
   clear HA
   simp only [spec_l21At.l0] at H
   by_cases c3 : x9_1 < (l0.length : Int)
   ·rw [if_pos c3] at H
    have c3b0 : decide (x9_1 < (l0.length : Int)) = true := decide_eq_true c3
    clear c3
    by_cases c4 : 0 ≤ x9_1
    ·rw [if_pos c4] at H
     have c4b0 : decide (0 ≤ x9_1) = true := decide_eq_true c4
     clear c4
     by_cases c5 : x9_1 < (l0.length : Int)
     ·rw [if_pos c5] at H
      have c5b0 : decide (x9_1 < (l0.length : Int)) = true := decide_eq_true c5
      clear c5
      by_cases c6 : ((rd_T63 l0 x9_1).f0).toList = a1.toList
      ·rw [if_pos c6] at H
       have c6b0 : (((rd_T63 l0 x9_1).f0).toList == a1.toList) = true := beq_iff_eq.mpr c6
       have c6b1 : (((rd_T63 l0 x9_1).f0).toList != a1.toList) = false := bne_eq_false_iff_eq.mpr c6
       clear c6
       obtain rfl := Option.some.inj H
       have p155 : 0 ≤ (x9_1 : Int) := of_decide_eq_true hE
       have q155 : x9_1 < (l0.length : Int) := of_decide_eq_true hE
       obtain ⟨ad155, A155_1, c155_1, A155_2, c155_2, e155, hx155_0, hx155_1, hx155_2, hl155_1, hi155_1, hl155_2, hi155_2⟩ := at_T63 HR0.out x9_1 p155 q155
       cases e155
       replace hx155_0 := (HB.out.cell (World.block_lt_of_cell? w _ hx155_0)).trans hx155_0
       replace hx155_1 := (HB.out.cell (World.block_lt_of_cell? w _ hx155_1)).trans hx155_1
       replace hx155_2 := (HB.out.cell (World.block_lt_of_cell? w _ hx155_2)).trans hx155_2
       have HR155_1 := Aside0.mk hi155_1
       have HC155_1 := Aside0.mk hl155_1
       clear hi155_1 hl155_1
       have HR155_2 := Aside0.mk hi155_2
       have HC155_2 := Aside0.mk hl155_2
       clear hi155_2 hl155_2
       replace p155 := eq_true p155
       replace q155 := eq_true q155
       go_wp2_with (first | ((with_reducible refine gate_dst (N := 6) rfl ?_); refine box_event rfl (N := 6) rfl (cs := #[.string (⟨#[]⟩ : ByteArray), .slice none 0 0, .slice none 0 0]) (t := 63) sE ?_; intro gb156 hg w7 hbox hb; have BK156 := Aside0.mk hbox; have GW156 := gS w hg (lU); have GE156 := gS w hg (lU); replace HB := bH (lU) hb; clear hb hbox hg; have hcz8_0 := cz BK156 0 (.string (⟨#[]⟩ : ByteArray)); have hcz8_1 := cz BK156 1 (.slice none 0 0); have hcz8_2 := cz BK156 2 (.slice none 0 0); have hfz8_0 := fz BK156 0; have hfz8_1 := fz BK156 1; have hfz8_2 := fz BK156 2) | ((with_reducible refine gate_store (t := 63) (p := 6) rfl ?_); refine store_event (t := 63) (p := 6) (v := ?vo_w9) (w1 := (((w7.setCell ⟨gb156, 0, none⟩ (.string ((rd_T63 l0 x9_1).f0))).setCell ⟨gb156, 1, none⟩ (.slice A155_1 ((rd_T63 l0 x9_1).f1).length c155_1)).setCell ⟨gb156, 2, none⟩ (.slice A155_2 ((rd_T63 l0 x9_1).f2).length c155_2))) ?hg ?ho ?hn ?hr ?_; (case ho => rfl); (case hg => rfl); (case hn => rfl); (case hr => first | (go_simp; done) | (go_simp; rfl) | (have hq0_ := (blk_cell BK156.out 0).trans (show _ = some _ from rfl); have hf0_ := blk_frozen BK156.out 0; have hq1_ := (blk_cell BK156.out 1).trans (show _ = some _ from rfl); have hf1_ := blk_frozen BK156.out 1; have hq2_ := (blk_cell BK156.out 2).trans (show _ = some _ from rfl); have hf2_ := blk_frozen BK156.out 2; first | (go_simp; done) | (go_simp; rfl))); intro w9 hw; replace BK156 : Aside0 (w9.heap[gb156]? = some (.cells #[.string ((rd_T63 l0 x9_1).f0), .slice A155_1 ((rd_T63 l0 x9_1).f1).length c155_1, .slice A155_2 ((rd_T63 l0 x9_1).f2).length c155_2] 63 (0, 0))) := ⟨(by rw [hw]; exact (by refine bU ?_; refine blk_put (cs := #[.string ((rd_T63 l0 x9_1).f0), .slice A155_1 ((rd_T63 l0 x9_1).f1).length c155_1, .slice none 0 0]) ?_ 2 _ rfl; refine bU ?_; refine blk_put (cs := #[.string ((rd_T63 l0 x9_1).f0), .slice none 0 0, .slice none 0 0]) ?_ 1 _ rfl; refine bU ?_; refine blk_put (cs := #[.string (⟨#[]⟩ : ByteArray), .slice none 0 0, .slice none 0 0]) ?_ 0 _ rfl; refine bU ?_; exact BK156.out))⟩; replace HB : Aside0 (Below w.heap.size w w9) := ⟨(by rw [hw]; exact (lV1 GE156))⟩; clear hw; have hcz10_0 := cz BK156 0 (.string ((rd_T63 l0 x9_1).f0)); have hcz10_1 := cz BK156 1 (.slice A155_1 ((rd_T63 l0 x9_1).f1).length c155_1); have hcz10_2 := cz BK156 2 (.slice A155_2 ((rd_T63 l0 x9_1).f2).length c155_2); have hfz10_0 := fz BK156 0; have hfz10_1 := fz BK156 1; have hfz10_2 := fz BK156 2))
       go_ret
       exact ⟨eE, lV1 GE156⟩
      ·rw [if_neg c6] at H
       have c6b0 : (((rd_T63 l0 x9_1).f0).toList == a1.toList) = false := beq_eq_false_iff_ne.mpr c6
       have c6b1 : (((rd_T63 l0 x9_1).f0).toList != a1.toList) = true := bne_iff_ne.mpr c6
       have H' := Aside0.mk H
       clear H
       have p155 : 0 ≤ (x9_1 : Int) := of_decide_eq_true hE
       have q155 : x9_1 < (l0.length : Int) := of_decide_eq_true hE
       obtain ⟨ad155, A155_1, c155_1, A155_2, c155_2, e155, hx155_0, hx155_1, hx155_2, hl155_1, hi155_1, hl155_2, hi155_2⟩ := at_T63 HR0.out x9_1 p155 q155
       cases e155
       replace hx155_0 := (HB.out.cell (World.block_lt_of_cell? w _ hx155_0)).trans hx155_0
       replace hx155_1 := (HB.out.cell (World.block_lt_of_cell? w _ hx155_1)).trans hx155_1
       replace hx155_2 := (HB.out.cell (World.block_lt_of_cell? w _ hx155_2)).trans hx155_2
       have HR155_1 := Aside0.mk hi155_1
       have HC155_1 := Aside0.mk hl155_1
       clear hi155_1 hl155_1
       have HR155_2 := Aside0.mk hi155_2
       have HC155_2 := Aside0.mk hl155_2
       clear hi155_2 hl155_2
       replace p155 := eq_true p155
       replace q155 := eq_true q155
       go_wp2_with (first | ((with_reducible refine gate_dst (N := 6) rfl ?_); refine box_event rfl (N := 6) rfl (cs := #[.string (⟨#[]⟩ : ByteArray), .slice none 0 0, .slice none 0 0]) (t := 63) sE ?_; intro gb156 hg w11 hbox hb; have BK156 := Aside0.mk hbox; have GW156 := gS w hg (lU); have GE156 := gS w hg (lU); replace HB := bH (lU) hb; clear hb hbox hg; have hcz12_0 := cz BK156 0 (.string (⟨#[]⟩ : ByteArray)); have hcz12_1 := cz BK156 1 (.slice none 0 0); have hcz12_2 := cz BK156 2 (.slice none 0 0); have hfz12_0 := fz BK156 0; have hfz12_1 := fz BK156 1; have hfz12_2 := fz BK156 2) | ((with_reducible refine gate_store (t := 63) (p := 6) rfl ?_); refine store_event (t := 63) (p := 6) (v := ?vo_w13) (w1 := (((w11.setCell ⟨gb156, 0, none⟩ (.string ((rd_T63 l0 x9_1).f0))).setCell ⟨gb156, 1, none⟩ (.slice A155_1 ((rd_T63 l0 x9_1).f1).length c155_1)).setCell ⟨gb156, 2, none⟩ (.slice A155_2 ((rd_T63 l0 x9_1).f2).length c155_2))) ?hg ?ho ?hn ?hr ?_; (case ho => rfl); (case hg => rfl); (case hn => rfl); (case hr => first | (go_simp; done) | (go_simp; rfl) | (have hq0_ := (blk_cell BK156.out 0).trans (show _ = some _ from rfl); have hf0_ := blk_frozen BK156.out 0; have hq1_ := (blk_cell BK156.out 1).trans (show _ = some _ from rfl); have hf1_ := blk_frozen BK156.out 1; have hq2_ := (blk_cell BK156.out 2).trans (show _ = some _ from rfl); have hf2_ := blk_frozen BK156.out 2; first | (go_simp; done) | (go_simp; rfl))); intro w13 hw; replace BK156 : Aside0 (w13.heap[gb156]? = some (.cells #[.string ((rd_T63 l0 x9_1).f0), .slice A155_1 ((rd_T63 l0 x9_1).f1).length c155_1, .slice A155_2 ((rd_T63 l0 x9_1).f2).length c155_2] 63 (0, 0))) := ⟨(by rw [hw]; exact (by refine bU ?_; refine blk_put (cs := #[.string ((rd_T63 l0 x9_1).f0), .slice A155_1 ((rd_T63 l0 x9_1).f1).length c155_1, .slice none 0 0]) ?_ 2 _ rfl; refine bU ?_; refine blk_put (cs := #[.string ((rd_T63 l0 x9_1).f0), .slice none 0 0, .slice none 0 0]) ?_ 1 _ rfl; refine bU ?_; refine blk_put (cs := #[.string (⟨#[]⟩ : ByteArray), .slice none 0 0, .slice none 0 0]) ?_ 0 _ rfl; refine bU ?_; exact BK156.out))⟩; replace HB : Aside0 (Below w.heap.size w w13) := ⟨(by rw [hw]; exact (lV1 GE156))⟩; clear hw; have hcz14_0 := cz BK156 0 (.string ((rd_T63 l0 x9_1).f0)); have hcz14_1 := cz BK156 1 (.slice A155_1 ((rd_T63 l0 x9_1).f1).length c155_1); have hcz14_2 := cz BK156 2 (.slice A155_2 ((rd_T63 l0 x9_1).f2).length c155_2); have hfz14_0 := fz BK156 0; have hfz14_1 := fz BK156 1; have hfz14_2 := fz BK156 2))
       go_roundg k1
       case measure => have := HK1.out; omega
       case rel => exact ⟨(wrap64 (x9_1 + 1)), tE, H', ⟨by have := HK1.out; omega⟩, ⟨by repeat (first | (with_reducible first | exact HB.out | apply below_alloc | apply pw_below_drewN | apply below_drew1 | refine below_set ?_ GE156.out) | exact HB.out)⟩⟩
     ·rw [if_neg c5] at H
      exact absurd H (by simp)
    ·rw [if_neg c4] at H
     exact absurd H (by simp)
   ·rw [if_neg c3] at H
    have c3b0 : decide (x9_1 < (l0.length : Int)) = false := decide_eq_false c3
    clear c3
    obtain rfl := Option.some.inj H
    go_wp2
    go_ret
    exact ⟨eE, lU⟩
def spec_l1Has.l0 : Nat → ByteArray → List ByteArray → Int → Int → Option (Bool)
 | 0, _, _, _, _ => none
 | k + 1, x1, x7, x8, x9 => if x9 < x8 then (if 0 ≤ x9 then (if x9 < (x7.length : Int) then (if (rdOf ByteArray.empty x7 x9).toList = x1.toList then (some true) else (spec_l1Has.l0 k x1 x7 x8 (wrap64 (x9 + 1)))) else (none)) else (none)) else (some false)
def spec_l1Has.f (k : Nat) (l0 : List ByteArray) (a1 : ByteArray) : Option (Bool) := spec_l1Has.l0 k a1 l0 (l0.length : Int) 0
theorem spec_l1Has.mono_l : ∀ k, (∀ y0 y1 y2 y3, LeO (spec_l1Has.l0 k y0 y1 y2 y3) (spec_l1Has.l0 (k + 1) y0 y1 y2 y3))
 | 0 => fun _ _ _ _ r h => by simp [spec_l1Has.l0] at h
 | k + 1 => by
  have ih0 := spec_l1Has.mono_l k
  ·intro y0 y1 y2 y3
   unfold spec_l1Has.l0
   repeat' first
   | (with_reducible exact ih0 _ _ _ _)
   | (with_reducible exact LeO.refl _)
   | (with_reducible exact LeO.none _)
   | (with_reducible refine LeO.ite ?_ ?_)
   | (with_reducible refine LeO.bind ?_ (fun _ => ?_))
   | exact ih0 _ _ _ _
   | exact LeO.none _
   | refine LeO.ite ?_ ?_
   | refine LeO.bind ?_ (fun _ => ?_)
theorem spec_l1Has.mono : ∀ a0 a1 k, LeO (spec_l1Has.f k a0 a1) (spec_l1Has.f (k + 1) a0 a1) := by
 intro a0 a1 k
 have ih0 := spec_l1Has.mono_l k
 unfold spec_l1Has.f
 repeat' first
   | (with_reducible exact ih0 _ _ _ _)
   | (with_reducible exact LeO.refl _)
   | (with_reducible exact LeO.none _)
   | (with_reducible refine LeO.ite ?_ ?_)
   | (with_reducible refine LeO.bind ?_ (fun _ => ?_))
   | exact ih0 _ _ _ _
   | exact LeO.none _
   | refine LeO.ite ?_ ?_
   | refine LeO.bind ?_ (fun _ => ?_)
set_option maxHeartbeats 8000000 in
set_option maxRecDepth 100000 in
theorem spec_l1Has.calls (k : Nat) (A0 : Option Addr) (c0 : Nat) (l0 : List ByteArray) (a1 : ByteArray) (r : Bool) (w : World) (hr0 : Kd.C Kd.string w A0 l0.length l0) (hc0 : l0.length ≤ c0) (h : spec_l1Has.f k l0 a1 = some r) :
  Calls Try.prog 70 #[.slice A0 l0.length c0, .string a1] w fun e w' => e = .returned (.bool r) ∧ Drawn0 w w' := by
 have HR0 := Aside0.mk hr0
 have HC0 := Aside0.mk hc0
 clear hr0 hc0
 have H : (spec_l1Has.l0 k a1 l0 (l0.length : Int) 0) = some r := h
 clear h
 have H' := Aside0.mk H
 clear H
 go_enter Try.func70, Try.ntmps70
 go_wp2
 go_loopg [9] k (fun kq v9 w' => ∃ (x9_1 : Int), v9 = .int .i64 x9_1 ∧ Aside0 (spec_l1Has.l0 kq a1 l0 (l0.length : Int) x9_1 = some r) ∧ Aside0 (kq ≤ k) ∧ Drawn0 w w')
 case atStart => exact ⟨(0), tE, H', ⟨Nat.le_refl _⟩, by repeat (first | exact Drawn0.refl _ | apply Drawn0.step)⟩
 case round =>
  clear H'
  try clear p2
  obtain ⟨x9_1, rfl, HA, HK1, ⟨m1, rfl⟩⟩ := hrel
  cases gk with
  | zero => exact absurd HA.out (by simp [spec_l1Has.l0])
  | succ k1 =>
   have H := HA.out
   clear HA
   simp only [spec_l1Has.l0] at H
   by_cases c3 : x9_1 < (l0.length : Int)
   ·rw [if_pos c3] at H
    have c3b0 : decide (x9_1 < (l0.length : Int)) = true := decide_eq_true c3
    clear c3
    by_cases c4 : 0 ≤ x9_1
    ·rw [if_pos c4] at H
     have c4b0 : decide (0 ≤ x9_1) = true := decide_eq_true c4
     clear c4
     by_cases c5 : x9_1 < (l0.length : Int)
     ·rw [if_pos c5] at H
      have c5b0 : decide (x9_1 < (l0.length : Int)) = true := decide_eq_true c5
      clear c5
      by_cases c6 : (rdOf ByteArray.empty l0 x9_1).toList = a1.toList
      ·rw [if_pos c6] at H
       have c6b0 : ((rdOf ByteArray.empty l0 x9_1).toList == a1.toList) = true := beq_iff_eq.mpr c6
       have c6b1 : ((rdOf ByteArray.empty l0 x9_1).toList != a1.toList) = false := bne_eq_false_iff_eq.mpr c6
       clear c6
       obtain rfl := Option.some.inj H
       have p157 : 0 ≤ (x9_1 : Int) := of_decide_eq_true hE
       have q157 : x9_1 < (l0.length : Int) := of_decide_eq_true hE
       obtain ⟨ad157, e157, hx157_0⟩ := Kd.at_string HR0.out x9_1 p157 q157
       cases e157
       replace p157 := eq_true p157
       replace q157 := eq_true q157
       go_wp2
       go_ret
       exact ⟨by first | rfl | (simp; done) | (simp [*]; done) | exact not_isEmpty _ | exact (not_isEmpty _).symm | exact is_empty _ | exact (is_empty _).symm, by repeat (first | exact Drawn0.refl _ | apply Drawn0.step)⟩
      ·rw [if_neg c6] at H
       have c6b0 : ((rdOf ByteArray.empty l0 x9_1).toList == a1.toList) = false := beq_eq_false_iff_ne.mpr c6
       have c6b1 : ((rdOf ByteArray.empty l0 x9_1).toList != a1.toList) = true := bne_iff_ne.mpr c6
       have H' := Aside0.mk H
       clear H
       have p157 : 0 ≤ (x9_1 : Int) := of_decide_eq_true hE
       have q157 : x9_1 < (l0.length : Int) := of_decide_eq_true hE
       obtain ⟨ad157, e157, hx157_0⟩ := Kd.at_string HR0.out x9_1 p157 q157
       cases e157
       replace p157 := eq_true p157
       replace q157 := eq_true q157
       go_wp2
       go_roundg k1
       case measure => have := HK1.out; omega
       case rel => exact ⟨(wrap64 (x9_1 + 1)), tE, H', ⟨by have := HK1.out; omega⟩, by repeat (first | exact Drawn0.refl _ | apply Drawn0.step)⟩
     ·rw [if_neg c5] at H
      exact absurd H (by simp)
    ·rw [if_neg c4] at H
     exact absurd H (by simp)
   ·rw [if_neg c3] at H
    have c3b0 : decide (x9_1 < (l0.length : Int)) = false := decide_eq_false c3
    clear c3
    obtain rfl := Option.some.inj H
    go_wp2
    go_ret
    exact ⟨by first | rfl | (simp; done) | (simp [*]; done) | exact not_isEmpty _ | exact (not_isEmpty _).symm | exact is_empty _ | exact (is_empty _).symm, by repeat (first | exact Drawn0.refl _ | apply Drawn0.step)⟩
end Go.Proofs.Ytifejplilaefiaa.PFnExactMakeOrder
namespace Go.Proofs.Ytifejplilaefiaa.PFnExactMakeOrder
open Go.RowKit Go.Proofs.YtifejplilaefiaaW.PrintWords Go.Proofs.YtifejplilaefiaaW.PrintLast Go.Proofs.YtifejplilaefiaaW.PrintMore
attribute [local go_sem] max2_int min2_int max_two min_two max_three min_three max_four min_four   -- for this text's walks alone
set_option linter.unusedVariables false
set_option linter.unusedSimpArgs false
mutual
def spec_l21Order.l0 : Nat → List (S63) → List ByteArray → Option (List ByteArray)
 | 0, _, _ => none
 | k + 1, x0, x3 => spec_l21Order.l1 k x0 x3 false x0 (x0.length : Int) 0
def spec_l21Order.l1 : Nat → List (S63) → List ByteArray → Bool → List (S63) → Int → Int → Option (List ByteArray)
 | 0, _, _, _, _, _, _ => none
 | k + 1, x0, x3, x4, x10, x11, x12 => if x12 < x11 then (if 0 ≤ x12 then (if x12 < (x10.length : Int) then ((spec_l1Has.f k x3 ((rd_T63 x10 x12).f0)).bind fun t160 => (spec_l21Order.l2 k x0 x3 x4 (!t160) x10 x11 x12 ((rd_T63 x10 x12).f1) (((rd_T63 x10 x12).f1).length : Int) 0 ((rd_T63 x10 x12).f0) ((rd_T63 x10 x12).f1) ((rd_T63 x10 x12).f2))) else (none)) else (none)) else (if x4 = true then (spec_l21Order.l0 k x0 x3) else (some x3))
def spec_l21Order.l2 : Nat → List (S63) → List ByteArray → Bool → Bool → List (S63) → Int → Int → List ByteArray → Int → Int → ByteArray → List ByteArray → List Int → Option (List ByteArray)
 | 0, _, _, _, _, _, _, _, _, _, _, _, _, _ => none
 | k + 1, x0, x3, x4, x7, x10, x11, x12, x22, x23, x24, x160000, x160001, x160002 => if x24 < x23 then (if 0 ≤ x24 then (if x24 < (x22.length : Int) then (if x7 = true then ((spec_l1Has.f k x3 (rdOf ByteArray.empty x22 x24)).bind fun t162 => (spec_l21Order.l2 k x0 x3 x4 t162 x10 x11 x12 x22 x23 (wrap64 (x24 + 1)) x160000 x160001 x160002)) else (spec_l21Order.l2 k x0 x3 x4 false x10 x11 x12 x22 x23 (wrap64 (x24 + 1)) x160000 x160001 x160002)) else (none)) else (none)) else (if x7 = true then (if x3.length < 8796093022208 then (spec_l21Order.l0 k x0 (x3 ++ [x160000])) else (none)) else (spec_l21Order.l1 k x0 x3 x4 x10 x11 (wrap64 (x12 + 1))))
end
def spec_l21Order.f (k : Nat) (l0 : List (S63)) : Option (List ByteArray) := spec_l21Order.l0 k l0 ([] : List ByteArray)
theorem spec_l21Order.mono_l : ∀ k, (∀ y0 y1, LeO (spec_l21Order.l0 k y0 y1) (spec_l21Order.l0 (k + 1) y0 y1)) ∧ (∀ y0 y1 y2 y3 y4 y5, LeO (spec_l21Order.l1 k y0 y1 y2 y3 y4 y5) (spec_l21Order.l1 (k + 1) y0 y1 y2 y3 y4 y5)) ∧ (∀ y0 y1 y2 y3 y4 y5 y6 y7 y8 y9 y10 y11 y12, LeO (spec_l21Order.l2 k y0 y1 y2 y3 y4 y5 y6 y7 y8 y9 y10 y11 y12) (spec_l21Order.l2 (k + 1) y0 y1 y2 y3 y4 y5 y6 y7 y8 y9 y10 y11 y12))
 | 0 => ⟨fun _ _ r h => by simp [spec_l21Order.l0] at h, fun _ _ _ _ _ _ r h => by simp [spec_l21Order.l1] at h, fun _ _ _ _ _ _ _ _ _ _ _ _ _ r h => by simp [spec_l21Order.l2] at h⟩
 | k + 1 => by
  obtain ⟨ih0, ih1, ih2⟩ := spec_l21Order.mono_l k
  refine ⟨?_, ?_, ?_⟩
  ·intro y0 y1
   unfold spec_l21Order.l0
   repeat' first
   | (with_reducible exact ih0 _ _)
   | (with_reducible exact ih1 _ _ _ _ _ _)
   | (with_reducible exact ih2 _ _ _ _ _ _ _ _ _ _ _ _ _)
   | (with_reducible exact spec_l1Has.mono _ _ _)
   | (with_reducible exact LeO.refl _)
   | (with_reducible exact LeO.none _)
   | (with_reducible refine LeO.ite ?_ ?_)
   | (with_reducible refine LeO.bind ?_ (fun _ => ?_))
   | exact ih0 _ _
   | exact ih1 _ _ _ _ _ _
   | exact ih2 _ _ _ _ _ _ _ _ _ _ _ _ _
   | exact spec_l1Has.mono _ _ _
   | exact LeO.none _
   | refine LeO.ite ?_ ?_
   | refine LeO.bind ?_ (fun _ => ?_)
  ·intro y0 y1 y2 y3 y4 y5
   unfold spec_l21Order.l1
   repeat' first
   | (with_reducible exact ih0 _ _)
   | (with_reducible exact ih1 _ _ _ _ _ _)
   | (with_reducible exact ih2 _ _ _ _ _ _ _ _ _ _ _ _ _)
   | (with_reducible exact spec_l1Has.mono _ _ _)
   | (with_reducible exact LeO.refl _)
   | (with_reducible exact LeO.none _)
   | (with_reducible refine LeO.ite ?_ ?_)
   | (with_reducible refine LeO.bind ?_ (fun _ => ?_))
   | exact ih0 _ _
   | exact ih1 _ _ _ _ _ _
   | exact ih2 _ _ _ _ _ _ _ _ _ _ _ _ _
   | exact spec_l1Has.mono _ _ _
   | exact LeO.none _
   | refine LeO.ite ?_ ?_
   | refine LeO.bind ?_ (fun _ => ?_)
  ·intro y0 y1 y2 y3 y4 y5 y6 y7 y8 y9 y10 y11 y12
   unfold spec_l21Order.l2
   repeat' first
   | (with_reducible exact ih0 _ _)
   | (with_reducible exact ih1 _ _ _ _ _ _)
   | (with_reducible exact ih2 _ _ _ _ _ _ _ _ _ _ _ _ _)
   | (with_reducible exact spec_l1Has.mono _ _ _)
   | (with_reducible exact LeO.refl _)
   | (with_reducible exact LeO.none _)
   | (with_reducible refine LeO.ite ?_ ?_)
   | (with_reducible refine LeO.bind ?_ (fun _ => ?_))
   | exact ih0 _ _
   | exact ih1 _ _ _ _ _ _
   | exact ih2 _ _ _ _ _ _ _ _ _ _ _ _ _
   | exact spec_l1Has.mono _ _ _
   | exact LeO.none _
   | refine LeO.ite ?_ ?_
   | refine LeO.bind ?_ (fun _ => ?_)
theorem spec_l21Order.mono : ∀ a0 k, LeO (spec_l21Order.f k a0) (spec_l21Order.f (k + 1) a0) := by
 intro a0 k
 obtain ⟨ih0, ih1, ih2⟩ := spec_l21Order.mono_l k
 unfold spec_l21Order.f
 repeat' first
   | (with_reducible exact ih0 _ _)
   | (with_reducible exact ih1 _ _ _ _ _ _)
   | (with_reducible exact ih2 _ _ _ _ _ _ _ _ _ _ _ _ _)
   | (with_reducible exact spec_l1Has.mono _ _ _)
   | (with_reducible exact LeO.refl _)
   | (with_reducible exact LeO.none _)
   | (with_reducible refine LeO.ite ?_ ?_)
   | (with_reducible refine LeO.bind ?_ (fun _ => ?_))
   | exact ih0 _ _
   | exact ih1 _ _ _ _ _ _
   | exact ih2 _ _ _ _ _ _ _ _ _ _ _ _ _
   | exact spec_l1Has.mono _ _ _
   | exact LeO.none _
   | refine LeO.ite ?_ ?_
   | refine LeO.bind ?_ (fun _ => ?_)
set_option maxHeartbeats 8000000 in
set_option maxRecDepth 100000 in
theorem spec_l21Order.calls (k : Nat) (A0 : Option Addr) (c0 : Nat) (l0 : List (S63)) (r : List ByteArray) (w : World) (hr0 : Kd.C k63 w A0 l0.length l0) (hc0 : l0.length ≤ c0) (h : spec_l21Order.f k l0 = some r) :
  Calls Try.prog 32 #[.slice A0 l0.length c0] w fun e w' => ∃ v0_ : Value, e = .returned (v0_) ∧ Kd.R Kd.string 9 w' w.heap.size (fun _ => True) v0_ r ∧ Below w.heap.size w w' := by
 have hu63 := Try.underlying63
 have HR0 := Aside0.mk hr0
 have HC0 := Aside0.mk hc0
 clear hr0 hc0
 have HB := Aside0.mk (Below.refl w.heap.size w)
 have H : (spec_l21Order.l0 k l0 ([] : List ByteArray)) = some r := h
 clear h
 have H' := Aside0.mk H
 clear H
 go_enter Try.func32, Try.ntmps32
 go_wp2
 go_loopg [3] k (fun kq v3 w' => ∃ (x3_1 : List ByteArray), Aside0 (spec_l21Order.l0 kq l0 x3_1 = some r) ∧ Aside0 (kq ≤ k) ∧ Aside0 (Kd.R Kd.string 9 w' w.heap.size (fun _ => True) v3 x3_1) ∧ Aside0 (Below w.heap.size w w'))
 case atStart => exact ⟨(([] : List ByteArray)), H', ⟨Nat.le_refl _⟩, ⟨by first | exact Kd.R_nil _ _ _ _ _ | exact Kd.N_nil _ _ _ _ _ | exact Kd.V_nil _ _ _ _ _ | exact Kd.Q_nil _ _ _ _ _ | exact Kd.S_nil _ _ _ _ _⟩, ⟨by repeat (first | (with_reducible first | exact HB.out | apply below_alloc | apply pw_below_drewN | apply below_drew1) | exact HB.out)⟩⟩
 case round =>
  clear H'
  obtain ⟨x3_1, HA, HK1, HO_3, HB⟩ := hrel
  cases gk with
  | zero => exact absurd HA.out (by simp [spec_l21Order.l0])
  | succ k1 =>
   have H := HA.out
   clear HA
   simp only [spec_l21Order.l0] at H
   have H' := Aside0.mk H
   clear H
   go_wp2
   go_loopg [3, 4, 12] k1 (fun kq v3 v4 v12 w' => ∃ (x3_2 : List ByteArray) (x4_2 : Bool) (x12_2 : Int), v4 = .bool x4_2 ∧ v12 = .int .i64 x12_2 ∧ Aside0 (spec_l21Order.l1 kq l0 x3_2 x4_2 l0 (l0.length : Int) x12_2 = some r) ∧ Aside0 (kq ≤ k1) ∧ Aside0 (Kd.R Kd.string 9 w' w.heap.size (fun _ => True) v3 x3_2) ∧ Aside0 (Below w.heap.size w w'))
   case atStart => exact ⟨(x3_1), (false), (0), tE, tE, H', ⟨Nat.le_refl _⟩, ⟨by (with_reducible repeat (first | apply Kd.R_alloc | apply Kd.R_drewN | apply Kd.R_drew)); exact HO_3.out⟩, ⟨by repeat (first | (with_reducible first | exact HB.out | apply below_alloc | apply pw_below_drewN | apply below_drew1) | exact HB.out)⟩⟩
   case round =>
    clear H'
    obtain ⟨x3_2, x4_2, x12_2, rfl, rfl, HA, HK2, HO_3, HB⟩ := hrel
    cases gk with
    | zero => exact absurd HA.out (by simp [spec_l21Order.l1])
    | succ k2 =>
     have H := HA.out
     clear HA
     simp only [spec_l21Order.l1] at H
     by_cases c2 : x12_2 < (l0.length : Int)
     ·rw [if_pos c2] at H
      have c2b0 : decide (x12_2 < (l0.length : Int)) = true := decide_eq_true c2
      clear c2
      by_cases c3 : 0 ≤ x12_2
      ·rw [if_pos c3] at H
       have c3b0 : decide (0 ≤ x12_2) = true := decide_eq_true c3
       clear c3
       by_cases c4 : x12_2 < (l0.length : Int)
       ·rw [if_pos c4] at H
        have c4b0 : decide (x12_2 < (l0.length : Int)) = true := decide_eq_true c4
        clear c4
        replace H := Option.bind_eq_some_iff.mp H
        obtain ⟨t160, A50, H⟩ := H
        replace H : (spec_l21Order.l2 k2 l0 x3_2 x4_2 (!t160) l0 (l0.length : Int) x12_2 ((rd_T63 l0 x12_2).f1) (((rd_T63 l0 x12_2).f1).length : Int) 0 ((rd_T63 l0 x12_2).f0) ((rd_T63 l0 x12_2).f1) ((rd_T63 l0 x12_2).f2)) = some r := H
        have A5 := Aside0.mk A50
        clear A50
        have H' := Aside0.mk H
        clear H
        have p158 : 0 ≤ (x12_2 : Int) := of_decide_eq_true hE
        have q158 : x12_2 < (l0.length : Int) := of_decide_eq_true hE
        obtain ⟨ad158, A158_1, c158_1, A158_2, c158_2, e158, hx158_0, hx158_1, hx158_2, hl158_1, hi158_1, hl158_2, hi158_2⟩ := at_T63 HR0.out x12_2 p158 q158
        cases e158
        replace hx158_0 := (HB.out.cell (World.block_lt_of_cell? w _ hx158_0)).trans hx158_0
        replace hx158_1 := (HB.out.cell (World.block_lt_of_cell? w _ hx158_1)).trans hx158_1
        replace hx158_2 := (HB.out.cell (World.block_lt_of_cell? w _ hx158_2)).trans hx158_2
        have HR158_1 := Aside0.mk hi158_1
        have HC158_1 := Aside0.mk hl158_1
        clear hi158_1 hl158_1
        have HR158_2 := Aside0.mk hi158_2
        have HC158_2 := Aside0.mk hl158_2
        clear hi158_2 hl158_2
        replace p158 := eq_true p158
        replace q158 := eq_true q158
        go_wp2_with (first | ((with_reducible refine gate_dst (N := 6) rfl ?_); refine box_event rfl (N := 6) rfl (cs := #[.string (⟨#[]⟩ : ByteArray), .slice none 0 0, .slice none 0 0]) (t := 63) sE ?_; intro gb159 hg w6 hbox hb; replace HO_3 := Aside0.mk (Kd.R_below (rU HO_3.out) hb); have BK159 := Aside0.mk hbox; have GW159 := gS w hg (lU); have GE159 := gS w hg (lU); replace HB := bH (lU) hb; clear hb hbox hg; have hcz7_0 := cz BK159 0 (.string (⟨#[]⟩ : ByteArray)); have hcz7_1 := cz BK159 1 (.slice none 0 0); have hcz7_2 := cz BK159 2 (.slice none 0 0); have hfz7_0 := fz BK159 0; have hfz7_1 := fz BK159 1; have hfz7_2 := fz BK159 2) | ((with_reducible refine gate_store (t := 63) (p := 6) rfl ?_); refine store_event (t := 63) (p := 6) (v := ?vo_w8) (w1 := (((w6.setCell ⟨gb159, 0, none⟩ (.string ((rd_T63 l0 x12_2).f0))).setCell ⟨gb159, 1, none⟩ (.slice A158_1 ((rd_T63 l0 x12_2).f1).length c158_1)).setCell ⟨gb159, 2, none⟩ (.slice A158_2 ((rd_T63 l0 x12_2).f2).length c158_2))) ?hg ?ho ?hn ?hr ?_; (case ho => rfl); (case hg => rfl); (case hn => rfl); (case hr => first | (go_simp; done) | (go_simp; rfl) | (have hq0_ := (blk_cell BK159.out 0).trans (show _ = some _ from rfl); have hf0_ := blk_frozen BK159.out 0; have hq1_ := (blk_cell BK159.out 1).trans (show _ = some _ from rfl); have hf1_ := blk_frozen BK159.out 1; have hq2_ := (blk_cell BK159.out 2).trans (show _ = some _ from rfl); have hf2_ := blk_frozen BK159.out 2; first | (go_simp; done) | (go_simp; rfl))); intro w8 hw; replace HO_3 : Aside0 (Kd.R Kd.string 9 w8 w.heap.size (fun _ => True) u3 x3_2) := ⟨(by rw [hw]; exact (by (with_reducible repeat (first | apply Kd.R_alloc | apply Kd.R_drewN | apply Kd.R_drew)); exact Kd.R_mono (Kd.R_far (p := ⟨gb159, 2, none⟩) (Kd.R_far (p := ⟨gb159, 1, none⟩) (Kd.R_far (p := ⟨gb159, 0, none⟩) (Kd.R_types HO_3.out BK159.out (by decide)) (fun _ hk => hk.2) (.string ((rd_T63 l0 x12_2).f0))) (fun _ hk => hk.2) (.slice A158_1 ((rd_T63 l0 x12_2).f1).length c158_1)) (fun _ hk => hk.2) (.slice A158_2 ((rd_T63 l0 x12_2).f2).length c158_2)) (fun _ hk => trivial)))⟩; replace BK159 : Aside0 (w8.heap[gb159]? = some (.cells #[.string ((rd_T63 l0 x12_2).f0), .slice A158_1 ((rd_T63 l0 x12_2).f1).length c158_1, .slice A158_2 ((rd_T63 l0 x12_2).f2).length c158_2] 63 (0, 0))) := ⟨(by rw [hw]; exact (by refine bU ?_; refine blk_put (cs := #[.string ((rd_T63 l0 x12_2).f0), .slice A158_1 ((rd_T63 l0 x12_2).f1).length c158_1, .slice none 0 0]) ?_ 2 _ rfl; refine bU ?_; refine blk_put (cs := #[.string ((rd_T63 l0 x12_2).f0), .slice none 0 0, .slice none 0 0]) ?_ 1 _ rfl; refine bU ?_; refine blk_put (cs := #[.string (⟨#[]⟩ : ByteArray), .slice none 0 0, .slice none 0 0]) ?_ 0 _ rfl; refine bU ?_; exact BK159.out))⟩; replace HB : Aside0 (Below w.heap.size w w8) := ⟨(by rw [hw]; exact (lV1 GE159))⟩; clear hw; have hcz9_0 := cz BK159 0 (.string ((rd_T63 l0 x12_2).f0)); have hcz9_1 := cz BK159 1 (.slice A158_1 ((rd_T63 l0 x12_2).f1).length c158_1); have hcz9_2 := cz BK159 2 (.slice A158_2 ((rd_T63 l0 x12_2).f2).length c158_2); have hfz9_0 := fz BK159 0; have hfz9_1 := fz BK159 1; have hfz9_2 := fz BK159 2; obtain ⟨Ao10, co10, eo10⟩ := Kd.R_slice HO_3.out; subst eo10) | ((with_reducible refine gate_callee (f := 70) rfl ?_); refine goesL_ (some 19) rfl rfl Try.func70 (by kernel_rfl) rfl #[.slice Ao10 x3_2.length co10, .string ((rd_T63 l0 x12_2).f0)] rfl aE ?_; (with_reducible refine (spec_l1Has.calls k2 _ _ x3_2 ((rd_T63 l0 x12_2).f0) t160 _ ?side1 ?side2 A5.out).mono ?_); (case side1 => exact cU (Kd.R_reads' HO_3.out).2.2); (case side2 => exact (Kd.R_reads' HO_3.out).2.1); rintro e w' ⟨rfl, ⟨nd, rfl⟩⟩; refine ⟨_, rfl, ?_⟩))
        (try simp only [Act.put, List.setIfInBounds_toArray, List.set_cons_zero, List.set_cons_succ])
        go_loopg [7, 24] k2 (fun kq v7 v24 w' => ∃ (x7_3 : Bool) (x24_3 : Int), v7 = .bool x7_3 ∧ v24 = .int .i64 x24_3 ∧ Aside0 (spec_l21Order.l2 kq l0 x3_2 x4_2 x7_3 l0 (l0.length : Int) x12_2 ((rd_T63 l0 x12_2).f1) (((rd_T63 l0 x12_2).f1).length : Int) x24_3 ((rd_T63 l0 x12_2).f0) ((rd_T63 l0 x12_2).f1) ((rd_T63 l0 x12_2).f2) = some r) ∧ Aside0 (kq ≤ k2) ∧ Aside0 (Kd.R Kd.string 9 w' w.heap.size (fun _ => True) (.slice Ao10 x3_2.length co10) x3_2) ∧ Aside0 (w'.heap[gb159]? = some (.cells #[.string ((rd_T63 l0 x12_2).f0), (.slice A158_1 ((rd_T63 l0 x12_2).f1).length c158_1), (.slice A158_2 ((rd_T63 l0 x12_2).f2).length c158_2)] 63 (0, 0))) ∧ Aside0 (Below w.heap.size w w'))
        case atStart => exact ⟨(!t160), (0), tE, tE, H', ⟨Nat.le_refl _⟩, ⟨by (with_reducible repeat (first | apply Kd.R_alloc | apply Kd.R_drewN | apply Kd.R_drew)); exact HO_3.out⟩, ⟨by refine bU ?_; exact BK159.out⟩, ⟨by repeat (first | (with_reducible first | exact HB.out | apply below_alloc | apply pw_below_drewN | apply below_drew1 | refine below_set ?_ GE159.out) | exact HB.out)⟩⟩
        case round =>
         clear H'
         try clear c1
         try clear p1
         try clear q1
         try clear hx1
         try clear hf1
         try clear c2
         try clear c2b0
         try clear p2
         try clear q2
         try clear hf2
         try clear c3
         try clear c3b0
         try clear c4
         try clear c4b0
         try clear c7
         try clear hcz7_0
         try clear hcz7_1
         try clear hcz7_2
         try clear hcz9_0
         try clear hcz9_1
         try clear hcz9_2
         try clear hfz7_0
         try clear hfz7_1
         try clear hfz7_2
         try clear hfz9_0
         try clear hfz9_1
         try clear hfz9_2
         try clear hx158_0
         try clear hx158_1
         try clear hx158_2
         try clear p158
         try clear q158
         obtain ⟨x7_3, x24_3, rfl, rfl, HA, HK3, HO_3, BK159, HB⟩ := hrel
         cases gk with
         | zero => exact absurd HA.out (by simp [spec_l21Order.l2])
         | succ k3 =>
          have H := HA.out
          clear HA
          simp only [spec_l21Order.l2] at H
          by_cases c11 : x24_3 < (((rd_T63 l0 x12_2).f1).length : Int)
          ·rw [if_pos c11] at H
           have c11b0 : decide (x24_3 < (((rd_T63 l0 x12_2).f1).length : Int)) = true := decide_eq_true c11
           clear c11
           by_cases c12 : 0 ≤ x24_3
           ·rw [if_pos c12] at H
            have c12b0 : decide (0 ≤ x24_3) = true := decide_eq_true c12
            clear c12
            by_cases c13 : x24_3 < (((rd_T63 l0 x12_2).f1).length : Int)
            ·rw [if_pos c13] at H
             have c13b0 : decide (x24_3 < (((rd_T63 l0 x12_2).f1).length : Int)) = true := decide_eq_true c13
             clear c13
             by_cases c14 : x7_3 = true
             ·subst c14
              have H1 : ((spec_l1Has.f k3 x3_2 (rdOf ByteArray.empty ((rd_T63 l0 x12_2).f1) x24_3)).bind fun t162 => (spec_l21Order.l2 k3 l0 x3_2 x4_2 t162 l0 (l0.length : Int) x12_2 ((rd_T63 l0 x12_2).f1) (((rd_T63 l0 x12_2).f1).length : Int) (wrap64 (x24_3 + 1)) ((rd_T63 l0 x12_2).f0) ((rd_T63 l0 x12_2).f1) ((rd_T63 l0 x12_2).f2))) = some r := by rw [if_pos rfl] at H; exact H
              clear H
              have H := H1
              clear H1
              replace H := Option.bind_eq_some_iff.mp H
              obtain ⟨t162, A150, H⟩ := H
              replace H : (spec_l21Order.l2 k3 l0 x3_2 x4_2 t162 l0 (l0.length : Int) x12_2 ((rd_T63 l0 x12_2).f1) (((rd_T63 l0 x12_2).f1).length : Int) (wrap64 (x24_3 + 1)) ((rd_T63 l0 x12_2).f0) ((rd_T63 l0 x12_2).f1) ((rd_T63 l0 x12_2).f2)) = some r := H
              have A15 := Aside0.mk A150
              clear A150
              have H' := Aside0.mk H
              clear H
              have p161 : 0 ≤ (x24_3 : Int) := of_decide_eq_true hE
              have q161 : x24_3 < (((rd_T63 l0 x12_2).f1).length : Int) := of_decide_eq_true hE
              obtain ⟨ad161, e161, hx161_0⟩ := Kd.at_string HR158_1.out x24_3 p161 q161
              cases e161
              replace hx161_0 := (HB.out.cell (World.block_lt_of_cell? w _ hx161_0)).trans hx161_0
              replace p161 := eq_true p161
              replace q161 := eq_true q161
              go_wp2_with (first | (go_at_call 70; (with_reducible refine (spec_l1Has.calls k3 _ _ x3_2 (rdOf ByteArray.empty ((rd_T63 l0 x12_2).f1) x24_3) t162 _ ?side1 ?side2 A15.out).mono ?_); (case side1 => exact cU (Kd.R_reads' HO_3.out).2.2); (case side2 => exact (Kd.R_reads' HO_3.out).2.1); rintro e w' ⟨rfl, ⟨nd, rfl⟩⟩))
              go_roundg k3
              case measure => have := HK1.out; have := HK2.out; have := HK3.out; omega
              case rel => exact ⟨(t162), (wrap64 (x24_3 + 1)), tE, tE, H', ⟨by have := HK1.out; have := HK2.out; have := HK3.out; omega⟩, ⟨by (with_reducible repeat (first | apply Kd.R_alloc | apply Kd.R_drewN | apply Kd.R_drew)); exact HO_3.out⟩, ⟨by refine bU ?_; exact BK159.out⟩, ⟨by repeat (first | (with_reducible first | exact HB.out | apply below_alloc | apply pw_below_drewN | apply below_drew1 | refine below_set ?_ GE159.out) | exact HB.out)⟩⟩
             ·replace c14 := Bool.eq_false_iff.mpr c14
              subst c14
              have H1 : (spec_l21Order.l2 k3 l0 x3_2 x4_2 false l0 (l0.length : Int) x12_2 ((rd_T63 l0 x12_2).f1) (((rd_T63 l0 x12_2).f1).length : Int) (wrap64 (x24_3 + 1)) ((rd_T63 l0 x12_2).f0) ((rd_T63 l0 x12_2).f1) ((rd_T63 l0 x12_2).f2)) = some r := by rw [if_neg (show ¬ (false = true) by decide)] at H; exact H
              clear H
              have H := H1
              clear H1
              have H' := Aside0.mk H
              clear H
              have p161 : 0 ≤ (x24_3 : Int) := of_decide_eq_true hE
              have q161 : x24_3 < (((rd_T63 l0 x12_2).f1).length : Int) := of_decide_eq_true hE
              obtain ⟨ad161, e161, hx161_0⟩ := Kd.at_string HR158_1.out x24_3 p161 q161
              cases e161
              replace hx161_0 := (HB.out.cell (World.block_lt_of_cell? w _ hx161_0)).trans hx161_0
              replace p161 := eq_true p161
              replace q161 := eq_true q161
              go_wp2
              go_roundg k3
              case measure => have := HK1.out; have := HK2.out; have := HK3.out; omega
              case rel => exact ⟨(false), (wrap64 (x24_3 + 1)), tE, tE, H', ⟨by have := HK1.out; have := HK2.out; have := HK3.out; omega⟩, ⟨by (with_reducible repeat (first | apply Kd.R_alloc | apply Kd.R_drewN | apply Kd.R_drew)); exact HO_3.out⟩, ⟨by refine bU ?_; exact BK159.out⟩, ⟨by repeat (first | (with_reducible first | exact HB.out | apply below_alloc | apply pw_below_drewN | apply below_drew1 | refine below_set ?_ GE159.out) | exact HB.out)⟩⟩
            ·rw [if_neg c13] at H
             exact absurd H (by simp)
           ·rw [if_neg c12] at H
            exact absurd H (by simp)
          ·rw [if_neg c11] at H
           have c11b0 : decide (x24_3 < (((rd_T63 l0 x12_2).f1).length : Int)) = false := decide_eq_false c11
           clear c11
           by_cases c16 : x7_3 = true
           ·subst c16
            have H1 : (if x3_2.length < 8796093022208 then (spec_l21Order.l0 k3 l0 (x3_2 ++ [((rd_T63 l0 x12_2).f0)])) else (none)) = some r := by rw [if_pos rfl] at H; exact H
            clear H
            have H := H1
            clear H1
            by_cases c17 : x3_2.length < 8796093022208
            ·rw [if_pos c17] at H
             have LMc17 := Aside0.mk c17
             clear c17
             obtain ⟨y163, hy163⟩ : ∃ y_ : List ByteArray, y_ = (x3_2 ++ [((rd_T63 l0 x12_2).f0)]) := ⟨_, rfl⟩
             replace H : (spec_l21Order.l0 k3 l0 y163) = some r := by first | (rw [hy163]; with_reducible exact H) | (have H2_ := (Option.bind_some _ _).symm.trans H; rw [hy163]; with_reducible exact H2_) | (have H2_ := (Option.bind_some _ _).symm.trans H; with_reducible exact H2_) | with_reducible exact H | (rw [hy163]; exact H) | exact H
             have Ny163 := Aside0.mk hy163
             clear hy163
             have H' := Aside0.mk H
             clear H
             have hcz18_0 := cz BK159 0 (.string ((rd_T63 l0 x12_2).f0))
             have hcz18_1 := cz BK159 1 (.slice A158_1 ((rd_T63 l0 x12_2).f1).length c158_1)
             have hcz18_2 := cz BK159 2 (.slice A158_2 ((rd_T63 l0 x12_2).f2).length c158_2)
             have hfz18_0 := fz BK159 0
             have hfz18_1 := fz BK159 1
             have hfz18_2 := fz BK159 2
             go_wp2_with (first | ((with_reducible refine gate_builtin (b := .append) (xs := #[.tmp 36, .tmp 39]) rfl ?_); at_builtin; refine Kd.R_append Kd.string (w0 := w) w.heap.size rfl (.tmp 36) (.tmp 39) 29 9 (.string ⟨#[]⟩) 16 rfl Try.underlying29 info9 rfl (by decide) (by omega) (.slice Ao10 x3_2.length co10) x3_2 ((rd_T63 l0 x12_2).f0) [.string ((rd_T63 l0 x12_2).f0)] (fun _ => True) (fun _ => False) rfl rfl ?aP (fun _ hk => hk.elim) ?aF ?aO ?aB ?aS ?aL ?_; (case aP => exact rfl); (case aB => exact (lV1 GE159)); (case aF => exact (fun _ _ => trivial)); (case aO => exact (rU HO_3.out)); (case aS => exact (below_size (lV1 GE159))); (case aL => have := LMc17.out; omega); intro v164 w19 ho hb hg hat; rw [← Ny163.out] at ho; replace BK159 := Aside0.mk (blk_grown (g := gb159) (o := .cells #[.string ((rd_T63 l0 x12_2).f0), .slice A158_1 ((rd_T63 l0 x12_2).f1).length c158_1, .slice A158_2 ((rd_T63 l0 x12_2).f2).length c158_2] 63 (0, 0)) (bV BK159) hg (Kd.R_ne HO_3.out BK159.out (by decide))); replace HB := Aside0.mk hb; have HO165 := Aside0.mk ho; clear HO_3; clear ho hb hg hat))
             go_roundg k3
             case measure => have := HK1.out; have := HK2.out; have := HK3.out; omega
             case rel => exact ⟨(y163), H', ⟨by have := HK1.out; have := HK2.out; have := HK3.out; omega⟩, ⟨by (with_reducible repeat (first | apply Kd.R_alloc | apply Kd.R_drewN | apply Kd.R_drew)); exact HO165.out⟩, ⟨by repeat (first | (with_reducible first | exact HB.out | apply below_alloc | apply pw_below_drewN | apply below_drew1 | refine below_set ?_ GE159.out) | exact HB.out)⟩⟩
            ·rw [if_neg c17] at H
             exact absurd H (by simp)
           ·replace c16 := Bool.eq_false_iff.mpr c16
            subst c16
            have H1 : (spec_l21Order.l1 k3 l0 x3_2 x4_2 l0 (l0.length : Int) (wrap64 (x12_2 + 1))) = some r := by rw [if_neg (show ¬ (false = true) by decide)] at H; exact H
            clear H
            have H := H1
            clear H1
            have H' := Aside0.mk H
            clear H
            go_wp2
            go_roundg k3
            case measure => have := HK1.out; have := HK2.out; have := HK3.out; omega
            case rel => exact ⟨(x3_2), (x4_2), (wrap64 (x12_2 + 1)), tE, tE, H', ⟨by have := HK1.out; have := HK2.out; have := HK3.out; omega⟩, ⟨by (with_reducible repeat (first | apply Kd.R_alloc | apply Kd.R_drewN | apply Kd.R_drew)); exact HO_3.out⟩, ⟨by repeat (first | (with_reducible first | exact HB.out | apply below_alloc | apply pw_below_drewN | apply below_drew1 | refine below_set ?_ GE159.out) | exact HB.out)⟩⟩
       ·rw [if_neg c4] at H
        exact absurd H (by simp)
      ·rw [if_neg c3] at H
       exact absurd H (by simp)
     ·rw [if_neg c2] at H
      have c2b0 : decide (x12_2 < (l0.length : Int)) = false := decide_eq_false c2
      clear c2
      by_cases c20 : x4_2 = true
      ·subst c20
       have H1 : (spec_l21Order.l0 k2 l0 x3_2) = some r := by rw [if_pos rfl] at H; exact H
       clear H
       have H := H1
       clear H1
       have H' := Aside0.mk H
       clear H
       go_wp2
       go_roundg k2
       case measure => have := HK1.out; have := HK2.out; omega
       case rel => exact ⟨(x3_2), H', ⟨by have := HK1.out; have := HK2.out; omega⟩, ⟨by (with_reducible repeat (first | apply Kd.R_alloc | apply Kd.R_drewN | apply Kd.R_drew)); exact HO_3.out⟩, ⟨by repeat (first | (with_reducible first | exact HB.out | apply below_alloc | apply pw_below_drewN | apply below_drew1) | exact HB.out)⟩⟩
      ·replace c20 := Bool.eq_false_iff.mpr c20
       subst c20
       have H1 : (some x3_2) = some r := by rw [if_neg (show ¬ (false = true) by decide)] at H; exact H
       clear H
       have H := H1
       clear H1
       obtain rfl := Option.some.inj H
       go_wp2
       go_ret
       exact ⟨_, eE, by (with_reducible repeat (first | apply Kd.R_alloc | apply Kd.R_drewN | apply Kd.R_drew)); exact HO_3.out, lU⟩
end Go.Proofs.Ytifejplilaefiaa.PFnExactMakeOrder
namespace Go.Proofs.Ytifejplilaefiaa.PFnExactMakeOrder
open Go.RowKit Go.Proofs.YtifejplilaefiaaW.PrintWords Go.Proofs.YtifejplilaefiaaW.PrintLast Go.Proofs.YtifejplilaefiaaW.PrintMore
attribute [local go_sem] max2_int min2_int max_two min_two max_three min_three max_four min_four   -- for this text's walks alone
set_option linter.unusedVariables false
set_option linter.unusedSimpArgs false
mutual
def spec_GoodAssets.l0 : Nat → List (S63) → List (S63) → Int → Int → Option (Bool)
 | 0, _, _, _, _ => none
 | k + 1, x0, x10, x11, x12 => if x12 < x11 then (if 0 ≤ x12 then (if x12 < (x10.length : Int) then ((spec_GoodName.f k ((rd_T63 x10 x12).f0)).bind fun t171 => (if t171 = true then (if x12 > 0 then (if 0 ≤ (wrap64 (x12 - 1)) then (if (wrap64 (x12 - 1)) < (x0.length : Int) then (if ((Op.bytesLess (((rd_T63 x0 (wrap64 (x12 - 1))).f0).toList) (((rd_T63 x10 x12).f0).toList)) = true) then ((spec_l3Names.f k ((rd_T63 x10 x12).f1) 10).bind fun t173 => (if t173 = true then (spec_GoodAssets.j1 k x0 x10 x11 x12 (decide ((((rd_T63 x10 x12).f2).length : Int) > 400)) ((rd_T63 x10 x12).f0) ((rd_T63 x10 x12).f1) ((rd_T63 x10 x12).f2)) else (spec_GoodAssets.j1 k x0 x10 x11 x12 true ((rd_T63 x10 x12).f0) ((rd_T63 x10 x12).f1) ((rd_T63 x10 x12).f2)))) else (spec_GoodAssets.j1 k x0 x10 x11 x12 true ((rd_T63 x10 x12).f0) ((rd_T63 x10 x12).f1) ((rd_T63 x10 x12).f2))) else (none)) else (none)) else ((spec_l3Names.f k ((rd_T63 x10 x12).f1) 10).bind fun t174 => (if t174 = true then (spec_GoodAssets.j1 k x0 x10 x11 x12 (decide ((((rd_T63 x10 x12).f2).length : Int) > 400)) ((rd_T63 x10 x12).f0) ((rd_T63 x10 x12).f1) ((rd_T63 x10 x12).f2)) else (spec_GoodAssets.j1 k x0 x10 x11 x12 true ((rd_T63 x10 x12).f0) ((rd_T63 x10 x12).f1) ((rd_T63 x10 x12).f2))))) else (spec_GoodAssets.j1 k x0 x10 x11 x12 true ((rd_T63 x10 x12).f0) ((rd_T63 x10 x12).f1) ((rd_T63 x10 x12).f2)))) else (none)) else (none)) else ((spec_l21Order.f k x0).bind fun t166 => (some ((t166.length : Int) == (x0.length : Int))))
def spec_GoodAssets.j1 : Nat → List (S63) → List (S63) → Int → Int → Bool → ByteArray → List ByteArray → List Int → Option (Bool)
 | 0, _, _, _, _, _, _, _, _ => none
 | k + 1, x0, x10, x11, x12, x47, x171000, x171001, x171002 => if x47 = true then (some false) else (spec_GoodAssets.l1 k x0 x10 x11 x12 x171001 (x171001.length : Int) 0)
def spec_GoodAssets.l1 : Nat → List (S63) → List (S63) → Int → Int → List ByteArray → Int → Int → Option (Bool)
 | 0, _, _, _, _, _, _, _ => none
 | k + 1, x0, x10, x11, x12, x49, x50, x51 => if x51 < x50 then (if 0 ≤ x51 then (if x51 < (x49.length : Int) then ((spec_l21At.f k x0 (rdOf ByteArray.empty x49 x51)).bind fun t176 => (if t176 < 0 then (some false) else (spec_GoodAssets.l1 k x0 x10 x11 x12 x49 x50 (wrap64 (x51 + 1))))) else (none)) else (none)) else (spec_GoodAssets.l0 k x0 x10 x11 (wrap64 (x12 + 1)))
end
def spec_GoodAssets.f (k : Nat) (l0 : List (S63)) : Option (Bool) := if (l0.length : Int) > 30 then (some false) else (spec_GoodAssets.l0 k l0 l0 (l0.length : Int) 0)
theorem spec_GoodAssets.mono_l : ∀ k, (∀ y0 y1 y2 y3, LeO (spec_GoodAssets.l0 k y0 y1 y2 y3) (spec_GoodAssets.l0 (k + 1) y0 y1 y2 y3)) ∧ (∀ y0 y1 y2 y3 y4 y5 y6 y7, LeO (spec_GoodAssets.j1 k y0 y1 y2 y3 y4 y5 y6 y7) (spec_GoodAssets.j1 (k + 1) y0 y1 y2 y3 y4 y5 y6 y7)) ∧ (∀ y0 y1 y2 y3 y4 y5 y6, LeO (spec_GoodAssets.l1 k y0 y1 y2 y3 y4 y5 y6) (spec_GoodAssets.l1 (k + 1) y0 y1 y2 y3 y4 y5 y6))
 | 0 => ⟨fun _ _ _ _ r h => by simp [spec_GoodAssets.l0] at h, fun _ _ _ _ _ _ _ _ r h => by simp [spec_GoodAssets.j1] at h, fun _ _ _ _ _ _ _ r h => by simp [spec_GoodAssets.l1] at h⟩
 | k + 1 => by
  obtain ⟨ih0, ih1, ih2⟩ := spec_GoodAssets.mono_l k
  refine ⟨?_, ?_, ?_⟩
  ·intro y0 y1 y2 y3
   unfold spec_GoodAssets.l0
   repeat' first
   | (with_reducible exact ih0 _ _ _ _)
   | (with_reducible exact ih1 _ _ _ _ _ _ _ _)
   | (with_reducible exact ih2 _ _ _ _ _ _ _)
   | (with_reducible exact spec_GoodName.mono _ _)
   | (with_reducible exact spec_l21At.mono _ _ _)
   | (with_reducible exact spec_l21Order.mono _ _)
   | (with_reducible exact spec_l3Names.mono _ _ _)
   | (with_reducible exact LeO.refl _)
   | (with_reducible exact LeO.none _)
   | (with_reducible refine LeO.ite ?_ ?_)
   | (with_reducible refine LeO.bind ?_ (fun _ => ?_))
   | exact ih0 _ _ _ _
   | exact ih1 _ _ _ _ _ _ _ _
   | exact ih2 _ _ _ _ _ _ _
   | exact spec_GoodName.mono _ _
   | exact spec_l21At.mono _ _ _
   | exact spec_l21Order.mono _ _
   | exact spec_l3Names.mono _ _ _
   | exact LeO.none _
   | refine LeO.ite ?_ ?_
   | refine LeO.bind ?_ (fun _ => ?_)
  ·intro y0 y1 y2 y3 y4 y5 y6 y7
   unfold spec_GoodAssets.j1
   repeat' first
   | (with_reducible exact ih0 _ _ _ _)
   | (with_reducible exact ih1 _ _ _ _ _ _ _ _)
   | (with_reducible exact ih2 _ _ _ _ _ _ _)
   | (with_reducible exact spec_GoodName.mono _ _)
   | (with_reducible exact spec_l21At.mono _ _ _)
   | (with_reducible exact spec_l21Order.mono _ _)
   | (with_reducible exact spec_l3Names.mono _ _ _)
   | (with_reducible exact LeO.refl _)
   | (with_reducible exact LeO.none _)
   | (with_reducible refine LeO.ite ?_ ?_)
   | (with_reducible refine LeO.bind ?_ (fun _ => ?_))
   | exact ih0 _ _ _ _
   | exact ih1 _ _ _ _ _ _ _ _
   | exact ih2 _ _ _ _ _ _ _
   | exact spec_GoodName.mono _ _
   | exact spec_l21At.mono _ _ _
   | exact spec_l21Order.mono _ _
   | exact spec_l3Names.mono _ _ _
   | exact LeO.none _
   | refine LeO.ite ?_ ?_
   | refine LeO.bind ?_ (fun _ => ?_)
  ·intro y0 y1 y2 y3 y4 y5 y6
   unfold spec_GoodAssets.l1
   repeat' first
   | (with_reducible exact ih0 _ _ _ _)
   | (with_reducible exact ih1 _ _ _ _ _ _ _ _)
   | (with_reducible exact ih2 _ _ _ _ _ _ _)
   | (with_reducible exact spec_GoodName.mono _ _)
   | (with_reducible exact spec_l21At.mono _ _ _)
   | (with_reducible exact spec_l21Order.mono _ _)
   | (with_reducible exact spec_l3Names.mono _ _ _)
   | (with_reducible exact LeO.refl _)
   | (with_reducible exact LeO.none _)
   | (with_reducible refine LeO.ite ?_ ?_)
   | (with_reducible refine LeO.bind ?_ (fun _ => ?_))
   | exact ih0 _ _ _ _
   | exact ih1 _ _ _ _ _ _ _ _
   | exact ih2 _ _ _ _ _ _ _
   | exact spec_GoodName.mono _ _
   | exact spec_l21At.mono _ _ _
   | exact spec_l21Order.mono _ _
   | exact spec_l3Names.mono _ _ _
   | exact LeO.none _
   | refine LeO.ite ?_ ?_
   | refine LeO.bind ?_ (fun _ => ?_)
theorem spec_GoodAssets.mono : ∀ a0 k, LeO (spec_GoodAssets.f k a0) (spec_GoodAssets.f (k + 1) a0) := by
 intro a0 k
 obtain ⟨ih0, ih1, ih2⟩ := spec_GoodAssets.mono_l k
 unfold spec_GoodAssets.f
 repeat' first
   | (with_reducible exact ih0 _ _ _ _)
   | (with_reducible exact ih1 _ _ _ _ _ _ _ _)
   | (with_reducible exact ih2 _ _ _ _ _ _ _)
   | (with_reducible exact spec_GoodName.mono _ _)
   | (with_reducible exact spec_l21At.mono _ _ _)
   | (with_reducible exact spec_l21Order.mono _ _)
   | (with_reducible exact spec_l3Names.mono _ _ _)
   | (with_reducible exact LeO.refl _)
   | (with_reducible exact LeO.none _)
   | (with_reducible refine LeO.ite ?_ ?_)
   | (with_reducible refine LeO.bind ?_ (fun _ => ?_))
   | exact ih0 _ _ _ _
   | exact ih1 _ _ _ _ _ _ _ _
   | exact ih2 _ _ _ _ _ _ _
   | exact spec_GoodName.mono _ _
   | exact spec_l21At.mono _ _ _
   | exact spec_l21Order.mono _ _
   | exact spec_l3Names.mono _ _ _
   | exact LeO.none _
   | refine LeO.ite ?_ ?_
   | refine LeO.bind ?_ (fun _ => ?_)
def spec_GoodAssets.T6 : Bool × List (List Nat × List Nat) := (true, [([], []), ([0], [0]), ([1], [1]), ([2], [2]), ([3, 2], [3]), ([4], [4]), ([5, 4], [4, 5]), ([6, 4, 4], [4, 6]), ([7], [7]), ([7], [7]), ([9, 7], [7, 9]), ([8, 10, 7], [7, 8, 10]), ([11, 7], [7, 11]), ([12, 7], [7, 12]), ([7], [7]), ([14, 7], [7, 14]), ([13, 15, 7], [7, 13, 15]), ([7, 16, 4], [4, 7, 16]), ([4, 17], [4, 17]), ([18, 7], [18]), ([19], [19]), ([20, 19], [19, 20]), ([21, 19, 19], [19, 21]), ([22, 19], [19, 22]), ([19, 23], [19, 23]), ([24, 22], [24]), ([25], [25]), ([26, 25], [25, 26]), ([27, 25], [25, 27]), ([28, 25], [25, 28]), ([25, 29], [25, 29])])
def spec_GoodAssets.B6 : List Nat := [0, 1, 3, 7, 15, 31, 63, 127, 255, 255, 767, 2047, 4095, 8191, 255, 16639, 65535, 131071, 262143, 524287, 1048575, 2097151, 4194303, 8388607, 16777215, 33554431, 67108863, 134217727, 268435455, 536870911, 1073741823]
theorem spec_GoodAssets.tab6 : rtab .any (opsOf Try.f8 6) = spec_GoodAssets.T6 := by kernel_rfl
theorem spec_GoodAssets.bits6 : waitsOk spec_GoodAssets.T6.2 spec_GoodAssets.B6 = true := by kernel_rfl
set_option maxHeartbeats 8000000 in
set_option maxRecDepth 100000 in
theorem spec_GoodAssets.calls (k : Nat) (A0 : Option Addr) (c0 : Nat) (l0 : List (S63)) (r : Bool) (w : World) (hr0 : Kd.C k63 w A0 l0.length l0) (hc0 : l0.length ≤ c0) (h : spec_GoodAssets.f k l0 = some r) :
  Calls Try.prog 8 #[.slice A0 l0.length c0] w fun e w' => e = .returned (.bool r) ∧ Below w.heap.size w w' := by
 have hu63 := Try.underlying63
 have HR0 := Aside0.mk hr0
 have HC0 := Aside0.mk hc0
 clear hr0 hc0
 have HB := Aside0.mk (Below.refl w.heap.size w)
 have H : (if (l0.length : Int) > 30 then (some false) else (spec_GoodAssets.l0 k l0 l0 (l0.length : Int) 0)) = some r := h
 clear h
 by_cases c2 : (l0.length : Int) > 30
 ·rw [if_pos c2] at H
  have c2b0 : decide (30 < (l0.length : Int)) = true := decide_eq_true c2
  have c2b1 : decide (30 < l0.length) = true := decide_eq_true (by omega)
  clear c2
  obtain rfl := Option.some.inj H
  go_enter Try.func8, Try.ntmps8
  go_wp2
  go_ret
  exact ⟨eE, lU⟩
 ·rw [if_neg c2] at H
  have c2b0 : decide (30 < (l0.length : Int)) = false := decide_eq_false c2
  have c2b1 : decide (30 < l0.length) = false := decide_eq_false (by omega)
  clear c2
  have H' := Aside0.mk H
  clear H
  go_enter Try.func8, Try.ntmps8
  go_wp2
  go_loopg [12] k (fun kq v12 w' => ∃ (x12_1 : Int), v12 = .int .i64 x12_1 ∧ Aside0 (spec_GoodAssets.l0 kq l0 l0 (l0.length : Int) x12_1 = some r) ∧ Aside0 (kq ≤ k) ∧ Aside0 (Below w.heap.size w w'))
  case atStart => exact ⟨(0), tE, H', ⟨Nat.le_refl _⟩, ⟨by repeat (first | (with_reducible first | exact HB.out | apply below_alloc | apply pw_below_drewN | apply below_drew1) | exact HB.out)⟩⟩
  case round =>
   clear H'
   try clear c2
   try clear c2b0
   try clear c2b1
   try clear p2
   obtain ⟨x12_1, rfl, HA, HK1, HB⟩ := hrel
   cases gk with
   | zero => exact absurd HA.out (by simp [spec_GoodAssets.l0])
   | succ k1 =>
    have H := HA.out
    clear HA
    simp only [spec_GoodAssets.l0] at H
    by_cases c3 : x12_1 < (l0.length : Int)
    ·rw [if_pos c3] at H
     have c3b0 : decide (x12_1 < (l0.length : Int)) = true := decide_eq_true c3
     clear c3
     by_cases c4 : 0 ≤ x12_1
     ·rw [if_pos c4] at H
      have c4b0 : decide (0 ≤ x12_1) = true := decide_eq_true c4
      clear c4
      by_cases c5 : x12_1 < (l0.length : Int)
      ·rw [if_pos c5] at H
       have c5b0 : decide (x12_1 < (l0.length : Int)) = true := decide_eq_true c5
       clear c5
       have HC6 := Aside0.mk H
       clear H
       have p169 : 0 ≤ (x12_1 : Int) := of_decide_eq_true hE
       have q169 : x12_1 < (l0.length : Int) := of_decide_eq_true hE
       obtain ⟨ad169, A169_1, c169_1, A169_2, c169_2, e169, hx169_0, hx169_1, hx169_2, hl169_1, hi169_1, hl169_2, hi169_2⟩ := at_T63 HR0.out x12_1 p169 q169
       cases e169
       replace hx169_0 := (HB.out.cell (World.block_lt_of_cell? w _ hx169_0)).trans hx169_0
       replace hx169_1 := (HB.out.cell (World.block_lt_of_cell? w _ hx169_1)).trans hx169_1
       replace hx169_2 := (HB.out.cell (World.block_lt_of_cell? w _ hx169_2)).trans hx169_2
       have HR169_1 := Aside0.mk hi169_1
       have HC169_1 := Aside0.mk hl169_1
       clear hi169_1 hl169_1
       have HR169_2 := Aside0.mk hi169_2
       have HC169_2 := Aside0.mk hl169_2
       clear hi169_2 hl169_2
       replace p169 := eq_true p169
       replace q169 := eq_true q169
       go_upto_region 6 with (first | ((with_reducible refine gate_dst (N := 4) rfl ?_); (try (refine gate_guard (by rfl) ?_; dsimp only)); refine box_event rfl (N := 4) rfl (cs := #[.string (⟨#[]⟩ : ByteArray), .slice none 0 0, .slice none 0 0]) (t := 63) sE ?_; intro gb170 hg w7 hbox hb; have BK170 := Aside0.mk hbox; have GW170 := gS w hg (lU); have GE170 := gS w hg (lU); replace HB := bH (lU) hb; clear hb hbox hg; have hcz8_0 := cz BK170 0 (.string (⟨#[]⟩ : ByteArray)); have hcz8_1 := cz BK170 1 (.slice none 0 0); have hcz8_2 := cz BK170 2 (.slice none 0 0); have hfz8_0 := fz BK170 0; have hfz8_1 := fz BK170 1; have hfz8_2 := fz BK170 2) | ((with_reducible refine gate_store (t := 63) (p := 4) rfl ?_); refine store_event (t := 63) (p := 4) (v := ?vo_w9) (w1 := (((w7.setCell ⟨gb170, 0, none⟩ (.string ((rd_T63 l0 x12_1).f0))).setCell ⟨gb170, 1, none⟩ (.slice A169_1 ((rd_T63 l0 x12_1).f1).length c169_1)).setCell ⟨gb170, 2, none⟩ (.slice A169_2 ((rd_T63 l0 x12_1).f2).length c169_2))) ?hg ?ho ?hn ?hr ?_; (case ho => rfl); (case hg => rfl); (case hn => rfl); (case hr => first | (go_simp; done) | (go_simp; rfl) | (have hq0_ := (blk_cell BK170.out 0).trans (show _ = some _ from rfl); have hf0_ := blk_frozen BK170.out 0; have hq1_ := (blk_cell BK170.out 1).trans (show _ = some _ from rfl); have hf1_ := blk_frozen BK170.out 1; have hq2_ := (blk_cell BK170.out 2).trans (show _ = some _ from rfl); have hf2_ := blk_frozen BK170.out 2; first | (go_simp; done) | (go_simp; rfl))); intro w9 hw; replace BK170 : Aside0 (w9.heap[gb170]? = some (.cells #[.string ((rd_T63 l0 x12_1).f0), .slice A169_1 ((rd_T63 l0 x12_1).f1).length c169_1, .slice A169_2 ((rd_T63 l0 x12_1).f2).length c169_2] 63 (0, 0))) := ⟨(by rw [hw]; exact (by refine bU ?_; refine blk_put (cs := #[.string ((rd_T63 l0 x12_1).f0), .slice A169_1 ((rd_T63 l0 x12_1).f1).length c169_1, .slice none 0 0]) ?_ 2 _ rfl; refine bU ?_; refine blk_put (cs := #[.string ((rd_T63 l0 x12_1).f0), .slice none 0 0, .slice none 0 0]) ?_ 1 _ rfl; refine bU ?_; refine blk_put (cs := #[.string (⟨#[]⟩ : ByteArray), .slice none 0 0, .slice none 0 0]) ?_ 0 _ rfl; refine bU ?_; exact BK170.out))⟩; replace HB : Aside0 (Below w.heap.size w w9) := ⟨(by rw [hw]; exact (lV1 GE170))⟩; clear hw))
       (try simp only [Act.put, List.setIfInBounds_toArray, List.set_cons_zero, List.set_cons_succ])
       go_cut [47] (fun v47 wc => ∃ (kq : Nat) (x47_5 : Bool), v47 = .bool x47_5 ∧ Aside0 (spec_GoodAssets.j1 kq l0 l0 (l0.length : Int) x12_1 x47_5 ((rd_T63 l0 x12_1).f0) ((rd_T63 l0 x12_1).f1) ((rd_T63 l0 x12_1).f2) = some r) ∧ Aside0 (kq ≤ k1) ∧ Aside0 (wc.heap[gb170]? = some (.cells #[.string ((rd_T63 l0 x12_1).f0), (.slice A169_1 ((rd_T63 l0 x12_1).f1).length c169_1), (.slice A169_2 ((rd_T63 l0 x12_1).f2).length c169_2)] 63 (0, 0))) ∧ Aside0 (Below w.heap.size w wc))
       case first =>
        have H := HC6.out
        clear HC6
        replace H := Option.bind_eq_some_iff.mp H
        obtain ⟨t171, A100, H⟩ := H
        replace H : (if t171 = true then (if x12_1 > 0 then (if 0 ≤ (wrap64 (x12_1 - 1)) then (if (wrap64 (x12_1 - 1)) < (l0.length : Int) then (if ((Op.bytesLess (((rd_T63 l0 (wrap64 (x12_1 - 1))).f0).toList) (((rd_T63 l0 x12_1).f0).toList)) = true) then ((spec_l3Names.f k1 ((rd_T63 l0 x12_1).f1) 10).bind fun t173 => (if t173 = true then (spec_GoodAssets.j1 k1 l0 l0 (l0.length : Int) x12_1 (decide ((((rd_T63 l0 x12_1).f2).length : Int) > 400)) ((rd_T63 l0 x12_1).f0) ((rd_T63 l0 x12_1).f1) ((rd_T63 l0 x12_1).f2)) else (spec_GoodAssets.j1 k1 l0 l0 (l0.length : Int) x12_1 true ((rd_T63 l0 x12_1).f0) ((rd_T63 l0 x12_1).f1) ((rd_T63 l0 x12_1).f2)))) else (spec_GoodAssets.j1 k1 l0 l0 (l0.length : Int) x12_1 true ((rd_T63 l0 x12_1).f0) ((rd_T63 l0 x12_1).f1) ((rd_T63 l0 x12_1).f2))) else (none)) else (none)) else ((spec_l3Names.f k1 ((rd_T63 l0 x12_1).f1) 10).bind fun t174 => (if t174 = true then (spec_GoodAssets.j1 k1 l0 l0 (l0.length : Int) x12_1 (decide ((((rd_T63 l0 x12_1).f2).length : Int) > 400)) ((rd_T63 l0 x12_1).f0) ((rd_T63 l0 x12_1).f1) ((rd_T63 l0 x12_1).f2)) else (spec_GoodAssets.j1 k1 l0 l0 (l0.length : Int) x12_1 true ((rd_T63 l0 x12_1).f0) ((rd_T63 l0 x12_1).f1) ((rd_T63 l0 x12_1).f2))))) else (spec_GoodAssets.j1 k1 l0 l0 (l0.length : Int) x12_1 true ((rd_T63 l0 x12_1).f0) ((rd_T63 l0 x12_1).f1) ((rd_T63 l0 x12_1).f2))) = some r := H
        have A10 := Aside0.mk A100
        clear A100
        by_cases c11 : t171 = true
        ·subst c11
         have H1 : (if x12_1 > 0 then (if 0 ≤ (wrap64 (x12_1 - 1)) then (if (wrap64 (x12_1 - 1)) < (l0.length : Int) then (if ((Op.bytesLess (((rd_T63 l0 (wrap64 (x12_1 - 1))).f0).toList) (((rd_T63 l0 x12_1).f0).toList)) = true) then ((spec_l3Names.f k1 ((rd_T63 l0 x12_1).f1) 10).bind fun t173 => (if t173 = true then (spec_GoodAssets.j1 k1 l0 l0 (l0.length : Int) x12_1 (decide ((((rd_T63 l0 x12_1).f2).length : Int) > 400)) ((rd_T63 l0 x12_1).f0) ((rd_T63 l0 x12_1).f1) ((rd_T63 l0 x12_1).f2)) else (spec_GoodAssets.j1 k1 l0 l0 (l0.length : Int) x12_1 true ((rd_T63 l0 x12_1).f0) ((rd_T63 l0 x12_1).f1) ((rd_T63 l0 x12_1).f2)))) else (spec_GoodAssets.j1 k1 l0 l0 (l0.length : Int) x12_1 true ((rd_T63 l0 x12_1).f0) ((rd_T63 l0 x12_1).f1) ((rd_T63 l0 x12_1).f2))) else (none)) else (none)) else ((spec_l3Names.f k1 ((rd_T63 l0 x12_1).f1) 10).bind fun t174 => (if t174 = true then (spec_GoodAssets.j1 k1 l0 l0 (l0.length : Int) x12_1 (decide ((((rd_T63 l0 x12_1).f2).length : Int) > 400)) ((rd_T63 l0 x12_1).f0) ((rd_T63 l0 x12_1).f1) ((rd_T63 l0 x12_1).f2)) else (spec_GoodAssets.j1 k1 l0 l0 (l0.length : Int) x12_1 true ((rd_T63 l0 x12_1).f0) ((rd_T63 l0 x12_1).f1) ((rd_T63 l0 x12_1).f2))))) = some r := by rw [if_pos rfl] at H; exact H
         clear H
         have H := H1
         clear H1
         by_cases c12 : x12_1 > 0
         ·rw [if_pos c12] at H
          have c12b0 : decide (0 < x12_1) = true := decide_eq_true c12
          clear c12
          (first | rw [c12b0] | (simp only [i64_w, i32_w]; rw [c12b0]) | (rw [c12b2]; simp only [Bool.not_false, Bool.not_true]) | skip)
          obtain ⟨ji13, hji13⟩ : ∃ j_ : Int, (wrap64 (x12_1 - 1)) = j_ := ⟨_, rfl⟩
          replace H : (if 0 ≤ (ji13) then (if (ji13) < (l0.length : Int) then (if ((Op.bytesLess (((rd_T63 l0 (ji13)).f0).toList) (((rd_T63 l0 x12_1).f0).toList)) = true) then ((spec_l3Names.f k1 ((rd_T63 l0 x12_1).f1) 10).bind fun t173 => (if t173 = true then (spec_GoodAssets.j1 k1 l0 l0 (l0.length : Int) x12_1 (decide ((((rd_T63 l0 x12_1).f2).length : Int) > 400)) ((rd_T63 l0 x12_1).f0) ((rd_T63 l0 x12_1).f1) ((rd_T63 l0 x12_1).f2)) else (spec_GoodAssets.j1 k1 l0 l0 (l0.length : Int) x12_1 true ((rd_T63 l0 x12_1).f0) ((rd_T63 l0 x12_1).f1) ((rd_T63 l0 x12_1).f2)))) else (spec_GoodAssets.j1 k1 l0 l0 (l0.length : Int) x12_1 true ((rd_T63 l0 x12_1).f0) ((rd_T63 l0 x12_1).f1) ((rd_T63 l0 x12_1).f2))) else (none)) else (none)) = some r := by first | (rw [hji13] at H; exact H) | (simp only [hji13] at H ⊢; exact H)
          (try rw [hji13] at A10)
          have hji13w : (IntKind.i64.wrap (x12_1 - 1)) = ji13 := (i64_w _).trans hji13
          by_cases c14 : 0 ≤ (ji13)
          ·rw [if_pos c14] at H
           have c14b0 : decide (0 ≤ (ji13)) = true := decide_eq_true c14
           clear c14
           by_cases c15 : (ji13) < (l0.length : Int)
           ·rw [if_pos c15] at H
            have c15b0 : decide ((ji13) < (l0.length : Int)) = true := decide_eq_true c15
            clear c15
            by_cases c16 : ((Op.bytesLess (((rd_T63 l0 (ji13)).f0).toList) (((rd_T63 l0 x12_1).f0).toList)) = true)
            ·rw [if_pos c16] at H
             have c16b0 : (Op.bytesLess (((rd_T63 l0 (ji13)).f0).toList) (((rd_T63 l0 x12_1).f0).toList)) = true := c16
             clear c16
             replace H := Option.bind_eq_some_iff.mp H
             obtain ⟨t173, A170, H⟩ := H
             replace H : (if t173 = true then (spec_GoodAssets.j1 k1 l0 l0 (l0.length : Int) x12_1 (decide ((((rd_T63 l0 x12_1).f2).length : Int) > 400)) ((rd_T63 l0 x12_1).f0) ((rd_T63 l0 x12_1).f1) ((rd_T63 l0 x12_1).f2)) else (spec_GoodAssets.j1 k1 l0 l0 (l0.length : Int) x12_1 true ((rd_T63 l0 x12_1).f0) ((rd_T63 l0 x12_1).f1) ((rd_T63 l0 x12_1).f2))) = some r := H
             have A17 := Aside0.mk A170
             clear A170
             by_cases c18 : t173 = true
             ·subst c18
              have H1 : (spec_GoodAssets.j1 k1 l0 l0 (l0.length : Int) x12_1 (decide ((((rd_T63 l0 x12_1).f2).length : Int) > 400)) ((rd_T63 l0 x12_1).f0) ((rd_T63 l0 x12_1).f1) ((rd_T63 l0 x12_1).f2)) = some r := by rw [if_pos rfl] at H; exact H
              clear H
              have H := H1
              clear H1
              have H' := Aside0.mk H
              clear H
              try go_wp2
              replace BK170 := Aside0.mk (blk_drew BK170.out)
              replace HB := Aside0.mk (below_drew1 HB.out)
              have p172 : 0 ≤ ((ji13) : Int) := of_decide_eq_true hE
              have q172 : (ji13) < (l0.length : Int) := of_decide_eq_true hE
              obtain ⟨ad172, A172_1, c172_1, A172_2, c172_2, e172, hx172_0, hx172_1, hx172_2, hl172_1, hi172_1, hl172_2, hi172_2⟩ := at_T63 HR0.out (ji13) p172 q172
              have hw172_2 := hx172_2
              have hw172_1 := hx172_1
              have hw172_0 := hx172_0
              obtain rfl : ad169 = ad172 := (by injection e172)
              replace hx172_0 := (HB.out.cell (World.block_lt_of_cell? w _ hx172_0)).trans hx172_0
              replace hx172_1 := (HB.out.cell (World.block_lt_of_cell? w _ hx172_1)).trans hx172_1
              replace hx172_2 := (HB.out.cell (World.block_lt_of_cell? w _ hx172_2)).trans hx172_2
              have HR172_1 := Aside0.mk hi172_1
              have HC172_1 := Aside0.mk hl172_1
              clear hi172_1 hl172_1
              have HR172_2 := Aside0.mk hi172_2
              have HC172_2 := Aside0.mk hl172_2
              clear hi172_2 hl172_2
              replace p172 := eq_true p172
              replace q172 := eq_true q172
              refine start_ (n := 31) (S := fun w' => w'.cell? ⟨gb170, 0, none⟩ = some (.string ((rd_T63 l0 x12_1).f0)) ∧ w'.cell? ⟨gb170, 1, none⟩ = some (.slice A169_1 ((rd_T63 l0 x12_1).f1).length c169_1) ∧ w'.cell? ⟨gb170, 2, none⟩ = some (.slice A169_2 ((rd_T63 l0 x12_1).f2).length c169_2) ∧ w'.cell? (ad169.add (((ji13)).toNat * 3)) = some (.string ((rd_T63 l0 (ji13)).f0)) ∧ w'.cell? ⟨(ad169.add (((ji13)).toNat * 3)).block, (ad169.add (((ji13)).toNat * 3)).off + 1, none⟩ = some (.slice A172_1 ((rd_T63 l0 (ji13)).f1).length c172_1) ∧ w'.cell? ⟨(ad169.add (((ji13)).toNat * 3)).block, (ad169.add (((ji13)).toNat * 3)).off + 2, none⟩ = some (.slice A172_2 ((rd_T63 l0 (ji13)).f2).length c172_2)) (ds := []) #[false, false, false, false, false, false, false, false, false, false, false, false, false, false, false, false, false, false, false, false, false, false, false, false, false, false, false, false, false, false, false] (by kernel_rfl) rfl rfl ⟨cz BK170 0 _, cz BK170 1 _, cz BK170 2 _, ((HB.out.cell (World.block_lt_of_cell? w _ hw172_0)).trans hw172_0), ((HB.out.cell (World.block_lt_of_cell? w _ hw172_1)).trans hw172_1), ((HB.out.cell (World.block_lt_of_cell? w _ hw172_2)).trans hw172_2)⟩ (fun hHeld => ?_); refine with_tabW spec_GoodAssets.tab6 spec_GoodAssets.bits6 (fun HT_ HW_ => ?_)
              generalize w9.drew = w19 at BK170 HB HR172_1 HR172_2 hx172_0 hx172_1 hx172_2 hHeld ⊢
              refine pureA 0 17 (bz 31 1) rfl rfl (any_of HT_.out (by kernel_rfl)) ?_
              refine takeA 1 18 (bz 31 3) rfl rfl (take_ofW HT_.out HW_.out (by kernel_rfl)) hHeld (by rintro w' ⟨s0, s1, s2, s3, s4, s5⟩; go_simp; with_reducible rfl) ?_
              refine one_ (i := 2) (N := some 19) (bz 31 7) rfl rfl (one_of HT_.out (by kernel_rfl)) (by decide) (fun K hK => ?_)
              refine goes_ Try.func29 (by kernel_rfl) rfl #[.string ((rd_T63 l0 x12_1).f0)] (by rfl) rfl rfl aE ?_
              with_reducible refine (spec_GoodName.calls k1 ((rd_T63 l0 x12_1).f0) true _ A10.out).mono ?_
              rintro e w' ⟨rfl, ⟨nd, rfl⟩⟩
              refine ⟨_, rfl, ?_⟩
              refine hK.out _ _ ⟨cz BK170 0 _, cz BK170 1 _, cz BK170 2 _, ((HB.out.cell (World.block_lt_of_cell? w _ hw172_0)).trans hw172_0), ((HB.out.cell (World.block_lt_of_cell? w _ hw172_1)).trans hw172_1), ((HB.out.cell (World.block_lt_of_cell? w _ hw172_2)).trans hw172_2)⟩ (fun hHeld => ?_)
              clear hK K
              refine norm_ (a' := ?_) ?_ ?_
              rotate_left
              ·show Act.put _ (some 19) _ = _
               simp only [Act.put, List.setIfInBounds_toArray, List.set_cons_zero, List.set_cons_succ, i64_w, i32_w]
               rfl
              refine pureA 3 20 (bz 31 15) rfl rfl (any_of HT_.out (by kernel_rfl)) ?_
              refine pureA 4 21 (bz 31 31) rfl rfl (any_of HT_.out (by kernel_rfl)) ?_
              refine pureA 5 22 (bz 31 63) rfl rfl (any_of HT_.out (by kernel_rfl)) ?_
              refine pureA 6 23 (bz 31 127) rfl rfl (any_of HT_.out (by kernel_rfl)) ?_
              refine pureA 7 24 (bz 31 255) rfl rfl (any_of HT_.out (by kernel_rfl)) ?_
              refine pureA 8 25 (bz 31 511) rfl rfl (any_of HT_.out (by kernel_rfl)) ?_
              refine pureA 9 26 (bz 31 1023) rfl rfl (any_of HT_.out (by kernel_rfl)) ?_
              refine pureA 10 27 (bz 31 2047) rfl rfl (any_of HT_.out (by kernel_rfl)) ?_
              refine pureA 11 28 (bz 31 4095) rfl rfl (any_of HT_.out (by kernel_rfl)) ?_
              refine pureA 12 29 (bz 31 8191) rfl rfl (any_of HT_.out (by kernel_rfl)) ?_
              refine pureA 14 31 (bz 31 24575) rfl rfl (any_of HT_.out (by kernel_rfl)) ?_
              refine takeA 13 30 (bz 31 32767) rfl rfl (take_ofW HT_.out HW_.out (by kernel_rfl)) hHeld (by rintro w' ⟨s0, s1, s2, s3, s4, s5⟩; go_simp; with_reducible rfl) ?_
              refine takeA 15 32 (bz 31 65535) rfl rfl (take_ofW HT_.out HW_.out (by kernel_rfl)) hHeld (by rintro w' ⟨s0, s1, s2, s3, s4, s5⟩; go_simp; with_reducible rfl) ?_
              refine pureA 16 33 (bz 31 131071) rfl rfl (any_of HT_.out (by kernel_rfl)) ?_
              refine pureA 17 34 (bz 31 262143) rfl rfl (any_of HT_.out (by kernel_rfl)) ?_
              refine pureA 18 35 (bz 31 524287) rfl rfl (any_of HT_.out (by kernel_rfl)) ?_
              refine pureA 19 36 (bz 31 1048575) rfl rfl (any_of HT_.out (by kernel_rfl)) ?_
              refine pureA 20 37 (bz 31 2097151) rfl rfl (any_of HT_.out (by kernel_rfl)) ?_
              refine takeA 21 38 (bz 31 4194303) rfl rfl (take_ofW HT_.out HW_.out (by kernel_rfl)) hHeld (by rintro w' ⟨s0, s1, s2, s3, s4, s5⟩; go_simp; with_reducible rfl) ?_
              refine one_ (i := 22) (N := some 39) (bz 31 8388607) rfl rfl (one_of HT_.out (by kernel_rfl)) (by decide) (fun K hK => ?_)
              refine goes_ Try.func30 (by kernel_rfl) rfl #[.slice A169_1 ((rd_T63 l0 x12_1).f1).length c169_1, .int .i64 10] (by rfl) rfl rfl aE ?_
              with_reducible refine (spec_l3Names.calls k1 _ _ ((rd_T63 l0 x12_1).f1) 10 true _ ?side1 ?side2 A17.out).mono ?_
              (case side1 => exact cU (Kd.C_below HR169_1.out (lV1 GE170)))
              (case side2 => exact HC169_1.out)
              rintro e w' ⟨rfl, ⟨nd, rfl⟩⟩
              refine ⟨_, rfl, ?_⟩
              refine hK.out _ _ ⟨cz BK170 0 _, cz BK170 1 _, cz BK170 2 _, ((HB.out.cell (World.block_lt_of_cell? w _ hw172_0)).trans hw172_0), ((HB.out.cell (World.block_lt_of_cell? w _ hw172_1)).trans hw172_1), ((HB.out.cell (World.block_lt_of_cell? w _ hw172_2)).trans hw172_2)⟩ (fun hHeld => ?_)
              clear hK K
              refine norm_ (a' := ?_) ?_ ?_
              rotate_left
              ·show Act.put _ (some 39) _ = _
               simp only [Act.put, List.setIfInBounds_toArray, List.set_cons_zero, List.set_cons_succ, i64_w, i32_w]
               rfl
              refine pureA 23 40 (bz 31 16777215) rfl rfl (any_of HT_.out (by kernel_rfl)) ?_
              refine pureA 24 41 (bz 31 33554431) rfl rfl (any_of HT_.out (by kernel_rfl)) ?_
              refine pureA 25 42 (bz 31 67108863) rfl rfl (any_of HT_.out (by kernel_rfl)) ?_
              refine pureA 26 43 (bz 31 134217727) rfl rfl (any_of HT_.out (by kernel_rfl)) ?_
              refine takeA 27 44 (bz 31 268435455) rfl rfl (take_ofW HT_.out HW_.out (by kernel_rfl)) hHeld (by rintro w' ⟨s0, s1, s2, s3, s4, s5⟩; go_simp; with_reducible rfl) ?_
              refine pureA 28 45 (bz 31 536870911) rfl rfl (any_of HT_.out (by kernel_rfl)) ?_
              refine pureA 29 46 (bz 31 1073741823) rfl rfl (any_of HT_.out (by kernel_rfl)) ?_
              refine pureA 30 47 (bz 31 2147483647) rfl rfl (any_of HT_.out (by kernel_rfl)) ?_
              refine done_ (done_of HT_.out (by kernel_rfl)) ?_
              try go_wp2
              go_meet
              case rel => exact ⟨_, (decide ((((rd_T63 l0 x12_1).f2).length : Int) > 400)), tE, H', ⟨by have := HK1.out; first | omega | exact Nat.le_refl _⟩, ⟨by refine bU ?_; exact BK170.out⟩, ⟨by repeat (first | (with_reducible first | exact HB.out | apply below_alloc | apply pw_below_drewN | apply below_drew1 | refine below_set ?_ GE170.out) | exact HB.out)⟩⟩
             ·replace c18 := Bool.eq_false_iff.mpr c18
              subst c18
              have H1 : (spec_GoodAssets.j1 k1 l0 l0 (l0.length : Int) x12_1 true ((rd_T63 l0 x12_1).f0) ((rd_T63 l0 x12_1).f1) ((rd_T63 l0 x12_1).f2)) = some r := by rw [if_neg (show ¬ (false = true) by decide)] at H; exact H
              clear H
              have H := H1
              clear H1
              have H' := Aside0.mk H
              clear H
              try go_wp2
              replace BK170 := Aside0.mk (blk_drew BK170.out)
              replace HB := Aside0.mk (below_drew1 HB.out)
              have p172 : 0 ≤ ((ji13) : Int) := of_decide_eq_true hE
              have q172 : (ji13) < (l0.length : Int) := of_decide_eq_true hE
              obtain ⟨ad172, A172_1, c172_1, A172_2, c172_2, e172, hx172_0, hx172_1, hx172_2, hl172_1, hi172_1, hl172_2, hi172_2⟩ := at_T63 HR0.out (ji13) p172 q172
              have hw172_2 := hx172_2
              have hw172_1 := hx172_1
              have hw172_0 := hx172_0
              obtain rfl : ad169 = ad172 := (by injection e172)
              replace hx172_0 := (HB.out.cell (World.block_lt_of_cell? w _ hx172_0)).trans hx172_0
              replace hx172_1 := (HB.out.cell (World.block_lt_of_cell? w _ hx172_1)).trans hx172_1
              replace hx172_2 := (HB.out.cell (World.block_lt_of_cell? w _ hx172_2)).trans hx172_2
              have HR172_1 := Aside0.mk hi172_1
              have HC172_1 := Aside0.mk hl172_1
              clear hi172_1 hl172_1
              have HR172_2 := Aside0.mk hi172_2
              have HC172_2 := Aside0.mk hl172_2
              clear hi172_2 hl172_2
              replace p172 := eq_true p172
              replace q172 := eq_true q172
              refine start_ (n := 31) (S := fun w' => w'.cell? ⟨gb170, 0, none⟩ = some (.string ((rd_T63 l0 x12_1).f0)) ∧ w'.cell? ⟨gb170, 1, none⟩ = some (.slice A169_1 ((rd_T63 l0 x12_1).f1).length c169_1) ∧ w'.cell? ⟨gb170, 2, none⟩ = some (.slice A169_2 ((rd_T63 l0 x12_1).f2).length c169_2) ∧ w'.cell? (ad169.add (((ji13)).toNat * 3)) = some (.string ((rd_T63 l0 (ji13)).f0)) ∧ w'.cell? ⟨(ad169.add (((ji13)).toNat * 3)).block, (ad169.add (((ji13)).toNat * 3)).off + 1, none⟩ = some (.slice A172_1 ((rd_T63 l0 (ji13)).f1).length c172_1) ∧ w'.cell? ⟨(ad169.add (((ji13)).toNat * 3)).block, (ad169.add (((ji13)).toNat * 3)).off + 2, none⟩ = some (.slice A172_2 ((rd_T63 l0 (ji13)).f2).length c172_2)) (ds := []) #[false, false, false, false, false, false, false, false, false, false, false, false, false, false, false, false, false, false, false, false, false, false, false, false, false, false, false, false, false, false, false] (by kernel_rfl) rfl rfl ⟨cz BK170 0 _, cz BK170 1 _, cz BK170 2 _, ((HB.out.cell (World.block_lt_of_cell? w _ hw172_0)).trans hw172_0), ((HB.out.cell (World.block_lt_of_cell? w _ hw172_1)).trans hw172_1), ((HB.out.cell (World.block_lt_of_cell? w _ hw172_2)).trans hw172_2)⟩ (fun hHeld => ?_); refine with_tabW spec_GoodAssets.tab6 spec_GoodAssets.bits6 (fun HT_ HW_ => ?_)
              generalize w9.drew = w20 at BK170 HB HR172_1 HR172_2 hx172_0 hx172_1 hx172_2 hHeld ⊢
              refine pureA 0 17 (bz 31 1) rfl rfl (any_of HT_.out (by kernel_rfl)) ?_
              refine takeA 1 18 (bz 31 3) rfl rfl (take_ofW HT_.out HW_.out (by kernel_rfl)) hHeld (by rintro w' ⟨s0, s1, s2, s3, s4, s5⟩; go_simp; with_reducible rfl) ?_
              refine one_ (i := 2) (N := some 19) (bz 31 7) rfl rfl (one_of HT_.out (by kernel_rfl)) (by decide) (fun K hK => ?_)
              refine goes_ Try.func29 (by kernel_rfl) rfl #[.string ((rd_T63 l0 x12_1).f0)] (by rfl) rfl rfl aE ?_
              with_reducible refine (spec_GoodName.calls k1 ((rd_T63 l0 x12_1).f0) true _ A10.out).mono ?_
              rintro e w' ⟨rfl, ⟨nd, rfl⟩⟩
              refine ⟨_, rfl, ?_⟩
              refine hK.out _ _ ⟨cz BK170 0 _, cz BK170 1 _, cz BK170 2 _, ((HB.out.cell (World.block_lt_of_cell? w _ hw172_0)).trans hw172_0), ((HB.out.cell (World.block_lt_of_cell? w _ hw172_1)).trans hw172_1), ((HB.out.cell (World.block_lt_of_cell? w _ hw172_2)).trans hw172_2)⟩ (fun hHeld => ?_)
              clear hK K
              refine norm_ (a' := ?_) ?_ ?_
              rotate_left
              ·show Act.put _ (some 19) _ = _
               simp only [Act.put, List.setIfInBounds_toArray, List.set_cons_zero, List.set_cons_succ, i64_w, i32_w]
               rfl
              refine pureA 3 20 (bz 31 15) rfl rfl (any_of HT_.out (by kernel_rfl)) ?_
              refine pureA 4 21 (bz 31 31) rfl rfl (any_of HT_.out (by kernel_rfl)) ?_
              refine pureA 5 22 (bz 31 63) rfl rfl (any_of HT_.out (by kernel_rfl)) ?_
              refine pureA 6 23 (bz 31 127) rfl rfl (any_of HT_.out (by kernel_rfl)) ?_
              refine pureA 7 24 (bz 31 255) rfl rfl (any_of HT_.out (by kernel_rfl)) ?_
              refine pureA 8 25 (bz 31 511) rfl rfl (any_of HT_.out (by kernel_rfl)) ?_
              refine pureA 9 26 (bz 31 1023) rfl rfl (any_of HT_.out (by kernel_rfl)) ?_
              refine pureA 10 27 (bz 31 2047) rfl rfl (any_of HT_.out (by kernel_rfl)) ?_
              refine pureA 11 28 (bz 31 4095) rfl rfl (any_of HT_.out (by kernel_rfl)) ?_
              refine pureA 12 29 (bz 31 8191) rfl rfl (any_of HT_.out (by kernel_rfl)) ?_
              refine pureA 14 31 (bz 31 24575) rfl rfl (any_of HT_.out (by kernel_rfl)) ?_
              refine takeA 13 30 (bz 31 32767) rfl rfl (take_ofW HT_.out HW_.out (by kernel_rfl)) hHeld (by rintro w' ⟨s0, s1, s2, s3, s4, s5⟩; go_simp; with_reducible rfl) ?_
              refine takeA 15 32 (bz 31 65535) rfl rfl (take_ofW HT_.out HW_.out (by kernel_rfl)) hHeld (by rintro w' ⟨s0, s1, s2, s3, s4, s5⟩; go_simp; with_reducible rfl) ?_
              refine pureA 16 33 (bz 31 131071) rfl rfl (any_of HT_.out (by kernel_rfl)) ?_
              refine pureA 17 34 (bz 31 262143) rfl rfl (any_of HT_.out (by kernel_rfl)) ?_
              refine pureA 18 35 (bz 31 524287) rfl rfl (any_of HT_.out (by kernel_rfl)) ?_
              refine pureA 19 36 (bz 31 1048575) rfl rfl (any_of HT_.out (by kernel_rfl)) ?_
              refine pureA 20 37 (bz 31 2097151) rfl rfl (any_of HT_.out (by kernel_rfl)) ?_
              refine takeA 21 38 (bz 31 4194303) rfl rfl (take_ofW HT_.out HW_.out (by kernel_rfl)) hHeld (by rintro w' ⟨s0, s1, s2, s3, s4, s5⟩; go_simp; with_reducible rfl) ?_
              refine one_ (i := 22) (N := some 39) (bz 31 8388607) rfl rfl (one_of HT_.out (by kernel_rfl)) (by decide) (fun K hK => ?_)
              refine goes_ Try.func30 (by kernel_rfl) rfl #[.slice A169_1 ((rd_T63 l0 x12_1).f1).length c169_1, .int .i64 10] (by rfl) rfl rfl aE ?_
              with_reducible refine (spec_l3Names.calls k1 _ _ ((rd_T63 l0 x12_1).f1) 10 false _ ?side1 ?side2 A17.out).mono ?_
              (case side1 => exact cU (Kd.C_below HR169_1.out (lV1 GE170)))
              (case side2 => exact HC169_1.out)
              rintro e w' ⟨rfl, ⟨nd, rfl⟩⟩
              refine ⟨_, rfl, ?_⟩
              refine hK.out _ _ ⟨cz BK170 0 _, cz BK170 1 _, cz BK170 2 _, ((HB.out.cell (World.block_lt_of_cell? w _ hw172_0)).trans hw172_0), ((HB.out.cell (World.block_lt_of_cell? w _ hw172_1)).trans hw172_1), ((HB.out.cell (World.block_lt_of_cell? w _ hw172_2)).trans hw172_2)⟩ (fun hHeld => ?_)
              clear hK K
              refine norm_ (a' := ?_) ?_ ?_
              rotate_left
              ·show Act.put _ (some 39) _ = _
               simp only [Act.put, List.setIfInBounds_toArray, List.set_cons_zero, List.set_cons_succ, i64_w, i32_w]
               rfl
              refine pureA 23 40 (bz 31 16777215) rfl rfl (any_of HT_.out (by kernel_rfl)) ?_
              refine pureA 24 41 (bz 31 33554431) rfl rfl (any_of HT_.out (by kernel_rfl)) ?_
              refine pureA 25 42 (bz 31 67108863) rfl rfl (any_of HT_.out (by kernel_rfl)) ?_
              refine pureU 26 43 (bz 31 134217727) rfl rfl (any_of HT_.out (by kernel_rfl)) ?_
              refine pureU 27 44 (bz 31 268435455) rfl rfl (any_of HT_.out (by kernel_rfl)) ?_
              refine pureU 28 45 (bz 31 536870911) rfl rfl (any_of HT_.out (by kernel_rfl)) ?_
              refine pureU 29 46 (bz 31 1073741823) rfl rfl (any_of HT_.out (by kernel_rfl)) ?_
              refine pureA 30 47 (bz 31 2147483647) rfl rfl (any_of HT_.out (by kernel_rfl)) ?_
              refine done_ (done_of HT_.out (by kernel_rfl)) ?_
              try go_wp2
              go_meet
              case rel => exact ⟨_, (true), tE, H', ⟨by have := HK1.out; first | omega | exact Nat.le_refl _⟩, ⟨by refine bU ?_; exact BK170.out⟩, ⟨by repeat (first | (with_reducible first | exact HB.out | apply below_alloc | apply pw_below_drewN | apply below_drew1 | refine below_set ?_ GE170.out) | exact HB.out)⟩⟩
            ·rw [if_neg c16] at H
             have c16b0 : (Op.bytesLess (((rd_T63 l0 (ji13)).f0).toList) (((rd_T63 l0 x12_1).f0).toList)) = false := by simpa using c16
             clear c16
             have H' := Aside0.mk H
             clear H
             try go_wp2
             replace BK170 := Aside0.mk (blk_drew BK170.out)
             replace HB := Aside0.mk (below_drew1 HB.out)
             have p172 : 0 ≤ ((ji13) : Int) := of_decide_eq_true hE
             have q172 : (ji13) < (l0.length : Int) := of_decide_eq_true hE
             obtain ⟨ad172, A172_1, c172_1, A172_2, c172_2, e172, hx172_0, hx172_1, hx172_2, hl172_1, hi172_1, hl172_2, hi172_2⟩ := at_T63 HR0.out (ji13) p172 q172
             have hw172_2 := hx172_2
             have hw172_1 := hx172_1
             have hw172_0 := hx172_0
             obtain rfl : ad169 = ad172 := (by injection e172)
             replace hx172_0 := (HB.out.cell (World.block_lt_of_cell? w _ hx172_0)).trans hx172_0
             replace hx172_1 := (HB.out.cell (World.block_lt_of_cell? w _ hx172_1)).trans hx172_1
             replace hx172_2 := (HB.out.cell (World.block_lt_of_cell? w _ hx172_2)).trans hx172_2
             have HR172_1 := Aside0.mk hi172_1
             have HC172_1 := Aside0.mk hl172_1
             clear hi172_1 hl172_1
             have HR172_2 := Aside0.mk hi172_2
             have HC172_2 := Aside0.mk hl172_2
             clear hi172_2 hl172_2
             replace p172 := eq_true p172
             replace q172 := eq_true q172
             refine start_ (n := 31) (S := fun w' => w'.cell? ⟨gb170, 0, none⟩ = some (.string ((rd_T63 l0 x12_1).f0)) ∧ w'.cell? ⟨gb170, 1, none⟩ = some (.slice A169_1 ((rd_T63 l0 x12_1).f1).length c169_1) ∧ w'.cell? ⟨gb170, 2, none⟩ = some (.slice A169_2 ((rd_T63 l0 x12_1).f2).length c169_2) ∧ w'.cell? (ad169.add (((ji13)).toNat * 3)) = some (.string ((rd_T63 l0 (ji13)).f0)) ∧ w'.cell? ⟨(ad169.add (((ji13)).toNat * 3)).block, (ad169.add (((ji13)).toNat * 3)).off + 1, none⟩ = some (.slice A172_1 ((rd_T63 l0 (ji13)).f1).length c172_1) ∧ w'.cell? ⟨(ad169.add (((ji13)).toNat * 3)).block, (ad169.add (((ji13)).toNat * 3)).off + 2, none⟩ = some (.slice A172_2 ((rd_T63 l0 (ji13)).f2).length c172_2)) (ds := []) #[false, false, false, false, false, false, false, false, false, false, false, false, false, false, false, false, false, false, false, false, false, false, false, false, false, false, false, false, false, false, false] (by kernel_rfl) rfl rfl ⟨cz BK170 0 _, cz BK170 1 _, cz BK170 2 _, ((HB.out.cell (World.block_lt_of_cell? w _ hw172_0)).trans hw172_0), ((HB.out.cell (World.block_lt_of_cell? w _ hw172_1)).trans hw172_1), ((HB.out.cell (World.block_lt_of_cell? w _ hw172_2)).trans hw172_2)⟩ (fun hHeld => ?_); refine with_tabW spec_GoodAssets.tab6 spec_GoodAssets.bits6 (fun HT_ HW_ => ?_)
             generalize w9.drew = w21 at BK170 HB HR172_1 HR172_2 hx172_0 hx172_1 hx172_2 hHeld ⊢
             refine pureA 0 17 (bz 31 1) rfl rfl (any_of HT_.out (by kernel_rfl)) ?_
             refine takeA 1 18 (bz 31 3) rfl rfl (take_ofW HT_.out HW_.out (by kernel_rfl)) hHeld (by rintro w' ⟨s0, s1, s2, s3, s4, s5⟩; go_simp; with_reducible rfl) ?_
             refine one_ (i := 2) (N := some 19) (bz 31 7) rfl rfl (one_of HT_.out (by kernel_rfl)) (by decide) (fun K hK => ?_)
             refine goes_ Try.func29 (by kernel_rfl) rfl #[.string ((rd_T63 l0 x12_1).f0)] (by rfl) rfl rfl aE ?_
             with_reducible refine (spec_GoodName.calls k1 ((rd_T63 l0 x12_1).f0) true _ A10.out).mono ?_
             rintro e w' ⟨rfl, ⟨nd, rfl⟩⟩
             refine ⟨_, rfl, ?_⟩
             refine hK.out _ _ ⟨cz BK170 0 _, cz BK170 1 _, cz BK170 2 _, ((HB.out.cell (World.block_lt_of_cell? w _ hw172_0)).trans hw172_0), ((HB.out.cell (World.block_lt_of_cell? w _ hw172_1)).trans hw172_1), ((HB.out.cell (World.block_lt_of_cell? w _ hw172_2)).trans hw172_2)⟩ (fun hHeld => ?_)
             clear hK K
             refine norm_ (a' := ?_) ?_ ?_
             rotate_left
             ·show Act.put _ (some 19) _ = _
              simp only [Act.put, List.setIfInBounds_toArray, List.set_cons_zero, List.set_cons_succ, i64_w, i32_w]
              rfl
             refine pureA 3 20 (bz 31 15) rfl rfl (any_of HT_.out (by kernel_rfl)) ?_
             refine pureA 4 21 (bz 31 31) rfl rfl (any_of HT_.out (by kernel_rfl)) ?_
             refine pureA 5 22 (bz 31 63) rfl rfl (any_of HT_.out (by kernel_rfl)) ?_
             refine pureA 6 23 (bz 31 127) rfl rfl (any_of HT_.out (by kernel_rfl)) ?_
             refine pureA 7 24 (bz 31 255) rfl rfl (any_of HT_.out (by kernel_rfl)) ?_
             refine pureA 8 25 (bz 31 511) rfl rfl (any_of HT_.out (by kernel_rfl)) ?_
             refine pureA 9 26 (bz 31 1023) rfl rfl (any_of HT_.out (by kernel_rfl)) ?_
             refine pureA 10 27 (bz 31 2047) rfl rfl (any_of HT_.out (by kernel_rfl)) ?_
             refine pureA 11 28 (bz 31 4095) rfl rfl (any_of HT_.out (by kernel_rfl)) ?_
             refine pureA 12 29 (bz 31 8191) rfl rfl (any_of HT_.out (by kernel_rfl)) ?_
             refine pureA 14 31 (bz 31 24575) rfl rfl (any_of HT_.out (by kernel_rfl)) ?_
             refine takeA 13 30 (bz 31 32767) rfl rfl (take_ofW HT_.out HW_.out (by kernel_rfl)) hHeld (by rintro w' ⟨s0, s1, s2, s3, s4, s5⟩; go_simp; with_reducible rfl) ?_
             refine takeA 15 32 (bz 31 65535) rfl rfl (take_ofW HT_.out HW_.out (by kernel_rfl)) hHeld (by rintro w' ⟨s0, s1, s2, s3, s4, s5⟩; go_simp; with_reducible rfl) ?_
             refine pureA 16 33 (bz 31 131071) rfl rfl (any_of HT_.out (by kernel_rfl)) ?_
             refine pureA 17 34 (bz 31 262143) rfl rfl (any_of HT_.out (by kernel_rfl)) ?_
             refine pureA 18 35 (bz 31 524287) rfl rfl (any_of HT_.out (by kernel_rfl)) ?_
             refine pureA 19 36 (bz 31 1048575) rfl rfl (any_of HT_.out (by kernel_rfl)) ?_
             refine pureU 20 37 (bz 31 2097151) rfl rfl (any_of HT_.out (by kernel_rfl)) ?_
             refine pureU 21 38 (bz 31 4194303) rfl rfl (any_of HT_.out (by kernel_rfl)) ?_
             refine pureU 22 39 (bz 31 8388607) rfl rfl (any_of HT_.out (by kernel_rfl)) ?_
             refine pureU 23 40 (bz 31 16777215) rfl rfl (any_of HT_.out (by kernel_rfl)) ?_
             refine pureA 24 41 (bz 31 33554431) rfl rfl (any_of HT_.out (by kernel_rfl)) ?_
             refine pureA 25 42 (bz 31 67108863) rfl rfl (any_of HT_.out (by kernel_rfl)) ?_
             refine pureU 26 43 (bz 31 134217727) rfl rfl (any_of HT_.out (by kernel_rfl)) ?_
             refine pureU 27 44 (bz 31 268435455) rfl rfl (any_of HT_.out (by kernel_rfl)) ?_
             refine pureU 28 45 (bz 31 536870911) rfl rfl (any_of HT_.out (by kernel_rfl)) ?_
             refine pureU 29 46 (bz 31 1073741823) rfl rfl (any_of HT_.out (by kernel_rfl)) ?_
             refine pureA 30 47 (bz 31 2147483647) rfl rfl (any_of HT_.out (by kernel_rfl)) ?_
             refine done_ (done_of HT_.out (by kernel_rfl)) ?_
             try go_wp2
             go_meet
             case rel => exact ⟨_, (true), tE, H', ⟨by have := HK1.out; first | omega | exact Nat.le_refl _⟩, ⟨by refine bU ?_; exact BK170.out⟩, ⟨by repeat (first | (with_reducible first | exact HB.out | apply below_alloc | apply pw_below_drewN | apply below_drew1 | refine below_set ?_ GE170.out) | exact HB.out)⟩⟩
           ·rw [if_neg c15] at H
            exact absurd H (by simp)
          ·rw [if_neg c14] at H
           exact absurd H (by simp)
         ·rw [if_neg c12] at H
          have c12b0 : decide (0 < x12_1) = false := decide_eq_false c12
          clear c12
          (first | rw [c12b0] | (simp only [i64_w, i32_w]; rw [c12b0]) | (rw [c12b2]; simp only [Bool.not_false, Bool.not_true]) | skip)
          replace H := Option.bind_eq_some_iff.mp H
          obtain ⟨t174, A220, H⟩ := H
          replace H : (if t174 = true then (spec_GoodAssets.j1 k1 l0 l0 (l0.length : Int) x12_1 (decide ((((rd_T63 l0 x12_1).f2).length : Int) > 400)) ((rd_T63 l0 x12_1).f0) ((rd_T63 l0 x12_1).f1) ((rd_T63 l0 x12_1).f2)) else (spec_GoodAssets.j1 k1 l0 l0 (l0.length : Int) x12_1 true ((rd_T63 l0 x12_1).f0) ((rd_T63 l0 x12_1).f1) ((rd_T63 l0 x12_1).f2))) = some r := H
          have A22 := Aside0.mk A220
          clear A220
          by_cases c23 : t174 = true
          ·subst c23
           have H1 : (spec_GoodAssets.j1 k1 l0 l0 (l0.length : Int) x12_1 (decide ((((rd_T63 l0 x12_1).f2).length : Int) > 400)) ((rd_T63 l0 x12_1).f0) ((rd_T63 l0 x12_1).f1) ((rd_T63 l0 x12_1).f2)) = some r := by rw [if_pos rfl] at H; exact H
           clear H
           have H := H1
           clear H1
           have H' := Aside0.mk H
           clear H
           try go_wp2
           replace BK170 := Aside0.mk (blk_drew BK170.out)
           replace HB := Aside0.mk (below_drew1 HB.out)
           refine start_ (n := 31) (S := fun w' => w'.cell? ⟨gb170, 0, none⟩ = some (.string ((rd_T63 l0 x12_1).f0)) ∧ w'.cell? ⟨gb170, 1, none⟩ = some (.slice A169_1 ((rd_T63 l0 x12_1).f1).length c169_1) ∧ w'.cell? ⟨gb170, 2, none⟩ = some (.slice A169_2 ((rd_T63 l0 x12_1).f2).length c169_2)) (ds := []) #[false, false, false, false, false, false, false, false, false, false, false, false, false, false, false, false, false, false, false, false, false, false, false, false, false, false, false, false, false, false, false] (by kernel_rfl) rfl rfl ⟨cz BK170 0 _, cz BK170 1 _, cz BK170 2 _⟩ (fun hHeld => ?_); refine with_tabW spec_GoodAssets.tab6 spec_GoodAssets.bits6 (fun HT_ HW_ => ?_)
           generalize w9.drew = w24 at BK170 HB hHeld ⊢
           refine pureA 0 17 (bz 31 1) rfl rfl (any_of HT_.out (by kernel_rfl)) ?_
           refine takeA 1 18 (bz 31 3) rfl rfl (take_ofW HT_.out HW_.out (by kernel_rfl)) hHeld (by rintro w' ⟨s0, s1, s2⟩; go_simp; with_reducible rfl) ?_
           refine one_ (i := 2) (N := some 19) (bz 31 7) rfl rfl (one_of HT_.out (by kernel_rfl)) (by decide) (fun K hK => ?_)
           refine goes_ Try.func29 (by kernel_rfl) rfl #[.string ((rd_T63 l0 x12_1).f0)] (by rfl) rfl rfl aE ?_
           with_reducible refine (spec_GoodName.calls k1 ((rd_T63 l0 x12_1).f0) true _ A10.out).mono ?_
           rintro e w' ⟨rfl, ⟨nd, rfl⟩⟩
           refine ⟨_, rfl, ?_⟩
           refine hK.out _ _ ⟨cz BK170 0 _, cz BK170 1 _, cz BK170 2 _⟩ (fun hHeld => ?_)
           clear hK K
           refine norm_ (a' := ?_) ?_ ?_
           rotate_left
           ·show Act.put _ (some 19) _ = _
            simp only [Act.put, List.setIfInBounds_toArray, List.set_cons_zero, List.set_cons_succ, i64_w, i32_w]
            rfl
           refine pureA 3 20 (bz 31 15) rfl rfl (any_of HT_.out (by kernel_rfl)) ?_
           refine pureA 4 21 (bz 31 31) rfl rfl (any_of HT_.out (by kernel_rfl)) ?_
           refine pureA 5 22 (bz 31 63) rfl rfl (any_of HT_.out (by kernel_rfl)) ?_
           refine pureA 6 23 (bz 31 127) rfl rfl (any_of HT_.out (by kernel_rfl)) ?_
           refine pureA 7 24 (bz 31 255) rfl rfl (any_of HT_.out (by kernel_rfl)) ?_
           refine pureU 8 25 (bz 31 511) rfl rfl (any_of HT_.out (by kernel_rfl)) ?_
           refine pureU 9 26 (bz 31 1023) rfl rfl (any_of HT_.out (by kernel_rfl)) ?_
           refine pureU 10 27 (bz 31 2047) rfl rfl (any_of HT_.out (by kernel_rfl)) ?_
           refine pureU 11 28 (bz 31 4095) rfl rfl (any_of HT_.out (by kernel_rfl)) ?_
           refine pureU 12 29 (bz 31 8191) rfl rfl (any_of HT_.out (by kernel_rfl)) ?_
           refine pureU 13 30 (bz 31 16383) rfl rfl (any_of HT_.out (by kernel_rfl)) ?_
           refine pureU 14 31 (bz 31 32767) rfl rfl (any_of HT_.out (by kernel_rfl)) ?_
           refine pureU 15 32 (bz 31 65535) rfl rfl (any_of HT_.out (by kernel_rfl)) ?_
           refine pureU 16 33 (bz 31 131071) rfl rfl (any_of HT_.out (by kernel_rfl)) ?_
           refine pureA 17 34 (bz 31 262143) rfl rfl (any_of HT_.out (by kernel_rfl)) ?_
           refine pureA 18 35 (bz 31 524287) rfl rfl (any_of HT_.out (by kernel_rfl)) ?_
           refine pureA 19 36 (bz 31 1048575) rfl rfl (any_of HT_.out (by kernel_rfl)) ?_
           refine pureA 20 37 (bz 31 2097151) rfl rfl (any_of HT_.out (by kernel_rfl)) ?_
           refine takeA 21 38 (bz 31 4194303) rfl rfl (take_ofW HT_.out HW_.out (by kernel_rfl)) hHeld (by rintro w' ⟨s0, s1, s2⟩; go_simp; with_reducible rfl) ?_
           refine one_ (i := 22) (N := some 39) (bz 31 8388607) rfl rfl (one_of HT_.out (by kernel_rfl)) (by decide) (fun K hK => ?_)
           refine goes_ Try.func30 (by kernel_rfl) rfl #[.slice A169_1 ((rd_T63 l0 x12_1).f1).length c169_1, .int .i64 10] (by rfl) rfl rfl aE ?_
           with_reducible refine (spec_l3Names.calls k1 _ _ ((rd_T63 l0 x12_1).f1) 10 true _ ?side1 ?side2 A22.out).mono ?_
           (case side1 => exact cU (Kd.C_below HR169_1.out (lV1 GE170)))
           (case side2 => exact HC169_1.out)
           rintro e w' ⟨rfl, ⟨nd, rfl⟩⟩
           refine ⟨_, rfl, ?_⟩
           refine hK.out _ _ ⟨cz BK170 0 _, cz BK170 1 _, cz BK170 2 _⟩ (fun hHeld => ?_)
           clear hK K
           refine norm_ (a' := ?_) ?_ ?_
           rotate_left
           ·show Act.put _ (some 39) _ = _
            simp only [Act.put, List.setIfInBounds_toArray, List.set_cons_zero, List.set_cons_succ, i64_w, i32_w]
            rfl
           refine pureA 23 40 (bz 31 16777215) rfl rfl (any_of HT_.out (by kernel_rfl)) ?_
           refine pureA 24 41 (bz 31 33554431) rfl rfl (any_of HT_.out (by kernel_rfl)) ?_
           refine pureA 25 42 (bz 31 67108863) rfl rfl (any_of HT_.out (by kernel_rfl)) ?_
           refine pureA 26 43 (bz 31 134217727) rfl rfl (any_of HT_.out (by kernel_rfl)) ?_
           refine takeA 27 44 (bz 31 268435455) rfl rfl (take_ofW HT_.out HW_.out (by kernel_rfl)) hHeld (by rintro w' ⟨s0, s1, s2⟩; go_simp; with_reducible rfl) ?_
           refine pureA 28 45 (bz 31 536870911) rfl rfl (any_of HT_.out (by kernel_rfl)) ?_
           refine pureA 29 46 (bz 31 1073741823) rfl rfl (any_of HT_.out (by kernel_rfl)) ?_
           refine pureA 30 47 (bz 31 2147483647) rfl rfl (any_of HT_.out (by kernel_rfl)) ?_
           refine done_ (done_of HT_.out (by kernel_rfl)) ?_
           try go_wp2
           go_meet
           case rel => exact ⟨_, (decide ((((rd_T63 l0 x12_1).f2).length : Int) > 400)), tE, H', ⟨by have := HK1.out; first | omega | exact Nat.le_refl _⟩, ⟨by refine bU ?_; exact BK170.out⟩, ⟨by repeat (first | (with_reducible first | exact HB.out | apply below_alloc | apply pw_below_drewN | apply below_drew1 | refine below_set ?_ GE170.out) | exact HB.out)⟩⟩
          ·replace c23 := Bool.eq_false_iff.mpr c23
           subst c23
           have H1 : (spec_GoodAssets.j1 k1 l0 l0 (l0.length : Int) x12_1 true ((rd_T63 l0 x12_1).f0) ((rd_T63 l0 x12_1).f1) ((rd_T63 l0 x12_1).f2)) = some r := by rw [if_neg (show ¬ (false = true) by decide)] at H; exact H
           clear H
           have H := H1
           clear H1
           have H' := Aside0.mk H
           clear H
           try go_wp2
           replace BK170 := Aside0.mk (blk_drew BK170.out)
           replace HB := Aside0.mk (below_drew1 HB.out)
           refine start_ (n := 31) (S := fun w' => w'.cell? ⟨gb170, 0, none⟩ = some (.string ((rd_T63 l0 x12_1).f0)) ∧ w'.cell? ⟨gb170, 1, none⟩ = some (.slice A169_1 ((rd_T63 l0 x12_1).f1).length c169_1) ∧ w'.cell? ⟨gb170, 2, none⟩ = some (.slice A169_2 ((rd_T63 l0 x12_1).f2).length c169_2)) (ds := []) #[false, false, false, false, false, false, false, false, false, false, false, false, false, false, false, false, false, false, false, false, false, false, false, false, false, false, false, false, false, false, false] (by kernel_rfl) rfl rfl ⟨cz BK170 0 _, cz BK170 1 _, cz BK170 2 _⟩ (fun hHeld => ?_); refine with_tabW spec_GoodAssets.tab6 spec_GoodAssets.bits6 (fun HT_ HW_ => ?_)
           generalize w9.drew = w25 at BK170 HB hHeld ⊢
           refine pureA 0 17 (bz 31 1) rfl rfl (any_of HT_.out (by kernel_rfl)) ?_
           refine takeA 1 18 (bz 31 3) rfl rfl (take_ofW HT_.out HW_.out (by kernel_rfl)) hHeld (by rintro w' ⟨s0, s1, s2⟩; go_simp; with_reducible rfl) ?_
           refine one_ (i := 2) (N := some 19) (bz 31 7) rfl rfl (one_of HT_.out (by kernel_rfl)) (by decide) (fun K hK => ?_)
           refine goes_ Try.func29 (by kernel_rfl) rfl #[.string ((rd_T63 l0 x12_1).f0)] (by rfl) rfl rfl aE ?_
           with_reducible refine (spec_GoodName.calls k1 ((rd_T63 l0 x12_1).f0) true _ A10.out).mono ?_
           rintro e w' ⟨rfl, ⟨nd, rfl⟩⟩
           refine ⟨_, rfl, ?_⟩
           refine hK.out _ _ ⟨cz BK170 0 _, cz BK170 1 _, cz BK170 2 _⟩ (fun hHeld => ?_)
           clear hK K
           refine norm_ (a' := ?_) ?_ ?_
           rotate_left
           ·show Act.put _ (some 19) _ = _
            simp only [Act.put, List.setIfInBounds_toArray, List.set_cons_zero, List.set_cons_succ, i64_w, i32_w]
            rfl
           refine pureA 3 20 (bz 31 15) rfl rfl (any_of HT_.out (by kernel_rfl)) ?_
           refine pureA 4 21 (bz 31 31) rfl rfl (any_of HT_.out (by kernel_rfl)) ?_
           refine pureA 5 22 (bz 31 63) rfl rfl (any_of HT_.out (by kernel_rfl)) ?_
           refine pureA 6 23 (bz 31 127) rfl rfl (any_of HT_.out (by kernel_rfl)) ?_
           refine pureA 7 24 (bz 31 255) rfl rfl (any_of HT_.out (by kernel_rfl)) ?_
           refine pureU 8 25 (bz 31 511) rfl rfl (any_of HT_.out (by kernel_rfl)) ?_
           refine pureU 9 26 (bz 31 1023) rfl rfl (any_of HT_.out (by kernel_rfl)) ?_
           refine pureU 10 27 (bz 31 2047) rfl rfl (any_of HT_.out (by kernel_rfl)) ?_
           refine pureU 11 28 (bz 31 4095) rfl rfl (any_of HT_.out (by kernel_rfl)) ?_
           refine pureU 12 29 (bz 31 8191) rfl rfl (any_of HT_.out (by kernel_rfl)) ?_
           refine pureU 13 30 (bz 31 16383) rfl rfl (any_of HT_.out (by kernel_rfl)) ?_
           refine pureU 14 31 (bz 31 32767) rfl rfl (any_of HT_.out (by kernel_rfl)) ?_
           refine pureU 15 32 (bz 31 65535) rfl rfl (any_of HT_.out (by kernel_rfl)) ?_
           refine pureU 16 33 (bz 31 131071) rfl rfl (any_of HT_.out (by kernel_rfl)) ?_
           refine pureA 17 34 (bz 31 262143) rfl rfl (any_of HT_.out (by kernel_rfl)) ?_
           refine pureA 18 35 (bz 31 524287) rfl rfl (any_of HT_.out (by kernel_rfl)) ?_
           refine pureA 19 36 (bz 31 1048575) rfl rfl (any_of HT_.out (by kernel_rfl)) ?_
           refine pureA 20 37 (bz 31 2097151) rfl rfl (any_of HT_.out (by kernel_rfl)) ?_
           refine takeA 21 38 (bz 31 4194303) rfl rfl (take_ofW HT_.out HW_.out (by kernel_rfl)) hHeld (by rintro w' ⟨s0, s1, s2⟩; go_simp; with_reducible rfl) ?_
           refine one_ (i := 22) (N := some 39) (bz 31 8388607) rfl rfl (one_of HT_.out (by kernel_rfl)) (by decide) (fun K hK => ?_)
           refine goes_ Try.func30 (by kernel_rfl) rfl #[.slice A169_1 ((rd_T63 l0 x12_1).f1).length c169_1, .int .i64 10] (by rfl) rfl rfl aE ?_
           with_reducible refine (spec_l3Names.calls k1 _ _ ((rd_T63 l0 x12_1).f1) 10 false _ ?side1 ?side2 A22.out).mono ?_
           (case side1 => exact cU (Kd.C_below HR169_1.out (lV1 GE170)))
           (case side2 => exact HC169_1.out)
           rintro e w' ⟨rfl, ⟨nd, rfl⟩⟩
           refine ⟨_, rfl, ?_⟩
           refine hK.out _ _ ⟨cz BK170 0 _, cz BK170 1 _, cz BK170 2 _⟩ (fun hHeld => ?_)
           clear hK K
           refine norm_ (a' := ?_) ?_ ?_
           rotate_left
           ·show Act.put _ (some 39) _ = _
            simp only [Act.put, List.setIfInBounds_toArray, List.set_cons_zero, List.set_cons_succ, i64_w, i32_w]
            rfl
           refine pureA 23 40 (bz 31 16777215) rfl rfl (any_of HT_.out (by kernel_rfl)) ?_
           refine pureA 24 41 (bz 31 33554431) rfl rfl (any_of HT_.out (by kernel_rfl)) ?_
           refine pureA 25 42 (bz 31 67108863) rfl rfl (any_of HT_.out (by kernel_rfl)) ?_
           refine pureU 26 43 (bz 31 134217727) rfl rfl (any_of HT_.out (by kernel_rfl)) ?_
           refine pureU 27 44 (bz 31 268435455) rfl rfl (any_of HT_.out (by kernel_rfl)) ?_
           refine pureU 28 45 (bz 31 536870911) rfl rfl (any_of HT_.out (by kernel_rfl)) ?_
           refine pureU 29 46 (bz 31 1073741823) rfl rfl (any_of HT_.out (by kernel_rfl)) ?_
           refine pureA 30 47 (bz 31 2147483647) rfl rfl (any_of HT_.out (by kernel_rfl)) ?_
           refine done_ (done_of HT_.out (by kernel_rfl)) ?_
           try go_wp2
           go_meet
           case rel => exact ⟨_, (true), tE, H', ⟨by have := HK1.out; first | omega | exact Nat.le_refl _⟩, ⟨by refine bU ?_; exact BK170.out⟩, ⟨by repeat (first | (with_reducible first | exact HB.out | apply below_alloc | apply pw_below_drewN | apply below_drew1 | refine below_set ?_ GE170.out) | exact HB.out)⟩⟩
        ·replace c11 := Bool.eq_false_iff.mpr c11
         subst c11
         have H1 : (spec_GoodAssets.j1 k1 l0 l0 (l0.length : Int) x12_1 true ((rd_T63 l0 x12_1).f0) ((rd_T63 l0 x12_1).f1) ((rd_T63 l0 x12_1).f2)) = some r := by rw [if_neg (show ¬ (false = true) by decide)] at H; exact H
         clear H
         have H := H1
         clear H1
         have H' := Aside0.mk H
         clear H
         try go_wp2
         replace BK170 := Aside0.mk (blk_drew BK170.out)
         replace HB := Aside0.mk (below_drew1 HB.out)
         refine start_ (n := 31) (S := fun w' => w'.cell? ⟨gb170, 0, none⟩ = some (.string ((rd_T63 l0 x12_1).f0)) ∧ w'.cell? ⟨gb170, 1, none⟩ = some (.slice A169_1 ((rd_T63 l0 x12_1).f1).length c169_1) ∧ w'.cell? ⟨gb170, 2, none⟩ = some (.slice A169_2 ((rd_T63 l0 x12_1).f2).length c169_2)) (ds := []) #[false, false, false, false, false, false, false, false, false, false, false, false, false, false, false, false, false, false, false, false, false, false, false, false, false, false, false, false, false, false, false] (by kernel_rfl) rfl rfl ⟨cz BK170 0 _, cz BK170 1 _, cz BK170 2 _⟩ (fun hHeld => ?_); refine with_tabW spec_GoodAssets.tab6 spec_GoodAssets.bits6 (fun HT_ HW_ => ?_)
         generalize w9.drew = w26 at BK170 HB hHeld ⊢
         refine pureA 0 17 (bz 31 1) rfl rfl (any_of HT_.out (by kernel_rfl)) ?_
         refine takeA 1 18 (bz 31 3) rfl rfl (take_ofW HT_.out HW_.out (by kernel_rfl)) hHeld (by rintro w' ⟨s0, s1, s2⟩; go_simp; with_reducible rfl) ?_
         refine one_ (i := 2) (N := some 19) (bz 31 7) rfl rfl (one_of HT_.out (by kernel_rfl)) (by decide) (fun K hK => ?_)
         refine goes_ Try.func29 (by kernel_rfl) rfl #[.string ((rd_T63 l0 x12_1).f0)] (by rfl) rfl rfl aE ?_
         with_reducible refine (spec_GoodName.calls k1 ((rd_T63 l0 x12_1).f0) false _ A10.out).mono ?_
         rintro e w' ⟨rfl, ⟨nd, rfl⟩⟩
         refine ⟨_, rfl, ?_⟩
         refine hK.out _ _ ⟨cz BK170 0 _, cz BK170 1 _, cz BK170 2 _⟩ (fun hHeld => ?_)
         clear hK K
         refine norm_ (a' := ?_) ?_ ?_
         rotate_left
         ·show Act.put _ (some 19) _ = _
          simp only [Act.put, List.setIfInBounds_toArray, List.set_cons_zero, List.set_cons_succ, i64_w, i32_w]
          rfl
         refine pureA 3 20 (bz 31 15) rfl rfl (any_of HT_.out (by kernel_rfl)) ?_
         refine pureA 4 21 (bz 31 31) rfl rfl (any_of HT_.out (by kernel_rfl)) ?_
         refine pureU 5 22 (bz 31 63) rfl rfl (any_of HT_.out (by kernel_rfl)) ?_
         refine pureU 6 23 (bz 31 127) rfl rfl (any_of HT_.out (by kernel_rfl)) ?_
         refine pureU 7 24 (bz 31 255) rfl rfl (any_of HT_.out (by kernel_rfl)) ?_
         refine pureU 8 25 (bz 31 511) rfl rfl (any_of HT_.out (by kernel_rfl)) ?_
         refine pureU 9 26 (bz 31 1023) rfl rfl (any_of HT_.out (by kernel_rfl)) ?_
         refine pureU 10 27 (bz 31 2047) rfl rfl (any_of HT_.out (by kernel_rfl)) ?_
         refine pureU 11 28 (bz 31 4095) rfl rfl (any_of HT_.out (by kernel_rfl)) ?_
         refine pureU 12 29 (bz 31 8191) rfl rfl (any_of HT_.out (by kernel_rfl)) ?_
         refine pureU 13 30 (bz 31 16383) rfl rfl (any_of HT_.out (by kernel_rfl)) ?_
         refine pureU 14 31 (bz 31 32767) rfl rfl (any_of HT_.out (by kernel_rfl)) ?_
         refine pureU 15 32 (bz 31 65535) rfl rfl (any_of HT_.out (by kernel_rfl)) ?_
         refine pureU 16 33 (bz 31 131071) rfl rfl (any_of HT_.out (by kernel_rfl)) ?_
         refine pureU 17 34 (bz 31 262143) rfl rfl (any_of HT_.out (by kernel_rfl)) ?_
         refine pureA 18 35 (bz 31 524287) rfl rfl (any_of HT_.out (by kernel_rfl)) ?_
         refine pureA 19 36 (bz 31 1048575) rfl rfl (any_of HT_.out (by kernel_rfl)) ?_
         refine pureU 20 37 (bz 31 2097151) rfl rfl (any_of HT_.out (by kernel_rfl)) ?_
         refine pureU 21 38 (bz 31 4194303) rfl rfl (any_of HT_.out (by kernel_rfl)) ?_
         refine pureU 22 39 (bz 31 8388607) rfl rfl (any_of HT_.out (by kernel_rfl)) ?_
         refine pureU 23 40 (bz 31 16777215) rfl rfl (any_of HT_.out (by kernel_rfl)) ?_
         refine pureA 24 41 (bz 31 33554431) rfl rfl (any_of HT_.out (by kernel_rfl)) ?_
         refine pureA 25 42 (bz 31 67108863) rfl rfl (any_of HT_.out (by kernel_rfl)) ?_
         refine pureU 26 43 (bz 31 134217727) rfl rfl (any_of HT_.out (by kernel_rfl)) ?_
         refine pureU 27 44 (bz 31 268435455) rfl rfl (any_of HT_.out (by kernel_rfl)) ?_
         refine pureU 28 45 (bz 31 536870911) rfl rfl (any_of HT_.out (by kernel_rfl)) ?_
         refine pureU 29 46 (bz 31 1073741823) rfl rfl (any_of HT_.out (by kernel_rfl)) ?_
         refine pureA 30 47 (bz 31 2147483647) rfl rfl (any_of HT_.out (by kernel_rfl)) ?_
         refine done_ (done_of HT_.out (by kernel_rfl)) ?_
         try go_wp2
         go_meet
         case rel => exact ⟨_, (true), tE, H', ⟨by have := HK1.out; first | omega | exact Nat.le_refl _⟩, ⟨by refine bU ?_; exact BK170.out⟩, ⟨by repeat (first | (with_reducible first | exact HB.out | apply below_alloc | apply pw_below_drewN | apply below_drew1 | refine below_set ?_ GE170.out) | exact HB.out)⟩⟩
       case rest =>
        clear HC6
        try clear c1
        try clear c2
        try clear p2
        try clear c3
        try clear c11
        try clear c16
        try clear c23
        obtain ⟨kq, x47_5, rfl, HA, HJ5, BK170, HB⟩ := hcut
        cases kq with
        | zero => exact absurd HA.out (by simp [spec_GoodAssets.j1])
        | succ kj5 =>
         have H := HA.out
         clear HA
         simp only [spec_GoodAssets.j1] at H
         by_cases c27 : x47_5 = true
         ·subst c27
          have H1 : (some false) = some r := by rw [if_pos rfl] at H; exact H
          clear H
          have H := H1
          clear H1
          obtain rfl := Option.some.inj H
          go_wp2
          go_ret
          exact ⟨eE, lV1 GE170⟩
         ·replace c27 := Bool.eq_false_iff.mpr c27
          subst c27
          have H1 : (spec_GoodAssets.l1 kj5 l0 l0 (l0.length : Int) x12_1 ((rd_T63 l0 x12_1).f1) (((rd_T63 l0 x12_1).f1).length : Int) 0) = some r := by rw [if_neg (show ¬ (false = true) by decide)] at H; exact H
          clear H
          have H := H1
          clear H1
          have H' := Aside0.mk H
          clear H
          have hcz28_0 := cz BK170 0 (.string ((rd_T63 l0 x12_1).f0))
          have hcz28_1 := cz BK170 1 (.slice A169_1 ((rd_T63 l0 x12_1).f1).length c169_1)
          have hcz28_2 := cz BK170 2 (.slice A169_2 ((rd_T63 l0 x12_1).f2).length c169_2)
          have hfz28_0 := fz BK170 0
          have hfz28_1 := fz BK170 1
          have hfz28_2 := fz BK170 2
          go_wp2
          go_loopg [51] kj5 (fun kq v51 w' => ∃ (x51_3 : Int), v51 = .int .i64 x51_3 ∧ Aside0 (spec_GoodAssets.l1 kq l0 l0 (l0.length : Int) x12_1 ((rd_T63 l0 x12_1).f1) (((rd_T63 l0 x12_1).f1).length : Int) x51_3 = some r) ∧ Aside0 (kq ≤ kj5) ∧ Aside0 (w'.heap[gb170]? = some (.cells #[.string ((rd_T63 l0 x12_1).f0), (.slice A169_1 ((rd_T63 l0 x12_1).f1).length c169_1), (.slice A169_2 ((rd_T63 l0 x12_1).f2).length c169_2)] 63 (0, 0))) ∧ Aside0 (Below w.heap.size w w'))
          case atStart => exact ⟨(0), tE, H', ⟨Nat.le_refl _⟩, ⟨by refine bU ?_; exact BK170.out⟩, ⟨by repeat (first | (with_reducible first | exact HB.out | apply below_alloc | apply pw_below_drewN | apply below_drew1 | refine below_set ?_ GE170.out) | exact HB.out)⟩⟩
          case round =>
           clear H'
           try clear c1
           try clear c2
           try clear p2
           try clear c3
           try clear c11
           try clear c16
           try clear c23
           try clear c27
           try clear hcz28_0
           try clear hcz28_1
           try clear hcz28_2
           try clear hfz28_0
           try clear hfz28_1
           try clear hfz28_2
           try clear p2
           obtain ⟨x51_3, rfl, HA, HK3, BK170, HB⟩ := hrel
           cases gk with
           | zero => exact absurd HA.out (by simp [spec_GoodAssets.l1])
           | succ k3 =>
            have H := HA.out
            clear HA
            simp only [spec_GoodAssets.l1] at H
            by_cases c29 : x51_3 < (((rd_T63 l0 x12_1).f1).length : Int)
            ·rw [if_pos c29] at H
             have c29b0 : decide (x51_3 < (((rd_T63 l0 x12_1).f1).length : Int)) = true := decide_eq_true c29
             clear c29
             by_cases c30 : 0 ≤ x51_3
             ·rw [if_pos c30] at H
              have c30b0 : decide (0 ≤ x51_3) = true := decide_eq_true c30
              clear c30
              by_cases c31 : x51_3 < (((rd_T63 l0 x12_1).f1).length : Int)
              ·rw [if_pos c31] at H
               have c31b0 : decide (x51_3 < (((rd_T63 l0 x12_1).f1).length : Int)) = true := decide_eq_true c31
               clear c31
               replace H := Option.bind_eq_some_iff.mp H
               obtain ⟨t176, A320, H⟩ := H
               replace H : (if t176 < 0 then (some false) else (spec_GoodAssets.l1 k3 l0 l0 (l0.length : Int) x12_1 ((rd_T63 l0 x12_1).f1) (((rd_T63 l0 x12_1).f1).length : Int) (wrap64 (x51_3 + 1)))) = some r := H
               have A32 := Aside0.mk A320
               clear A320
               by_cases c33 : t176 < 0
               ·rw [if_pos c33] at H
                have c33b0 : decide (t176 < 0) = true := decide_eq_true c33
                clear c33
                obtain rfl := Option.some.inj H
                have p175 : 0 ≤ (x51_3 : Int) := of_decide_eq_true hE
                have q175 : x51_3 < (((rd_T63 l0 x12_1).f1).length : Int) := of_decide_eq_true hE
                obtain ⟨ad175, e175, hx175_0⟩ := Kd.at_string HR169_1.out x51_3 p175 q175
                cases e175
                replace hx175_0 := (HB.out.cell (World.block_lt_of_cell? w _ hx175_0)).trans hx175_0
                replace p175 := eq_true p175
                replace q175 := eq_true q175
                go_wp2_with (first | ((with_reducible refine gate_callee (f := 31) rfl ?_); refine goesL_ (some 57) rfl rfl Try.func31 (by kernel_rfl) rfl #[.slice (some ad169) l0.length c0, .string (rdOf ByteArray.empty ((rd_T63 l0 x12_1).f1) x51_3)] rfl aE ?_; (with_reducible refine (spec_l21At.calls k3 _ _ l0 (rdOf ByteArray.empty ((rd_T63 l0 x12_1).f1) x51_3) t176 _ ?side1 ?side2 A32.out).mono ?_); (case side1 => exact cU (Kd.C_below HR0.out HB.out)); (case side2 => exact HC0.out); rintro e w34 ⟨rfl, hb⟩; refine ⟨_, rfl, ?_⟩; replace BK170 := bB (bV BK170) hb; replace HB := bH (lV1 GE170) hb; (try clear hb)))
                go_ret
                exact ⟨eE, lV1 GE170⟩
               ·rw [if_neg c33] at H
                have c33b0 : decide (t176 < 0) = false := decide_eq_false c33
                clear c33
                have H' := Aside0.mk H
                clear H
                have p175 : 0 ≤ (x51_3 : Int) := of_decide_eq_true hE
                have q175 : x51_3 < (((rd_T63 l0 x12_1).f1).length : Int) := of_decide_eq_true hE
                obtain ⟨ad175, e175, hx175_0⟩ := Kd.at_string HR169_1.out x51_3 p175 q175
                cases e175
                replace hx175_0 := (HB.out.cell (World.block_lt_of_cell? w _ hx175_0)).trans hx175_0
                replace p175 := eq_true p175
                replace q175 := eq_true q175
                go_wp2_with (first | ((with_reducible refine gate_callee (f := 31) rfl ?_); refine goesL_ (some 57) rfl rfl Try.func31 (by kernel_rfl) rfl #[.slice (some ad169) l0.length c0, .string (rdOf ByteArray.empty ((rd_T63 l0 x12_1).f1) x51_3)] rfl aE ?_; (with_reducible refine (spec_l21At.calls k3 _ _ l0 (rdOf ByteArray.empty ((rd_T63 l0 x12_1).f1) x51_3) t176 _ ?side1 ?side2 A32.out).mono ?_); (case side1 => exact cU (Kd.C_below HR0.out HB.out)); (case side2 => exact HC0.out); rintro e w35 ⟨rfl, hb⟩; refine ⟨_, rfl, ?_⟩; replace BK170 := bB (bV BK170) hb; replace HB := bH (lV1 GE170) hb; (try clear hb)))
                go_roundg k3
                case measure => have := HK1.out; have := HJ5.out; have := HK3.out; omega
                case rel => exact ⟨(wrap64 (x51_3 + 1)), tE, H', ⟨by have := HK1.out; have := HJ5.out; have := HK3.out; omega⟩, ⟨by refine bU ?_; exact BK170.out⟩, ⟨by repeat (first | (with_reducible first | exact HB.out | apply below_alloc | apply pw_below_drewN | apply below_drew1 | refine below_set ?_ GE170.out) | exact HB.out)⟩⟩
              ·rw [if_neg c31] at H
               exact absurd H (by simp)
             ·rw [if_neg c30] at H
              exact absurd H (by simp)
            ·rw [if_neg c29] at H
             have c29b0 : decide (x51_3 < (((rd_T63 l0 x12_1).f1).length : Int)) = false := decide_eq_false c29
             clear c29
             have H' := Aside0.mk H
             clear H
             go_wp2
             go_roundg k3
             case measure => have := HK1.out; have := HJ5.out; have := HK3.out; omega
             case rel => exact ⟨(wrap64 (x12_1 + 1)), tE, H', ⟨by have := HK1.out; have := HJ5.out; have := HK3.out; omega⟩, ⟨by repeat (first | (with_reducible first | exact HB.out | apply below_alloc | apply pw_below_drewN | apply below_drew1 | refine below_set ?_ GE170.out) | exact HB.out)⟩⟩
      ·rw [if_neg c5] at H
       exact absurd H (by simp)
     ·rw [if_neg c4] at H
      exact absurd H (by simp)
    ·rw [if_neg c3] at H
     have c3b0 : decide (x12_1 < (l0.length : Int)) = false := decide_eq_false c3
     clear c3
     replace H := Option.bind_eq_some_iff.mp H
     obtain ⟨t166, A360, H⟩ := H
     replace H : (some ((t166.length : Int) == (l0.length : Int))) = some r := H
     have A36 := Aside0.mk A360
     clear A360
     obtain rfl := Option.some.inj H
     go_wp2_with (first | ((with_reducible refine gate_callee (f := 32) rfl ?_); refine goesL_ (some 62) rfl rfl Try.func32 (by kernel_rfl) rfl #[.slice A0 l0.length c0] rfl aE ?_; (with_reducible refine (spec_l21Order.calls k1 _ _ l0 t166 _ ?side1 ?side2 A36.out).mono ?_); (case side1 => exact cU (Kd.C_below HR0.out HB.out)); (case side2 => exact HC0.out); rintro e w37 ⟨v167, rfl, ho0, hb⟩; refine ⟨_, rfl, ?_⟩; have HO168 := Aside0.mk (Kd.R_lower ho0 (below_size (lU))); replace HB := bH (lU) hb; (try clear hb); (try clear ho0); obtain ⟨Ao38, co38, eo38⟩ := Kd.R_slice HO168.out; subst eo38))
     go_ret
     exact ⟨eE, lU⟩
end Go.Proofs.Ytifejplilaefiaa.PFnExactMakeOrder
