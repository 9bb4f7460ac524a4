/- Texts of the row of the law FnExactSparksAt, laid together. -/
import Derived.Test.YthgfobcckoedaaaZFnExactSparksAt0
import Derived.Deep.RegionLaw
import Derived.Lib.SliceRun
import Derived.Laws.Externs
import Derived.Test.YthgfobcckoedaaaZFnExactSparksAt1
import Derived.Test.YthgfobcckoedaaaProg
import Derived.Below
import Derived.Deep.Draws
import Derived.Deep.AppendLies
import Derived.Maps.AppendAt
import Derived.OwnWalk
import Derived.Laws.BytesArg
import Derived.Laws.MakeOwn
import Derived.Laws.OwnMore
import Derived.Deep.OwnRows
import Derived.Tactics
import Derived.Lib.ConvBytes
import Derived.Laws.Slices
import Derived.WalkKit
import Derived.KernelRfl
import Derived.RowKit3
import Derived.Deep.LoopGhost
import Derived.Deep.QuietTactic
import Derived.BigQuiet
import Derived.WideLaws
import Derived.Deep.DeepCutAuto
import Derived.Deep.CutBlock
import Derived.Deep.RegionHeld3
import Derived.Laws.Rows
import Derived.Lib.AppendStr
import Derived.ArgAppend
import Derived.Laws.IdiomCopy
import Derived.OrdersHeld
import Derived.Laws.BitsLemmas
import Derived.RowKit
import Derived.Laws.Cover1
import Derived.Test.YthgfobcckoedaaaZFnExactSparksAt2
namespace Go.Proofs.YthgfobcckoedaaaW.PrintWords
open Go.RowKit
namespace Kd
section
variable {P : Program} {α : Type}
end
end Kd
end Go.Proofs.YthgfobcckoedaaaW.PrintWords
namespace Go.Proofs.YthgfobcckoedaaaW.PrintLast
open Go.RowKit Go.Proofs.YthgfobcckoedaaaW.PrintWords
def bz (n m : Nat) : Array Bool := ((List.range n).map fun i => m.testBit i).toArray
section
variable {P : Program} {ops : Array Oper} {Q : Exit → Act → World → Prop} {md : Region.Mode} {S : World → Prop} {ds : List Nat}
theorem pureA (i : Nat) (N : Tmp) {oi : Oper} {v : Value} {fuel : Nat} {l : Array Bool} {a : Act} {w : World} (l' : Array Bool) {a' : Act} (hi : ops[i]? = some oi) (hN : oi.dst = some N) (hc : anyB md ops l l' i = true) (h : wpAnyLast P md ops Q S ds fuel l' a' w)
    (hQ : ∀ c a w, Q (.panic c) (a.put oi.dst v) w → Q (.panic c) a w := by exact fun _ _ _ h => h) (hw : Region.wanted oi (yielded ops a.tmps) = true := by rfl)
    (hy : ∀ w, (execOp a.eval oi).run P w = .ok (.value v) w := by intro w'; go_simp; with_reducible rfl) (ha : a.put (some N) v = a' := by simp only [Act.put, List.setIfInBounds_toArray, List.set_cons_zero, List.set_cons_succ, i64_w, i32_w]; rfl) : wpAnyLast P md ops Q S ds (fuel + 1) l a w :=
  pure_ l' hi hN hc hQ (Or.inl ⟨hw, hy⟩) ha h
theorem takeA (i : Nat) (N : Tmp) {oi : Oper} {v : Value} {fuel : Nat} {l : Array Bool} {a : Act} {w : World} (l' : Array Bool) {a' : Act} (hi : ops[i]? = some oi) (hN : oi.dst = some N) (hc : takeB md ops ds l l' i = true) (hS : S w) (hy : ∀ w, S w → (execOp a.eval oi).run P w = .ok (.value v) w) (h : wpAnyLast P md ops Q S ds fuel l' a' w)
    (hQ : ∀ c a w, Q (.panic c) (a.put oi.dst v) w → Q (.panic c) a w := by exact fun _ _ _ h => h) (hw : Region.wanted oi (yielded ops a.tmps) = true := by rfl)
    (ha : a.put (some N) v = a' := by simp only [Act.put, List.setIfInBounds_toArray, List.set_cons_zero, List.set_cons_succ, i64_w, i32_w]; rfl) : wpAnyLast P md ops Q S ds (fuel + 1) l a w :=
  take_ l' hi hN hc hQ (Or.inl ⟨hw, hy⟩) hS ha h
end
end Go.Proofs.YthgfobcckoedaaaW.PrintLast
namespace Go.Proofs.YthgfobcckoedaaaW.PrintWords
open Go.RowKit
def add64 (x y : Int) : Int := (((x.toNat + y.toNat) % 18446744073709551616 : Nat) : Int)
def add64c (x y : Int) : Int := (((x.toNat + y.toNat) / 18446744073709551616 : Nat) : Int)
theorem run_add64z {P : Program} (x y : Int) (w : World) : (add64Entry #[.int .u64 x, .int .u64 y, .int .u64 0]).run P w = .ok (.tuple #[.int .u64 (add64 x y), .int .u64 (add64c x y)]) w := rfl
theorem call_add64 {P : Program} {f : FuncId} {fn : Func} (hf : P.funcs[f]? = some fn) (hname : (fn.name == "runtime.NumGoroutine") = false) (hb : fn.body.isNone = true) (hn : Extern.findNext fn = none) (he : Extern.find fn = some add64Entry) (x y : Int) (w : World) :
    (callFunc f #[.int .u64 x, .int .u64 y, .int .u64 0]).run P w = .ok (.value (.tuple #[.int .u64 (add64 x y), .int .u64 (add64c x y)])) w := by
  rw [run_callFunc_extern hf hname hb hn he, run_add64z]
  rfl
end Go.Proofs.YthgfobcckoedaaaW.PrintWords
namespace Go.Proofs.YthgfobcckoedaaaW.PrintWords
open Go.RowKit
section
variable {P : Program} {ops : Array Oper} {o : Oper} {a : Act} {Q : Exit → Act → World → Prop} {Kc : Act → World → Prop}
end
end Go.Proofs.YthgfobcckoedaaaW.PrintWords
namespace Go.Proofs.YthgfobcckoedaaaW.PrintLast
section
variable {P : Program} {ops : Array Oper} {Q : Exit → Act → World → Prop} {md : Region.Mode} {S T : World → Prop} {ds : List Nat}
def wpAnyTwo (P : Program) (md : Region.Mode) (ops : Array Oper) (Q : Exit → Act → World → Prop) (S T : World → Prop) (ds : List Nat) : Nat → Array Bool → Act → World → Prop
  | 0, listed, a, w => Region.ready md ops listed = [] ∧ Q .normal a w
  | fuel + 1, listed, a, w =>
    (Region.ready md ops listed = [] → Q .normal a w) ∧
    ∀ i ∈ Region.ready md ops listed, wpOp P ops Q i (fun a' w' => ((i ∉ ds → S w → S w') ∧ (T w → T w')) ∧ wpAnyTwo P md ops Q S T ds fuel (listed.setIfInBounds i true) a' w') a w
theorem wpAny_of_two : ∀ (fuel : Nat) (listed : Array Bool) (a : Act) (w : World), wpAnyTwo P md ops Q S T ds fuel listed a w → wpAny P md ops Q fuel listed a w
  | 0, _, _, _, h => h
  | fuel + 1, _, _, _, h => ⟨h.1, fun i hi => wpOp_mono (fun a' w' h' => wpAny_of_two fuel _ a' w' h'.2) (h.2 i hi)⟩
theorem wpAnyTwo_first {U : World → Prop} {es : List Nat} (hU : ∀ (j : Nat) (w w' : World), (j ∉ ds → S w → S w') → (T w → T w') → j ∉ es → U w → U w')
    {i : Nat} {oi : Oper} {v : Value} (hi : ops[i]? = some oi) (hsel : ∀ (j : Nat) (o : Oper) cs b, ops[j]? = some o → o.op ≠ .select cs b)
    (hQ : ∀ c a w, Q (.panic c) (a.put oi.dst v) w → Q (.panic c) a w) (n : Nat) :
    ∀ (fuel : Nat) (listed : Array Bool) (a : Act) (w : World),
      (∀ j oj, ops[j]? = some oj → j ≠ i → listed.getD j true = false → (∀ e ∈ oj.after, Region.binds md e = true → e.on ≠ i) → oi.apart ops oj = true) →
      ListedClosed md ops listed → (∀ d ∈ es, listed.getD d true = false → Region.reachB md ops i n d = true) →
      i ∈ Region.ready md ops listed → YieldsIf P ops U oi v a → U w →
      wpAnyTwo P md ops Q S T ds fuel (listed.setIfInBounds i true) (a.put oi.dst v) w → wpAnyTwo P md ops Q S T ds (fuel + 1) listed a w := by
  intro fuel
  induction fuel with
  | zero =>
    intro listed a w _ _ _ hr hy hS H
    refine ⟨fun h => (by rw [h] at hr; cases hr), fun j hj => ?_⟩
    by_cases hji : j = i
    · subst hji; exact hy.wpOp hi hS ⟨⟨fun _ h => h, fun h => h⟩, H⟩
    · have := ready_mono hj hji
      rw [H.1] at this
      cases this
  | succ fuel ih =>
    intro listed a w hfree hc hd hr hy hS H
    refine ⟨fun h => (by rw [h] at hr; cases hr), fun j hj => ?_⟩
    by_cases hji : j = i
    · subst hji; exact hy.wpOp hi hS ⟨⟨fun _ h => h, fun h => h⟩, H⟩
    · have h1 := H.2 j (ready_mono hj hji)
      obtain ⟨hjun, oj, hoj, hall⟩ := mem_ready.1 hj
      have hiun := (mem_ready.1 hr).1
      have hnot : ∀ e ∈ oj.after, Region.binds md e = true → e.on ≠ i := fun e he hb heq => by
        have h1 := hall e he hb
        rw [heq] at h1
        rcases Nat.lt_or_ge i listed.size with h' | h'
        · simp [h'] at hiun h1; rw [hiun] at h1; cases h1
        · simp [Array.getElem?_eq_none h'] at h1
      have hjd : j ∉ es := fun hm => Region.reach_not_ready hc (hd j hm hjun) hiun hj
      have h2 := wpOp_putIf hoj (hfree j oj hoj hji hjun hnot) (fun cs b => hsel i oi cs b hi) (fun cs b => hsel j oj cs b hoj) hQ hy h1
      have hfree' : ∀ k ok, ops[k]? = some ok → k ≠ i → (listed.setIfInBounds j true).getD k true = false →
          (∀ e ∈ ok.after, Region.binds md e = true → e.on ≠ i) → oi.apart ops ok = true := fun k ok hk hki hun hno => by
        refine hfree k ok hk hki ?_ hno
        by_cases hjk : j = k
        · subst hjk; exact hjun
        · rw [getD_set_ne true hjk] at hun; exact hun
      have hd' : ∀ d ∈ es, (listed.setIfInBounds j true).getD d true = false → Region.reachB md ops i n d = true := fun d hm hun => by
        refine hd d hm ?_
        by_cases hjk : j = d
        · subst hjk; exact hjun
        · rw [getD_set_ne true hjk] at hun; exact hun
      refine wpOp_mono (fun a' w' h3 => ⟨h3.2.1, ih (listed.setIfInBounds j true) a' w' hfree' (hc.set hj) hd' (ready_mono hr (Ne.symm hji)) h3.1 (hU j w w' h3.2.1.1 h3.2.1.2 hjd hS) ?_⟩) h2
      rw [Array.setIfInBounds_comm _ _ hji]
      exact h3.2.2
theorem start2_ {id n : Nat} {a : Act} {w : World} (l : Array Bool) (hm : P.follows .mixedOrders = true) (hn : ops.size = n) (hl : Array.replicate n false = l) (hS : S w.drew) (hT : T w.drew)
    (h : S w.drew ∧ T w.drew → wpAnyTwo P .any ops Q S T ds n l a w.drew) : (Code.region id ops true).wp P Q a w := by
  subst hn
  subst hl
  exact wp_region_any hm (wpAny_of_two _ _ _ _ (h ⟨hS, hT⟩))
theorem takeS_ {i : Nat} {N : Option Tmp} {oi : Oper} {v : Value} {fuel : Nat} {l : Array Bool} {a : Act} {w : World} (l' : Array Bool) (hi : ops[i]? = some oi) (hN : oi.dst = N) (hc : takeB md ops ds l l' i = true)
    (hQ : ∀ c a w, Q (.panic c) (a.put oi.dst v) w → Q (.panic c) a w) (hy : YieldsIf P ops (fun w => S w ∧ T w) oi v a) (hS : S w ∧ T w) {a' : Act} (ha : a.put N v = a')
    (h : wpAnyTwo P md ops Q S T ds fuel l' a' w) : wpAnyTwo P md ops Q S T ds (fuel + 1) l a w := by
  subst ha
  subst hN
  simp only [takeB, Bool.and_eq_true, beq_iff_eq] at hc
  obtain ⟨⟨⟨⟨⟨h1, h2⟩, h3⟩, h4⟩, h5⟩, h6⟩ := hc
  subst h6
  exact wpAnyTwo_first (U := fun w => S w ∧ T w) (es := ds) (fun j w w' hs ht hj hu => ⟨hs hj hu.1, ht hu.2⟩) hi (Region.noSelect_spec h1) hQ ops.size fuel l a w (Region.free_spec hi h2) (Region.closedB_spec h4)
    (fun d hm hun => by have := List.all_eq_true.1 h5 d hm; rw [hun] at this; simpa using this) (by simpa using h3) hy hS h
theorem takeT_ {i : Nat} {N : Option Tmp} {oi : Oper} {v : Value} {fuel : Nat} {l : Array Bool} {a : Act} {w : World} (l' : Array Bool) (hi : ops[i]? = some oi) (hN : oi.dst = N) (hc : takeB md ops [] l l' i = true)
    (hQ : ∀ c a w, Q (.panic c) (a.put oi.dst v) w → Q (.panic c) a w) (hy : YieldsIf P ops T oi v a) (hT : T w) {a' : Act} (ha : a.put N v = a')
    (h : wpAnyTwo P md ops Q S T ds fuel l' a' w) : wpAnyTwo P md ops Q S T ds (fuel + 1) l a w := by
  subst ha
  subst hN
  simp only [takeB, Bool.and_eq_true, beq_iff_eq] at hc
  obtain ⟨⟨⟨⟨⟨h1, h2⟩, h3⟩, h4⟩, h5⟩, h6⟩ := hc
  subst h6
  exact wpAnyTwo_first (U := T) (es := []) (fun j w w' hs ht hj hu => ht hu) hi (Region.noSelect_spec h1) hQ ops.size fuel l a w (Region.free_spec hi h2) (Region.closedB_spec h4)
    (fun d hm => by cases hm) (by simpa using h3) hy hT h
theorem pure2_ {i : Nat} {N : Option Tmp} {oi : Oper} {v : Value} {fuel : Nat} {l : Array Bool} {a : Act} {w : World} (l' : Array Bool) (hi : ops[i]? = some oi) (hN : oi.dst = N) (hc : takeB md ops [] l l' i = true)
    (hQ : ∀ c a w, Q (.panic c) (a.put oi.dst v) w → Q (.panic c) a w) (hy : Yields P ops oi v a) {a' : Act} (ha : a.put N v = a')
    (h : wpAnyTwo P md ops Q S T ds fuel l' a' w) : wpAnyTwo P md ops Q S T ds (fuel + 1) l a w := by
  subst ha
  subst hN
  simp only [takeB, Bool.and_eq_true, beq_iff_eq] at hc
  obtain ⟨⟨⟨⟨⟨h1, h2⟩, h3⟩, h4⟩, h5⟩, h6⟩ := hc
  subst h6
  exact wpAnyTwo_first (U := fun _ => True) (es := []) (fun j w w' hs ht hj hu => trivial) hi (Region.noSelect_spec h1) hQ ops.size fuel l a w (Region.free_spec hi h2) (Region.closedB_spec h4)
    (fun d hm => by cases hm) (by simpa using h3) hy.yieldsIf trivial h
theorem wpAnyTwo_one {i : Nat} {fuel : Nat} {l : Array Bool} {a : Act} {w : World} (hr : Region.ready md ops l = [i])
    (h : wpOp P ops Q i (fun a' w' => ((i ∉ ds → S w → S w') ∧ (T w → T w')) ∧ wpAnyTwo P md ops Q S T ds fuel (l.setIfInBounds i true) a' w') a w) : wpAnyTwo P md ops Q S T ds (fuel + 1) l a w :=
  ⟨fun h0 => (by rw [hr] at h0; cases h0), fun j hj => by rw [hr] at hj; obtain rfl := List.mem_singleton.1 hj; exact h⟩
theorem last2_ {i : Nat} {N : Option Tmp} {oi : Oper} {fuel : Nat} {l : Array Bool} {a : Act} {w : World} (l' : Array Bool) (hi : ops[i]? = some oi) (hN : oi.dst = N) (hc : readyB md ops l l' i = true) (hd : i ∈ ds)
    (h : ∀ K : Act → World → Prop, Shut (∀ a' w', T w' → (T w' → wpAnyTwo P md ops Q S T ds fuel l' a' w') → K a' w') → if Region.wanted oi (yielded ops a.tmps) = true then Oper.wp P oi a w K Q else K (a.put N undef) w) :
    wpAnyTwo P md ops Q S T ds (fuel + 1) l a w := by
  subst hN
  simp only [readyB, Bool.and_eq_true, beq_iff_eq] at hc
  obtain ⟨h1, h2⟩ := hc
  subst h2
  exact wpAnyTwo_one h1 (wpOp_step hi (fun K' hK => h K' (fun a w hT hW => hK a w ⟨⟨fun hn => absurd hd hn, fun _ => hT⟩, hW hT⟩)))
theorem done2_ {l : Array Bool} {a : Act} {w : World} {n : Nat} (hr : (Region.ready md ops l == []) = true) (h : Q .normal a w) : wpAnyTwo P md ops Q S T ds n l a w := by
  have h1 : Region.ready md ops l = [] := by simpa using hr
  cases n with
  | zero => exact ⟨h1, h⟩
  | succ n => exact ⟨fun _ => h, fun i hi => by rw [h1] at hi; cases hi⟩
end
end Go.Proofs.YthgfobcckoedaaaW.PrintLast
namespace Go.Proofs.Ythgfobcckoedaaa.PFnExactSparksAt
open Go.RowKit Go.Proofs.YthgfobcckoedaaaW.PrintWords Go.Proofs.YthgfobcckoedaaaW.PrintLast Go.Proofs.YthgfobcckoedaaaW.PrintMore
attribute [local go_sem] max2_int min2_int max_two min_two max_three min_three max_four min_four   -- for this text's walks alone
set_option linter.unusedVariables false
set_option linter.unusedSimpArgs false
def errW : Option Int → Value
 | none => .nilIface
 | some c => .iface 0 (.int .i64 c)
theorem errW_none : errW none = .nilIface := rfl
theorem errW_some (c : Int) : errW (some c) = .iface 0 (.int .i64 c) := rfl
theorem info48 : (Try.prog.info? 48).map (fun i => (i.zero, i.size, i.bytes)) = some (some (.agg #[(.int .i64 0), (.int .i64 0), (.int .i64 0), (.int .i64 0), (.int .i64 0)]), 5, 40) := by kernel_rfl
structure S48 where
 f0 : Int
 f1 : Int
 f2 : Int
 f3 : Int
 f4 : Int
def z48 : S48 := ⟨(0 : Int), (0 : Int), (0 : Int), (0 : Int), (0 : Int)⟩
def k48 : Kd S48 := Kd.iso (Kd.pair (Kd.int .i64) (Kd.pair (Kd.int .i64) (Kd.pair (Kd.int .i64) (Kd.pair (Kd.int .i64) (Kd.int .i64))))) (fun x : S48 => (x.f0, x.f1, x.f2, x.f3, x.f4))
theorem k48_open {w : World} {x : S48} {cs : List Value} (h : k48.K w x cs) : cs = [.int .i64 x.f0, .int .i64 x.f1, .int .i64 x.f2, .int .i64 x.f3, .int .i64 x.f4] := by
 obtain ⟨_, _, rfl, rfl, ⟨_, _, rfl, rfl, ⟨_, _, rfl, rfl, ⟨_, _, rfl, rfl, rfl⟩⟩⟩⟩ := h
 exact rfl
theorem k48_mkM (w : World) (base : Nat) (ok : Nat → Prop) (x : S48)  : k48.M w base ok x [.int .i64 x.f0, .int .i64 x.f1, .int .i64 x.f2, .int .i64 x.f3, .int .i64 x.f4] := ⟨[.int .i64 x.f0], [.int .i64 x.f1, .int .i64 x.f2, .int .i64 x.f3, .int .i64 x.f4], rfl, rfl, ⟨[.int .i64 x.f1], [.int .i64 x.f2, .int .i64 x.f3, .int .i64 x.f4], rfl, rfl, ⟨[.int .i64 x.f2], [.int .i64 x.f3, .int .i64 x.f4], rfl, rfl, ⟨[.int .i64 x.f3], [.int .i64 x.f4], rfl, rfl, rfl⟩⟩⟩⟩
def rd_T48 (xs : List S48) (i : Int) : S48 := xs.getD i.toNat z48
theorem at_T48 {w : World} {A : Option Addr} {n : Nat} {xs : List S48} (h : Kd.C k48 w A n xs) (i : Int) (h0 : 0 ≤ i) (h1 : i < n) : ∃ ad , A = some ad ∧ w.cell? (ad.add (i.toNat * 5)) = some (.int .i64 (rd_T48 xs i).f0) ∧ w.cell? ⟨(ad.add (i.toNat * 5)).block, (ad.add (i.toNat * 5)).off + 1, none⟩ = some (.int .i64 (rd_T48 xs i).f1) ∧ w.cell? ⟨(ad.add (i.toNat * 5)).block, (ad.add (i.toNat * 5)).off + 2, none⟩ = some (.int .i64 (rd_T48 xs i).f2) ∧ w.cell? ⟨(ad.add (i.toNat * 5)).block, (ad.add (i.toNat * 5)).off + 3, none⟩ = some (.int .i64 (rd_T48 xs i).f3) ∧ w.cell? ⟨(ad.add (i.toNat * 5)).block, (ad.add (i.toNat * 5)).off + 4, none⟩ = some (.int .i64 (rd_T48 xs i).f4) := by
 obtain ⟨ad, c, e, _, hK, hc0⟩ := Kd.C_get h z48 i h0 h1
 have hc : ∀ j u, c[j]? = some u → w.cell? (ad.add (i.toNat * 5 + j)) = some u := hc0
 obtain rfl := k48_open hK
 exact ⟨ad, e, hc 0 _ rfl, by rw [← add_field _ _ 1 (by omega)]; exact hc 1 _ rfl, by rw [← add_field _ _ 2 (by omega)]; exact hc 2 _ rfl, by rw [← add_field _ _ 3 (by omega)]; exact hc 3 _ rfl, by rw [← add_field _ _ 4 (by omega)]; exact hc 4 _ rfl⟩
end Go.Proofs.Ythgfobcckoedaaa.PFnExactSparksAt
namespace Go.Proofs.Ythgfobcckoedaaa.PFnExactSparksAt
open Go.RowKit Go.Proofs.YthgfobcckoedaaaW.PrintWords Go.Proofs.YthgfobcckoedaaaW.PrintLast Go.Proofs.YthgfobcckoedaaaW.PrintMore
attribute [local go_sem] max2_int min2_int max_two min_two max_three min_three max_four min_four   -- for this text's walks alone
set_option linter.unusedVariables false
set_option linter.unusedSimpArgs false
def spec_l1In.f (a0 : Int) (a1 : Int) (a2 : Int) : Option (Bool) := if a0 ≥ a1 then (some (decide (a0 ≤ a2))) else (some false)
set_option maxHeartbeats 8000000 in
set_option maxRecDepth 100000 in
theorem spec_l1In.calls (a0 : Int) (a1 : Int) (a2 : Int) (r : Bool) (w : World) (h : spec_l1In.f a0 a1 a2 = some r) :
  Calls Try.prog 29 #[.int .i64 a0, .int .i64 a1, .int .i64 a2] w fun e w' => e = .returned (.bool r) ∧ Drawn0 w w' := by
 have H : (if a0 ≥ a1 then (some (decide (a0 ≤ a2))) else (some false)) = some r := h
 clear h
 by_cases c4 : a0 ≥ a1
 ·rw [if_pos c4] at H
  have c4b0 : decide (a1 ≤ a0) = true := decide_eq_true c4
  clear c4
  obtain rfl := Option.some.inj H
  go_enter Try.func29, Try.ntmps29
  go_wp2
  go_ret
  exact ⟨by first | rfl | (simp; done) | (simp [*]; done) | exact not_isEmpty _ | exact (not_isEmpty _).symm | exact is_empty _ | exact (is_empty _).symm, by repeat (first | exact Drawn0.refl _ | apply Drawn0.step)⟩
 ·rw [if_neg c4] at H
  have c4b0 : decide (a1 ≤ a0) = false := decide_eq_false c4
  clear c4
  obtain rfl := Option.some.inj H
  go_enter Try.func29, Try.ntmps29
  go_wp2
  go_ret
  exact ⟨by first | rfl | (simp; done) | (simp [*]; done) | exact not_isEmpty _ | exact (not_isEmpty _).symm | exact is_empty _ | exact (is_empty _).symm, by repeat (first | exact Drawn0.refl _ | apply Drawn0.step)⟩
def spec_GoodEmitter.f (a0_0 : Int) (a0_1 : Int) (a0_2 : Int) (a0_3 : Int) (a0_4 : Int) (a0_5 : Int) (a0_6 : Int) : Option (Bool) := (spec_l1In.f a0_0 (-1000000) 1000000).bind fun t102 => (if t102 = true then ((spec_l1In.f a0_1 (-1000000) 1000000).bind fun t103 => (if t103 = true then ((spec_l1In.f a0_6 (-1000000) 1000000).bind fun t104 => (if t104 = true then ((spec_l1In.f a0_2 1 200).bind fun t105 => (if t105 = true then ((spec_l1In.f a0_3 0 20).bind fun t106 => (if t106 = true then ((spec_l1In.f a0_4 1 200).bind fun t107 => (if t107 = true then ((spec_l1In.f a0_5 0 1000000).bind fun t108 => (some t108)) else (some false))) else (some false))) else (some false))) else (some false))) else (some false))) else (some false))
set_option maxHeartbeats 8000000 in
set_option maxRecDepth 100000 in
theorem spec_GoodEmitter.calls (a0_0 : Int) (a0_1 : Int) (a0_2 : Int) (a0_3 : Int) (a0_4 : Int) (a0_5 : Int) (a0_6 : Int) (r : Bool) (w : World) (h : spec_GoodEmitter.f a0_0 a0_1 a0_2 a0_3 a0_4 a0_5 a0_6 = some r) :
  Calls Try.prog 19 #[.agg #[.int .i64 a0_0, .int .i64 a0_1, .int .i64 a0_2, .int .i64 a0_3, .int .i64 a0_4, .int .i64 a0_5, .int .i64 a0_6]] w fun e w' => e = .returned (.bool r) ∧ Below w.heap.size w w' := by
 have hu26 := Try.underlying26
 have HB := Aside0.mk (Below.refl w.heap.size w)
 have H : ((spec_l1In.f a0_0 (-1000000) 1000000).bind fun t102 => (if t102 = true then ((spec_l1In.f a0_1 (-1000000) 1000000).bind fun t103 => (if t103 = true then ((spec_l1In.f a0_6 (-1000000) 1000000).bind fun t104 => (if t104 = true then ((spec_l1In.f a0_2 1 200).bind fun t105 => (if t105 = true then ((spec_l1In.f a0_3 0 20).bind fun t106 => (if t106 = true then ((spec_l1In.f a0_4 1 200).bind fun t107 => (if t107 = true then ((spec_l1In.f a0_5 0 1000000).bind fun t108 => (some t108)) else (some false))) else (some false))) else (some false))) else (some false))) else (some false))) else (some false))) = some r := h
 clear h
 replace H := Option.bind_eq_some_iff.mp H
 obtain ⟨t102, A20, H⟩ := H
 replace H : (if t102 = true then ((spec_l1In.f a0_1 (-1000000) 1000000).bind fun t103 => (if t103 = true then ((spec_l1In.f a0_6 (-1000000) 1000000).bind fun t104 => (if t104 = true then ((spec_l1In.f a0_2 1 200).bind fun t105 => (if t105 = true then ((spec_l1In.f a0_3 0 20).bind fun t106 => (if t106 = true then ((spec_l1In.f a0_4 1 200).bind fun t107 => (if t107 = true then ((spec_l1In.f a0_5 0 1000000).bind fun t108 => (some t108)) else (some false))) else (some false))) else (some false))) else (some false))) else (some false))) else (some false)) = some r := H
 have A2 := Aside0.mk A20
 clear A20
 by_cases c3 : t102 = true
 ·subst c3
  have H1 : ((spec_l1In.f a0_1 (-1000000) 1000000).bind fun t103 => (if t103 = true then ((spec_l1In.f a0_6 (-1000000) 1000000).bind fun t104 => (if t104 = true then ((spec_l1In.f a0_2 1 200).bind fun t105 => (if t105 = true then ((spec_l1In.f a0_3 0 20).bind fun t106 => (if t106 = true then ((spec_l1In.f a0_4 1 200).bind fun t107 => (if t107 = true then ((spec_l1In.f a0_5 0 1000000).bind fun t108 => (some t108)) else (some false))) else (some false))) else (some false))) else (some false))) else (some false))) = some r := by rw [if_pos rfl] at H; exact H
  clear H
  have H := H1
  clear H1
  replace H := Option.bind_eq_some_iff.mp H
  obtain ⟨t103, A40, H⟩ := H
  replace H : (if t103 = true then ((spec_l1In.f a0_6 (-1000000) 1000000).bind fun t104 => (if t104 = true then ((spec_l1In.f a0_2 1 200).bind fun t105 => (if t105 = true then ((spec_l1In.f a0_3 0 20).bind fun t106 => (if t106 = true then ((spec_l1In.f a0_4 1 200).bind fun t107 => (if t107 = true then ((spec_l1In.f a0_5 0 1000000).bind fun t108 => (some t108)) else (some false))) else (some false))) else (some false))) else (some false))) else (some false)) = some r := H
  have A4 := Aside0.mk A40
  clear A40
  by_cases c5 : t103 = true
  ·subst c5
   have H1 : ((spec_l1In.f a0_6 (-1000000) 1000000).bind fun t104 => (if t104 = true then ((spec_l1In.f a0_2 1 200).bind fun t105 => (if t105 = true then ((spec_l1In.f a0_3 0 20).bind fun t106 => (if t106 = true then ((spec_l1In.f a0_4 1 200).bind fun t107 => (if t107 = true then ((spec_l1In.f a0_5 0 1000000).bind fun t108 => (some t108)) else (some false))) else (some false))) else (some false))) else (some false))) = some r := by rw [if_pos rfl] at H; exact H
   clear H
   have H := H1
   clear H1
   replace H := Option.bind_eq_some_iff.mp H
   obtain ⟨t104, A60, H⟩ := H
   replace H : (if t104 = true then ((spec_l1In.f a0_2 1 200).bind fun t105 => (if t105 = true then ((spec_l1In.f a0_3 0 20).bind fun t106 => (if t106 = true then ((spec_l1In.f a0_4 1 200).bind fun t107 => (if t107 = true then ((spec_l1In.f a0_5 0 1000000).bind fun t108 => (some t108)) else (some false))) else (some false))) else (some false))) else (some false)) = some r := H
   have A6 := Aside0.mk A60
   clear A60
   by_cases c7 : t104 = true
   ·subst c7
    have H1 : ((spec_l1In.f a0_2 1 200).bind fun t105 => (if t105 = true then ((spec_l1In.f a0_3 0 20).bind fun t106 => (if t106 = true then ((spec_l1In.f a0_4 1 200).bind fun t107 => (if t107 = true then ((spec_l1In.f a0_5 0 1000000).bind fun t108 => (some t108)) else (some false))) else (some false))) else (some false))) = some r := by rw [if_pos rfl] at H; exact H
    clear H
    have H := H1
    clear H1
    replace H := Option.bind_eq_some_iff.mp H
    obtain ⟨t105, A80, H⟩ := H
    replace H : (if t105 = true then ((spec_l1In.f a0_3 0 20).bind fun t106 => (if t106 = true then ((spec_l1In.f a0_4 1 200).bind fun t107 => (if t107 = true then ((spec_l1In.f a0_5 0 1000000).bind fun t108 => (some t108)) else (some false))) else (some false))) else (some false)) = some r := H
    have A8 := Aside0.mk A80
    clear A80
    by_cases c9 : t105 = true
    ·subst c9
     have H1 : ((spec_l1In.f a0_3 0 20).bind fun t106 => (if t106 = true then ((spec_l1In.f a0_4 1 200).bind fun t107 => (if t107 = true then ((spec_l1In.f a0_5 0 1000000).bind fun t108 => (some t108)) else (some false))) else (some false))) = some r := by rw [if_pos rfl] at H; exact H
     clear H
     have H := H1
     clear H1
     replace H := Option.bind_eq_some_iff.mp H
     obtain ⟨t106, A100, H⟩ := H
     replace H : (if t106 = true then ((spec_l1In.f a0_4 1 200).bind fun t107 => (if t107 = true then ((spec_l1In.f a0_5 0 1000000).bind fun t108 => (some t108)) else (some false))) else (some false)) = some r := H
     have A10 := Aside0.mk A100
     clear A100
     by_cases c11 : t106 = true
     ·subst c11
      have H1 : ((spec_l1In.f a0_4 1 200).bind fun t107 => (if t107 = true then ((spec_l1In.f a0_5 0 1000000).bind fun t108 => (some t108)) else (some false))) = some r := by rw [if_pos rfl] at H; exact H
      clear H
      have H := H1
      clear H1
      replace H := Option.bind_eq_some_iff.mp H
      obtain ⟨t107, A120, H⟩ := H
      replace H : (if t107 = true then ((spec_l1In.f a0_5 0 1000000).bind fun t108 => (some t108)) else (some false)) = some r := H
      have A12 := Aside0.mk A120
      clear A120
      by_cases c13 : t107 = true
      ·subst c13
       have H1 : ((spec_l1In.f a0_5 0 1000000).bind fun t108 => (some t108)) = some r := by rw [if_pos rfl] at H; exact H
       clear H
       have H := H1
       clear H1
       replace H := Option.bind_eq_some_iff.mp H
       obtain ⟨t108, A140, H⟩ := H
       replace H : (some t108) = some r := H
       have A14 := Aside0.mk A140
       clear A140
       obtain rfl := Option.some.inj H
       go_enter Try.func19, Try.ntmps19
       go_wp2_with (first | ((with_reducible refine gate_dst (N := 1) rfl ?_); refine box_event rfl (N := 1) rfl (cs := #[.int .i64 a0_0, .int .i64 a0_1, .int .i64 a0_2, .int .i64 a0_3, .int .i64 a0_4, .int .i64 a0_5, .int .i64 a0_6]) (t := 26) sE ?_; intro gb101 hg w15 hbox hb; have BK101 := Aside0.mk hbox; have GW101 := gS w hg (lU); have GE101 := gS w hg (lU); replace HB := bH (lU) hb; clear hb hbox hg; have hcz16_0 := cz BK101 0 (.int .i64 a0_0); have hcz16_1 := cz BK101 1 (.int .i64 a0_1); have hcz16_2 := cz BK101 2 (.int .i64 a0_2); have hcz16_3 := cz BK101 3 (.int .i64 a0_3); have hcz16_4 := cz BK101 4 (.int .i64 a0_4); have hcz16_5 := cz BK101 5 (.int .i64 a0_5); have hcz16_6 := cz BK101 6 (.int .i64 a0_6); have hfz16_0 := fz BK101 0; have hfz16_1 := fz BK101 1; have hfz16_2 := fz BK101 2; have hfz16_3 := fz BK101 3; have hfz16_4 := fz BK101 4; have hfz16_5 := fz BK101 5; have hfz16_6 := fz BK101 6) | ((with_reducible refine gate_callee (f := 29) rfl ?_); refine goesL_ (some 5) rfl rfl Try.func29 (by kernel_rfl) rfl #[.int .i64 a0_0, .int .i64 (-1000000), .int .i64 1000000] rfl aE ?_; (with_reducible refine (spec_l1In.calls a0_0 (-1000000) 1000000 true _ A2.out).mono ?_); rintro e w' ⟨rfl, ⟨nd, rfl⟩⟩; refine ⟨_, rfl, ?_⟩) | (go_at_call 29; (with_reducible refine (spec_l1In.calls a0_1 (-1000000) 1000000 true _ A4.out).mono ?_); rintro e w' ⟨rfl, ⟨nd, rfl⟩⟩) | (go_at_call 29; (with_reducible refine (spec_l1In.calls a0_6 (-1000000) 1000000 true _ A6.out).mono ?_); rintro e w' ⟨rfl, ⟨nd, rfl⟩⟩) | (go_at_call 29; (with_reducible refine (spec_l1In.calls a0_2 1 200 true _ A8.out).mono ?_); rintro e w' ⟨rfl, ⟨nd, rfl⟩⟩) | (go_at_call 29; (with_reducible refine (spec_l1In.calls a0_3 0 20 true _ A10.out).mono ?_); rintro e w' ⟨rfl, ⟨nd, rfl⟩⟩) | (go_at_call 29; (with_reducible refine (spec_l1In.calls a0_4 1 200 true _ A12.out).mono ?_); rintro e w' ⟨rfl, ⟨nd, rfl⟩⟩) | (go_at_call 29; (with_reducible refine (spec_l1In.calls a0_5 0 1000000 t108 _ A14.out).mono ?_); rintro e w' ⟨rfl, ⟨nd, rfl⟩⟩))
       go_ret
       exact ⟨eE, lV1 GE101⟩
      ·replace c13 := Bool.eq_false_iff.mpr c13
       subst c13
       have H1 : (some false) = some r := by rw [if_neg (show ¬ (false = true) by decide)] at H; exact H
       clear H
       have H := H1
       clear H1
       obtain rfl := Option.some.inj H
       go_enter Try.func19, Try.ntmps19
       go_wp2_with (first | ((with_reducible refine gate_dst (N := 1) rfl ?_); refine box_event rfl (N := 1) rfl (cs := #[.int .i64 a0_0, .int .i64 a0_1, .int .i64 a0_2, .int .i64 a0_3, .int .i64 a0_4, .int .i64 a0_5, .int .i64 a0_6]) (t := 26) sE ?_; intro gb101 hg w17 hbox hb; have BK101 := Aside0.mk hbox; have GW101 := gS w hg (lU); have GE101 := gS w hg (lU); replace HB := bH (lU) hb; clear hb hbox hg; have hcz18_0 := cz BK101 0 (.int .i64 a0_0); have hcz18_1 := cz BK101 1 (.int .i64 a0_1); have hcz18_2 := cz BK101 2 (.int .i64 a0_2); have hcz18_3 := cz BK101 3 (.int .i64 a0_3); have hcz18_4 := cz BK101 4 (.int .i64 a0_4); have hcz18_5 := cz BK101 5 (.int .i64 a0_5); have hcz18_6 := cz BK101 6 (.int .i64 a0_6); have hfz18_0 := fz BK101 0; have hfz18_1 := fz BK101 1; have hfz18_2 := fz BK101 2; have hfz18_3 := fz BK101 3; have hfz18_4 := fz BK101 4; have hfz18_5 := fz BK101 5; have hfz18_6 := fz BK101 6) | ((with_reducible refine gate_callee (f := 29) rfl ?_); refine goesL_ (some 5) rfl rfl Try.func29 (by kernel_rfl) rfl #[.int .i64 a0_0, .int .i64 (-1000000), .int .i64 1000000] rfl aE ?_; (with_reducible refine (spec_l1In.calls a0_0 (-1000000) 1000000 true _ A2.out).mono ?_); rintro e w' ⟨rfl, ⟨nd, rfl⟩⟩; refine ⟨_, rfl, ?_⟩) | (go_at_call 29; (with_reducible refine (spec_l1In.calls a0_1 (-1000000) 1000000 true _ A4.out).mono ?_); rintro e w' ⟨rfl, ⟨nd, rfl⟩⟩) | (go_at_call 29; (with_reducible refine (spec_l1In.calls a0_6 (-1000000) 1000000 true _ A6.out).mono ?_); rintro e w' ⟨rfl, ⟨nd, rfl⟩⟩) | (go_at_call 29; (with_reducible refine (spec_l1In.calls a0_2 1 200 true _ A8.out).mono ?_); rintro e w' ⟨rfl, ⟨nd, rfl⟩⟩) | (go_at_call 29; (with_reducible refine (spec_l1In.calls a0_3 0 20 true _ A10.out).mono ?_); rintro e w' ⟨rfl, ⟨nd, rfl⟩⟩) | (go_at_call 29; (with_reducible refine (spec_l1In.calls a0_4 1 200 false _ A12.out).mono ?_); rintro e w' ⟨rfl, ⟨nd, rfl⟩⟩))
       go_ret
       exact ⟨eE, lV1 GE101⟩
     ·replace c11 := Bool.eq_false_iff.mpr c11
      subst c11
      have H1 : (some false) = some r := by rw [if_neg (show ¬ (false = true) by decide)] at H; exact H
      clear H
      have H := H1
      clear H1
      obtain rfl := Option.some.inj H
      go_enter Try.func19, Try.ntmps19
      go_wp2_with (first | ((with_reducible refine gate_dst (N := 1) rfl ?_); refine box_event rfl (N := 1) rfl (cs := #[.int .i64 a0_0, .int .i64 a0_1, .int .i64 a0_2, .int .i64 a0_3, .int .i64 a0_4, .int .i64 a0_5, .int .i64 a0_6]) (t := 26) sE ?_; intro gb101 hg w19 hbox hb; have BK101 := Aside0.mk hbox; have GW101 := gS w hg (lU); have GE101 := gS w hg (lU); replace HB := bH (lU) hb; clear hb hbox hg; have hcz20_0 := cz BK101 0 (.int .i64 a0_0); have hcz20_1 := cz BK101 1 (.int .i64 a0_1); have hcz20_2 := cz BK101 2 (.int .i64 a0_2); have hcz20_3 := cz BK101 3 (.int .i64 a0_3); have hcz20_4 := cz BK101 4 (.int .i64 a0_4); have hcz20_5 := cz BK101 5 (.int .i64 a0_5); have hcz20_6 := cz BK101 6 (.int .i64 a0_6); have hfz20_0 := fz BK101 0; have hfz20_1 := fz BK101 1; have hfz20_2 := fz BK101 2; have hfz20_3 := fz BK101 3; have hfz20_4 := fz BK101 4; have hfz20_5 := fz BK101 5; have hfz20_6 := fz BK101 6) | ((with_reducible refine gate_callee (f := 29) rfl ?_); refine goesL_ (some 5) rfl rfl Try.func29 (by kernel_rfl) rfl #[.int .i64 a0_0, .int .i64 (-1000000), .int .i64 1000000] rfl aE ?_; (with_reducible refine (spec_l1In.calls a0_0 (-1000000) 1000000 true _ A2.out).mono ?_); rintro e w' ⟨rfl, ⟨nd, rfl⟩⟩; refine ⟨_, rfl, ?_⟩) | (go_at_call 29; (with_reducible refine (spec_l1In.calls a0_1 (-1000000) 1000000 true _ A4.out).mono ?_); rintro e w' ⟨rfl, ⟨nd, rfl⟩⟩) | (go_at_call 29; (with_reducible refine (spec_l1In.calls a0_6 (-1000000) 1000000 true _ A6.out).mono ?_); rintro e w' ⟨rfl, ⟨nd, rfl⟩⟩) | (go_at_call 29; (with_reducible refine (spec_l1In.calls a0_2 1 200 true _ A8.out).mono ?_); rintro e w' ⟨rfl, ⟨nd, rfl⟩⟩) | (go_at_call 29; (with_reducible refine (spec_l1In.calls a0_3 0 20 false _ A10.out).mono ?_); rintro e w' ⟨rfl, ⟨nd, rfl⟩⟩))
      go_ret
      exact ⟨eE, lV1 GE101⟩
    ·replace c9 := Bool.eq_false_iff.mpr c9
     subst c9
     have H1 : (some false) = some r := by rw [if_neg (show ¬ (false = true) by decide)] at H; exact H
     clear H
     have H := H1
     clear H1
     obtain rfl := Option.some.inj H
     go_enter Try.func19, Try.ntmps19
     go_wp2_with (first | ((with_reducible refine gate_dst (N := 1) rfl ?_); refine box_event rfl (N := 1) rfl (cs := #[.int .i64 a0_0, .int .i64 a0_1, .int .i64 a0_2, .int .i64 a0_3, .int .i64 a0_4, .int .i64 a0_5, .int .i64 a0_6]) (t := 26) sE ?_; intro gb101 hg w21 hbox hb; have BK101 := Aside0.mk hbox; have GW101 := gS w hg (lU); have GE101 := gS w hg (lU); replace HB := bH (lU) hb; clear hb hbox hg; have hcz22_0 := cz BK101 0 (.int .i64 a0_0); have hcz22_1 := cz BK101 1 (.int .i64 a0_1); have hcz22_2 := cz BK101 2 (.int .i64 a0_2); have hcz22_3 := cz BK101 3 (.int .i64 a0_3); have hcz22_4 := cz BK101 4 (.int .i64 a0_4); have hcz22_5 := cz BK101 5 (.int .i64 a0_5); have hcz22_6 := cz BK101 6 (.int .i64 a0_6); have hfz22_0 := fz BK101 0; have hfz22_1 := fz BK101 1; have hfz22_2 := fz BK101 2; have hfz22_3 := fz BK101 3; have hfz22_4 := fz BK101 4; have hfz22_5 := fz BK101 5; have hfz22_6 := fz BK101 6) | ((with_reducible refine gate_callee (f := 29) rfl ?_); refine goesL_ (some 5) rfl rfl Try.func29 (by kernel_rfl) rfl #[.int .i64 a0_0, .int .i64 (-1000000), .int .i64 1000000] rfl aE ?_; (with_reducible refine (spec_l1In.calls a0_0 (-1000000) 1000000 true _ A2.out).mono ?_); rintro e w' ⟨rfl, ⟨nd, rfl⟩⟩; refine ⟨_, rfl, ?_⟩) | (go_at_call 29; (with_reducible refine (spec_l1In.calls a0_1 (-1000000) 1000000 true _ A4.out).mono ?_); rintro e w' ⟨rfl, ⟨nd, rfl⟩⟩) | (go_at_call 29; (with_reducible refine (spec_l1In.calls a0_6 (-1000000) 1000000 true _ A6.out).mono ?_); rintro e w' ⟨rfl, ⟨nd, rfl⟩⟩) | (go_at_call 29; (with_reducible refine (spec_l1In.calls a0_2 1 200 false _ A8.out).mono ?_); rintro e w' ⟨rfl, ⟨nd, rfl⟩⟩))
     go_ret
     exact ⟨eE, lV1 GE101⟩
   ·replace c7 := Bool.eq_false_iff.mpr c7
    subst c7
    have H1 : (some false) = some r := by rw [if_neg (show ¬ (false = true) by decide)] at H; exact H
    clear H
    have H := H1
    clear H1
    obtain rfl := Option.some.inj H
    go_enter Try.func19, Try.ntmps19
    go_wp2_with (first | ((with_reducible refine gate_dst (N := 1) rfl ?_); refine box_event rfl (N := 1) rfl (cs := #[.int .i64 a0_0, .int .i64 a0_1, .int .i64 a0_2, .int .i64 a0_3, .int .i64 a0_4, .int .i64 a0_5, .int .i64 a0_6]) (t := 26) sE ?_; intro gb101 hg w23 hbox hb; have BK101 := Aside0.mk hbox; have GW101 := gS w hg (lU); have GE101 := gS w hg (lU); replace HB := bH (lU) hb; clear hb hbox hg; have hcz24_0 := cz BK101 0 (.int .i64 a0_0); have hcz24_1 := cz BK101 1 (.int .i64 a0_1); have hcz24_2 := cz BK101 2 (.int .i64 a0_2); have hcz24_3 := cz BK101 3 (.int .i64 a0_3); have hcz24_4 := cz BK101 4 (.int .i64 a0_4); have hcz24_5 := cz BK101 5 (.int .i64 a0_5); have hcz24_6 := cz BK101 6 (.int .i64 a0_6); have hfz24_0 := fz BK101 0; have hfz24_1 := fz BK101 1; have hfz24_2 := fz BK101 2; have hfz24_3 := fz BK101 3; have hfz24_4 := fz BK101 4; have hfz24_5 := fz BK101 5; have hfz24_6 := fz BK101 6) | ((with_reducible refine gate_callee (f := 29) rfl ?_); refine goesL_ (some 5) rfl rfl Try.func29 (by kernel_rfl) rfl #[.int .i64 a0_0, .int .i64 (-1000000), .int .i64 1000000] rfl aE ?_; (with_reducible refine (spec_l1In.calls a0_0 (-1000000) 1000000 true _ A2.out).mono ?_); rintro e w' ⟨rfl, ⟨nd, rfl⟩⟩; refine ⟨_, rfl, ?_⟩) | (go_at_call 29; (with_reducible refine (spec_l1In.calls a0_1 (-1000000) 1000000 true _ A4.out).mono ?_); rintro e w' ⟨rfl, ⟨nd, rfl⟩⟩) | (go_at_call 29; (with_reducible refine (spec_l1In.calls a0_6 (-1000000) 1000000 false _ A6.out).mono ?_); rintro e w' ⟨rfl, ⟨nd, rfl⟩⟩))
    go_ret
    exact ⟨eE, lV1 GE101⟩
  ·replace c5 := Bool.eq_false_iff.mpr c5
   subst c5
   have H1 : (some false) = some r := by rw [if_neg (show ¬ (false = true) by decide)] at H; exact H
   clear H
   have H := H1
   clear H1
   obtain rfl := Option.some.inj H
   go_enter Try.func19, Try.ntmps19
   go_wp2_with (first | ((with_reducible refine gate_dst (N := 1) rfl ?_); refine box_event rfl (N := 1) rfl (cs := #[.int .i64 a0_0, .int .i64 a0_1, .int .i64 a0_2, .int .i64 a0_3, .int .i64 a0_4, .int .i64 a0_5, .int .i64 a0_6]) (t := 26) sE ?_; intro gb101 hg w25 hbox hb; have BK101 := Aside0.mk hbox; have GW101 := gS w hg (lU); have GE101 := gS w hg (lU); replace HB := bH (lU) hb; clear hb hbox hg; have hcz26_0 := cz BK101 0 (.int .i64 a0_0); have hcz26_1 := cz BK101 1 (.int .i64 a0_1); have hcz26_2 := cz BK101 2 (.int .i64 a0_2); have hcz26_3 := cz BK101 3 (.int .i64 a0_3); have hcz26_4 := cz BK101 4 (.int .i64 a0_4); have hcz26_5 := cz BK101 5 (.int .i64 a0_5); have hcz26_6 := cz BK101 6 (.int .i64 a0_6); have hfz26_0 := fz BK101 0; have hfz26_1 := fz BK101 1; have hfz26_2 := fz BK101 2; have hfz26_3 := fz BK101 3; have hfz26_4 := fz BK101 4; have hfz26_5 := fz BK101 5; have hfz26_6 := fz BK101 6) | ((with_reducible refine gate_callee (f := 29) rfl ?_); refine goesL_ (some 5) rfl rfl Try.func29 (by kernel_rfl) rfl #[.int .i64 a0_0, .int .i64 (-1000000), .int .i64 1000000] rfl aE ?_; (with_reducible refine (spec_l1In.calls a0_0 (-1000000) 1000000 true _ A2.out).mono ?_); rintro e w' ⟨rfl, ⟨nd, rfl⟩⟩; refine ⟨_, rfl, ?_⟩) | (go_at_call 29; (with_reducible refine (spec_l1In.calls a0_1 (-1000000) 1000000 false _ A4.out).mono ?_); rintro e w' ⟨rfl, ⟨nd, rfl⟩⟩))
   go_ret
   exact ⟨eE, lV1 GE101⟩
 ·replace c3 := Bool.eq_false_iff.mpr c3
  subst c3
  have H1 : (some false) = some r := by rw [if_neg (show ¬ (false = true) by decide)] at H; exact H
  clear H
  have H := H1
  clear H1
  obtain rfl := Option.some.inj H
  go_enter Try.func19, Try.ntmps19
  go_wp2_with (first | ((with_reducible refine gate_dst (N := 1) rfl ?_); refine box_event rfl (N := 1) rfl (cs := #[.int .i64 a0_0, .int .i64 a0_1, .int .i64 a0_2, .int .i64 a0_3, .int .i64 a0_4, .int .i64 a0_5, .int .i64 a0_6]) (t := 26) sE ?_; intro gb101 hg w27 hbox hb; have BK101 := Aside0.mk hbox; have GW101 := gS w hg (lU); have GE101 := gS w hg (lU); replace HB := bH (lU) hb; clear hb hbox hg; have hcz28_0 := cz BK101 0 (.int .i64 a0_0); have hcz28_1 := cz BK101 1 (.int .i64 a0_1); have hcz28_2 := cz BK101 2 (.int .i64 a0_2); have hcz28_3 := cz BK101 3 (.int .i64 a0_3); have hcz28_4 := cz BK101 4 (.int .i64 a0_4); have hcz28_5 := cz BK101 5 (.int .i64 a0_5); have hcz28_6 := cz BK101 6 (.int .i64 a0_6); have hfz28_0 := fz BK101 0; have hfz28_1 := fz BK101 1; have hfz28_2 := fz BK101 2; have hfz28_3 := fz BK101 3; have hfz28_4 := fz BK101 4; have hfz28_5 := fz BK101 5; have hfz28_6 := fz BK101 6) | ((with_reducible refine gate_callee (f := 29) rfl ?_); refine goesL_ (some 5) rfl rfl Try.func29 (by kernel_rfl) rfl #[.int .i64 a0_0, .int .i64 (-1000000), .int .i64 1000000] rfl aE ?_; (with_reducible refine (spec_l1In.calls a0_0 (-1000000) 1000000 false _ A2.out).mono ?_); rintro e w' ⟨rfl, ⟨nd, rfl⟩⟩; refine ⟨_, rfl, ?_⟩))
  go_ret
  exact ⟨eE, lV1 GE101⟩
def spec_l1Seed.f (a0 : Int) : Option (Bool) := (spec_l1In.f a0 0 2147483647).bind fun t109 => (some t109)
set_option maxHeartbeats 8000000 in
set_option maxRecDepth 100000 in
theorem spec_l1Seed.calls (a0 : Int) (r : Bool) (w : World) (h : spec_l1Seed.f a0 = some r) :
  Calls Try.prog 35 #[.int .i64 a0] w fun e w' => e = .returned (.bool r) ∧ Drawn0 w w' := by
 have H : ((spec_l1In.f a0 0 2147483647).bind fun t109 => (some t109)) = some r := h
 clear h
 replace H := Option.bind_eq_some_iff.mp H
 obtain ⟨t109, A20, H⟩ := H
 replace H : (some t109) = some r := H
 have A2 := Aside0.mk A20
 clear A20
 obtain rfl := Option.some.inj H
 go_enter Try.func35, Try.ntmps35
 go_wp2_with (first | ((with_reducible refine gate_callee (f := 29) rfl ?_); refine goesL_ (some 4) rfl rfl Try.func29 (by kernel_rfl) rfl #[.int .i64 a0, .int .i64 0, .int .i64 2147483647] rfl aE ?_; (with_reducible refine (spec_l1In.calls a0 0 2147483647 t109 _ A2.out).mono ?_); rintro e w' ⟨rfl, ⟨nd, rfl⟩⟩; refine ⟨_, rfl, ?_⟩))
 go_ret
 exact ⟨by first | rfl | (simp; done) | (simp [*]; done) | exact not_isEmpty _ | exact (not_isEmpty _).symm | exact is_empty _ | exact (is_empty _).symm, by repeat (first | exact Drawn0.refl _ | apply Drawn0.step)⟩
def spec_GoodFixed.f (a0 : Int) : Option (Bool) := (spec_l1In.f a0 (-1099511627776) 1099511627776).bind fun t110 => (some t110)
set_option maxHeartbeats 8000000 in
set_option maxRecDepth 100000 in
theorem spec_GoodFixed.calls (a0 : Int) (r : Bool) (w : World) (h : spec_GoodFixed.f a0 = some r) :
  Calls Try.prog 36 #[.int .i64 a0] w fun e w' => e = .returned (.bool r) ∧ Drawn0 w w' := by
 have H : ((spec_l1In.f a0 (-1099511627776) 1099511627776).bind fun t110 => (some t110)) = some r := h
 clear h
 replace H := Option.bind_eq_some_iff.mp H
 obtain ⟨t110, A20, H⟩ := H
 replace H : (some t110) = some r := H
 have A2 := Aside0.mk A20
 clear A20
 obtain rfl := Option.some.inj H
 go_enter Try.func36, Try.ntmps36
 go_wp2_with (first | ((with_reducible refine gate_callee (f := 29) rfl ?_); refine goesL_ (some 4) rfl rfl Try.func29 (by kernel_rfl) rfl #[.int .i64 a0, .int .i64 (-1099511627776), .int .i64 1099511627776] rfl aE ?_; (with_reducible refine (spec_l1In.calls a0 (-1099511627776) 1099511627776 t110 _ A2.out).mono ?_); rintro e w' ⟨rfl, ⟨nd, rfl⟩⟩; refine ⟨_, rfl, ?_⟩))
 go_ret
 exact ⟨by first | rfl | (simp; done) | (simp [*]; done) | exact not_isEmpty _ | exact (not_isEmpty _).symm | exact is_empty _ | exact (is_empty _).symm, by repeat (first | exact Drawn0.refl _ | apply Drawn0.step)⟩
mutual
def spec_GoodCloud.j0 : Nat → Bool → Int → Int → List (S48) → Option (Bool)
 | 0, _, _, _, _ => none
 | k + 1, x20, x112000, x112001, x112002 => if x20 = true then (some false) else (spec_GoodCloud.l0 k x112002 (x112002.length : Int) 0)
def spec_GoodCloud.l0 : Nat → List (S48) → Int → Int → Option (Bool)
 | 0, _, _, _ => none
 | k + 1, x22, x23, x24 => if x24 < x23 then (if 0 ≤ x24 then (if x24 < (x22.length : Int) then ((spec_GoodFixed.f ((rd_T48 x22 x24).f0)).bind fun t116 => (if t116 = true then ((spec_GoodFixed.f ((rd_T48 x22 x24).f1)).bind fun t117 => (if t117 = true then ((spec_GoodFixed.f ((rd_T48 x22 x24).f2)).bind fun t118 => (if t118 = true then ((spec_GoodFixed.f ((rd_T48 x22 x24).f3)).bind fun t119 => (if t119 = true then ((spec_l1In.f ((rd_T48 x22 x24).f4) 1 200).bind fun t120 => (if t120 = true then (spec_GoodCloud.l0 k x22 x23 (wrap64 (x24 + 1))) else (some false))) else (some false))) else (some false))) else (some false))) else (some false))) else (none)) else (none)) else (some true)
end
def spec_GoodCloud.f (k : Nat) (a0_0 : Int) (a0_1 : Int) (l0_2 : List (S48)) : Option (Bool) := (spec_l1Seed.f a0_0).bind fun t112 => (if t112 = true then ((spec_l1In.f a0_1 0 200).bind fun t113 => (if t113 = true then (spec_GoodCloud.j0 k (decide ((l0_2.length : Int) > 60)) a0_0 a0_1 l0_2) else (spec_GoodCloud.j0 k true a0_0 a0_1 l0_2))) else (spec_GoodCloud.j0 k true a0_0 a0_1 l0_2))
theorem spec_GoodCloud.mono_l : ∀ k, (∀ y0 y1 y2 y3, LeO (spec_GoodCloud.j0 k y0 y1 y2 y3) (spec_GoodCloud.j0 (k + 1) y0 y1 y2 y3)) ∧ (∀ y0 y1 y2, LeO (spec_GoodCloud.l0 k y0 y1 y2) (spec_GoodCloud.l0 (k + 1) y0 y1 y2))
 | 0 => ⟨fun _ _ _ _ r h => by simp [spec_GoodCloud.j0] at h, fun _ _ _ r h => by simp [spec_GoodCloud.l0] at h⟩
 | k + 1 => by
  obtain ⟨ih0, ih1⟩ := spec_GoodCloud.mono_l k
  refine ⟨?_, ?_⟩
  ·intro y0 y1 y2 y3
   unfold spec_GoodCloud.j0
   repeat' first
   | (with_reducible exact ih0 _ _ _ _)
   | (with_reducible exact ih1 _ _ _)
   | (with_reducible exact LeO.refl _)
   | (with_reducible exact LeO.none _)
   | (with_reducible refine LeO.ite ?_ ?_)
   | (with_reducible refine LeO.bind ?_ (fun _ => ?_))
   | exact ih0 _ _ _ _
   | exact ih1 _ _ _
   | exact LeO.none _
   | refine LeO.ite ?_ ?_
   | refine LeO.bind ?_ (fun _ => ?_)
  ·intro y0 y1 y2
   unfold spec_GoodCloud.l0
   repeat' first
   | (with_reducible exact ih0 _ _ _ _)
   | (with_reducible exact ih1 _ _ _)
   | (with_reducible exact LeO.refl _)
   | (with_reducible exact LeO.none _)
   | (with_reducible refine LeO.ite ?_ ?_)
   | (with_reducible refine LeO.bind ?_ (fun _ => ?_))
   | exact ih0 _ _ _ _
   | exact ih1 _ _ _
   | exact LeO.none _
   | refine LeO.ite ?_ ?_
   | refine LeO.bind ?_ (fun _ => ?_)
theorem spec_GoodCloud.mono : ∀ a0 a1 a2 k, LeO (spec_GoodCloud.f k a0 a1 a2) (spec_GoodCloud.f (k + 1) a0 a1 a2) := by
 intro a0 a1 a2 k
 obtain ⟨ih0, ih1⟩ := spec_GoodCloud.mono_l k
 unfold spec_GoodCloud.f
 repeat' first
   | (with_reducible exact ih0 _ _ _ _)
   | (with_reducible exact ih1 _ _ _)
   | (with_reducible exact LeO.refl _)
   | (with_reducible exact LeO.none _)
   | (with_reducible refine LeO.ite ?_ ?_)
   | (with_reducible refine LeO.bind ?_ (fun _ => ?_))
   | exact ih0 _ _ _ _
   | exact ih1 _ _ _
   | exact LeO.none _
   | refine LeO.ite ?_ ?_
   | refine LeO.bind ?_ (fun _ => ?_)
set_option maxHeartbeats 8000000 in
set_option maxRecDepth 100000 in
theorem spec_GoodCloud.calls (k : Nat) (a0_0 : Int) (a0_1 : Int) (A0_2 : Option Addr) (c0_2 : Nat) (l0_2 : List (S48)) (r : Bool) (w : World) (hr0_2 : Kd.C k48 w A0_2 l0_2.length l0_2) (hc0_2 : l0_2.length ≤ c0_2) (h : spec_GoodCloud.f k a0_0 a0_1 l0_2 = some r) :
  Calls Try.prog 20 #[.agg #[.int .i64 a0_0, .int .i64 a0_1, .slice A0_2 l0_2.length c0_2]] w fun e w' => e = .returned (.bool r) ∧ Below w.heap.size w w' := by
 have hu35 := Try.underlying35
 have hu48 := Try.underlying48
 have HR0_2 := Aside0.mk hr0_2
 have HC0_2 := Aside0.mk hc0_2
 clear hr0_2 hc0_2
 have HB := Aside0.mk (Below.refl w.heap.size w)
 have H : ((spec_l1Seed.f a0_0).bind fun t112 => (if t112 = true then ((spec_l1In.f a0_1 0 200).bind fun t113 => (if t113 = true then (spec_GoodCloud.j0 k (decide ((l0_2.length : Int) > 60)) a0_0 a0_1 l0_2) else (spec_GoodCloud.j0 k true a0_0 a0_1 l0_2))) else (spec_GoodCloud.j0 k true a0_0 a0_1 l0_2))) = some r := h
 clear h
 have HC2 := Aside0.mk H
 clear H
 go_enter Try.func20, Try.ntmps20
 go_upto_region 1 with (first | ((with_reducible refine gate_dst (N := 1) rfl ?_); (try (refine gate_guard (by rfl) ?_; dsimp only)); refine box_event rfl (N := 1) rfl (cs := #[.int .i64 a0_0, .int .i64 a0_1, .slice A0_2 l0_2.length c0_2]) (t := 35) sE ?_; intro gb111 hg w3 hbox hb; have BK111 := Aside0.mk hbox; have GW111 := gS w hg (lU); have GE111 := gS w hg (lU); replace HB := bH (lU) hb; clear hb hbox hg))
 (try simp only [Act.put, List.setIfInBounds_toArray, List.set_cons_zero, List.set_cons_succ])
 go_cut [20] (fun v20 wc => ∃ (kq : Nat) (x20_1 : Bool), v20 = .bool x20_1 ∧ Aside0 (spec_GoodCloud.j0 kq x20_1 a0_0 a0_1 l0_2 = some r) ∧ Aside0 (kq ≤ k) ∧ Aside0 (wc.heap[gb111]? = some (.cells #[.int .i64 a0_0, .int .i64 a0_1, (.slice A0_2 l0_2.length c0_2)] 35 (0, 0))) ∧ Aside0 (Below w.heap.size w wc))
 case first =>
  have H := HC2.out
  clear HC2
  replace H := Option.bind_eq_some_iff.mp H
  obtain ⟨t112, A40, H⟩ := H
  replace H : (if t112 = true then ((spec_l1In.f a0_1 0 200).bind fun t113 => (if t113 = true then (spec_GoodCloud.j0 k (decide ((l0_2.length : Int) > 60)) a0_0 a0_1 l0_2) else (spec_GoodCloud.j0 k true a0_0 a0_1 l0_2))) else (spec_GoodCloud.j0 k true a0_0 a0_1 l0_2)) = some r := H
  have A4 := Aside0.mk A40
  clear A40
  by_cases c5 : t112 = true
  ·subst c5
   have H1 : ((spec_l1In.f a0_1 0 200).bind fun t113 => (if t113 = true then (spec_GoodCloud.j0 k (decide ((l0_2.length : Int) > 60)) a0_0 a0_1 l0_2) else (spec_GoodCloud.j0 k true a0_0 a0_1 l0_2))) = some r := by rw [if_pos rfl] at H; exact H
   clear H
   have H := H1
   clear H1
   replace H := Option.bind_eq_some_iff.mp H
   obtain ⟨t113, A60, H⟩ := H
   replace H : (if t113 = true then (spec_GoodCloud.j0 k (decide ((l0_2.length : Int) > 60)) a0_0 a0_1 l0_2) else (spec_GoodCloud.j0 k true a0_0 a0_1 l0_2)) = some r := H
   have A6 := Aside0.mk A60
   clear A60
   by_cases c7 : t113 = true
   ·subst c7
    have H1 : (spec_GoodCloud.j0 k (decide ((l0_2.length : Int) > 60)) a0_0 a0_1 l0_2) = some r := by rw [if_pos rfl] at H; exact H
    clear H
    have H := H1
    clear H1
    have H' := Aside0.mk H
    clear H
    have hcz8_0 := cz BK111 0 (.int .i64 a0_0)
    have hcz8_1 := cz BK111 1 (.int .i64 a0_1)
    have hcz8_2 := cz BK111 2 (.slice A0_2 l0_2.length c0_2)
    have hfz8_0 := fz BK111 0
    have hfz8_1 := fz BK111 1
    have hfz8_2 := fz BK111 2
    go_wp2_with (first | ((with_reducible refine gate_callee (f := 35) rfl ?_); refine goesL_ (some 7) rfl rfl Try.func35 (by kernel_rfl) rfl #[.int .i64 a0_0] rfl aE ?_; (with_reducible refine (spec_l1Seed.calls a0_0 true _ A4.out).mono ?_); rintro e w' ⟨rfl, ⟨nd, rfl⟩⟩; refine ⟨_, rfl, ?_⟩) | (go_at_call 29; (with_reducible refine (spec_l1In.calls a0_1 0 200 true _ A6.out).mono ?_); rintro e w' ⟨rfl, ⟨nd, rfl⟩⟩))
    go_meet
    case rel => exact ⟨_, (decide ((l0_2.length : Int) > 60)), tE, H', ⟨by first | omega | exact Nat.le_refl _⟩, ⟨by refine bU ?_; exact BK111.out⟩, ⟨by repeat (first | (with_reducible first | exact HB.out | apply below_alloc | apply pw_below_drewN | apply below_drew1 | refine below_set ?_ GE111.out) | exact HB.out)⟩⟩
   ·replace c7 := Bool.eq_false_iff.mpr c7
    subst c7
    have H1 : (spec_GoodCloud.j0 k true a0_0 a0_1 l0_2) = some r := by rw [if_neg (show ¬ (false = true) by decide)] at H; exact H
    clear H
    have H := H1
    clear H1
    have H' := Aside0.mk H
    clear H
    have hcz9_0 := cz BK111 0 (.int .i64 a0_0)
    have hcz9_1 := cz BK111 1 (.int .i64 a0_1)
    have hcz9_2 := cz BK111 2 (.slice A0_2 l0_2.length c0_2)
    have hfz9_0 := fz BK111 0
    have hfz9_1 := fz BK111 1
    have hfz9_2 := fz BK111 2
    go_wp2_with (first | ((with_reducible refine gate_callee (f := 35) rfl ?_); refine goesL_ (some 7) rfl rfl Try.func35 (by kernel_rfl) rfl #[.int .i64 a0_0] rfl aE ?_; (with_reducible refine (spec_l1Seed.calls a0_0 true _ A4.out).mono ?_); rintro e w' ⟨rfl, ⟨nd, rfl⟩⟩; refine ⟨_, rfl, ?_⟩) | (go_at_call 29; (with_reducible refine (spec_l1In.calls a0_1 0 200 false _ A6.out).mono ?_); rintro e w' ⟨rfl, ⟨nd, rfl⟩⟩))
    go_meet
    case rel => exact ⟨_, (true), tE, H', ⟨by first | omega | exact Nat.le_refl _⟩, ⟨by refine bU ?_; exact BK111.out⟩, ⟨by repeat (first | (with_reducible first | exact HB.out | apply below_alloc | apply pw_below_drewN | apply below_drew1 | refine below_set ?_ GE111.out) | exact HB.out)⟩⟩
  ·replace c5 := Bool.eq_false_iff.mpr c5
   subst c5
   have H1 : (spec_GoodCloud.j0 k true a0_0 a0_1 l0_2) = some r := by rw [if_neg (show ¬ (false = true) by decide)] at H; exact H
   clear H
   have H := H1
   clear H1
   have H' := Aside0.mk H
   clear H
   have hcz10_0 := cz BK111 0 (.int .i64 a0_0)
   have hcz10_1 := cz BK111 1 (.int .i64 a0_1)
   have hcz10_2 := cz BK111 2 (.slice A0_2 l0_2.length c0_2)
   have hfz10_0 := fz BK111 0
   have hfz10_1 := fz BK111 1
   have hfz10_2 := fz BK111 2
   go_wp2_with (first | ((with_reducible refine gate_callee (f := 35) rfl ?_); refine goesL_ (some 7) rfl rfl Try.func35 (by kernel_rfl) rfl #[.int .i64 a0_0] rfl aE ?_; (with_reducible refine (spec_l1Seed.calls a0_0 false _ A4.out).mono ?_); rintro e w' ⟨rfl, ⟨nd, rfl⟩⟩; refine ⟨_, rfl, ?_⟩))
   go_meet
   case rel => exact ⟨_, (true), tE, H', ⟨by first | omega | exact Nat.le_refl _⟩, ⟨by refine bU ?_; exact BK111.out⟩, ⟨by repeat (first | (with_reducible first | exact HB.out | apply below_alloc | apply pw_below_drewN | apply below_drew1 | refine below_set ?_ GE111.out) | exact HB.out)⟩⟩
 case rest =>
  clear HC2
  try clear c2
  try clear p2
  try clear c3
  try clear c5
  try clear c7
  try clear hcz10_0
  try clear hcz10_1
  try clear hcz10_2
  try clear hcz8_0
  try clear hcz8_1
  try clear hcz8_2
  try clear hcz9_0
  try clear hcz9_1
  try clear hcz9_2
  try clear hfz10_0
  try clear hfz10_1
  try clear hfz10_2
  try clear hfz8_0
  try clear hfz8_1
  try clear hfz8_2
  try clear hfz9_0
  try clear hfz9_1
  try clear hfz9_2
  obtain ⟨kq, x20_1, rfl, HA, HJ1, BK111, HB⟩ := hcut
  cases kq with
  | zero => exact absurd HA.out (by simp [spec_GoodCloud.j0])
  | succ kj1 =>
   have H := HA.out
   clear HA
   simp only [spec_GoodCloud.j0] at H
   by_cases c11 : x20_1 = true
   ·subst c11
    have H1 : (some false) = some r := by rw [if_pos rfl] at H; exact H
    clear H
    have H := H1
    clear H1
    obtain rfl := Option.some.inj H
    go_wp2
    go_ret
    exact ⟨eE, lV1 GE111⟩
   ·replace c11 := Bool.eq_false_iff.mpr c11
    subst c11
    have H1 : (spec_GoodCloud.l0 kj1 l0_2 (l0_2.length : Int) 0) = some r := by rw [if_neg (show ¬ (false = true) by decide)] at H; exact H
    clear H
    have H := H1
    clear H1
    have H' := Aside0.mk H
    clear H
    have hcz12_0 := cz BK111 0 (.int .i64 a0_0)
    have hcz12_1 := cz BK111 1 (.int .i64 a0_1)
    have hcz12_2 := cz BK111 2 (.slice A0_2 l0_2.length c0_2)
    have hfz12_0 := fz BK111 0
    have hfz12_1 := fz BK111 1
    have hfz12_2 := fz BK111 2
    go_wp2
    go_loopg [24] kj1 (fun kq v24 w' => ∃ (x24_2 : Int), v24 = .int .i64 x24_2 ∧ Aside0 (spec_GoodCloud.l0 kq l0_2 (l0_2.length : Int) x24_2 = some r) ∧ Aside0 (kq ≤ kj1) ∧ Aside0 (w'.heap[gb111]? = some (.cells #[.int .i64 a0_0, .int .i64 a0_1, (.slice A0_2 l0_2.length c0_2)] 35 (0, 0))) ∧ Aside0 (Below w.heap.size w w'))
    case atStart => exact ⟨(0), tE, H', ⟨Nat.le_refl _⟩, ⟨by refine bU ?_; exact BK111.out⟩, ⟨by repeat (first | (with_reducible first | exact HB.out | apply below_alloc | apply pw_below_drewN | apply below_drew1 | refine below_set ?_ GE111.out) | exact HB.out)⟩⟩
    case round =>
     clear H'
     try clear c1
     try clear c2
     try clear p2
     try clear c3
     try clear c5
     try clear c7
     try clear c11
     try clear hcz10_0
     try clear hcz10_1
     try clear hcz10_2
     try clear hcz12_0
     try clear hcz12_1
     try clear hcz12_2
     try clear hcz8_0
     try clear hcz8_1
     try clear hcz8_2
     try clear hcz9_0
     try clear hcz9_1
     try clear hcz9_2
     try clear hfz10_0
     try clear hfz10_1
     try clear hfz10_2
     try clear hfz12_0
     try clear hfz12_1
     try clear hfz12_2
     try clear hfz8_0
     try clear hfz8_1
     try clear hfz8_2
     try clear hfz9_0
     try clear hfz9_1
     try clear hfz9_2
     try clear p2
     obtain ⟨x24_2, rfl, HA, HK2, BK111, HB⟩ := hrel
     cases gk with
     | zero => exact absurd HA.out (by simp [spec_GoodCloud.l0])
     | succ k2 =>
      have H := HA.out
      clear HA
      simp only [spec_GoodCloud.l0] at H
      by_cases c13 : x24_2 < (l0_2.length : Int)
      ·rw [if_pos c13] at H
       have c13b0 : decide (x24_2 < (l0_2.length : Int)) = true := decide_eq_true c13
       clear c13
       by_cases c14 : 0 ≤ x24_2
       ·rw [if_pos c14] at H
        have c14b0 : decide (0 ≤ x24_2) = true := decide_eq_true c14
        clear c14
        by_cases c15 : x24_2 < (l0_2.length : Int)
        ·rw [if_pos c15] at H
         have c15b0 : decide (x24_2 < (l0_2.length : Int)) = true := decide_eq_true c15
         clear c15
         replace H := Option.bind_eq_some_iff.mp H
         obtain ⟨t116, A160, H⟩ := H
         replace H : (if t116 = true then ((spec_GoodFixed.f ((rd_T48 l0_2 x24_2).f1)).bind fun t117 => (if t117 = true then ((spec_GoodFixed.f ((rd_T48 l0_2 x24_2).f2)).bind fun t118 => (if t118 = true then ((spec_GoodFixed.f ((rd_T48 l0_2 x24_2).f3)).bind fun t119 => (if t119 = true then ((spec_l1In.f ((rd_T48 l0_2 x24_2).f4) 1 200).bind fun t120 => (if t120 = true then (spec_GoodCloud.l0 k2 l0_2 (l0_2.length : Int) (wrap64 (x24_2 + 1))) else (some false))) else (some false))) else (some false))) else (some false))) else (some false)) = some r := H
         have A16 := Aside0.mk A160
         clear A160
         by_cases c17 : t116 = true
         ·subst c17
          have H1 : ((spec_GoodFixed.f ((rd_T48 l0_2 x24_2).f1)).bind fun t117 => (if t117 = true then ((spec_GoodFixed.f ((rd_T48 l0_2 x24_2).f2)).bind fun t118 => (if t118 = true then ((spec_GoodFixed.f ((rd_T48 l0_2 x24_2).f3)).bind fun t119 => (if t119 = true then ((spec_l1In.f ((rd_T48 l0_2 x24_2).f4) 1 200).bind fun t120 => (if t120 = true then (spec_GoodCloud.l0 k2 l0_2 (l0_2.length : Int) (wrap64 (x24_2 + 1))) else (some false))) else (some false))) else (some false))) else (some false))) = some r := by rw [if_pos rfl] at H; exact H
          clear H
          have H := H1
          clear H1
          replace H := Option.bind_eq_some_iff.mp H
          obtain ⟨t117, A180, H⟩ := H
          replace H : (if t117 = true then ((spec_GoodFixed.f ((rd_T48 l0_2 x24_2).f2)).bind fun t118 => (if t118 = true then ((spec_GoodFixed.f ((rd_T48 l0_2 x24_2).f3)).bind fun t119 => (if t119 = true then ((spec_l1In.f ((rd_T48 l0_2 x24_2).f4) 1 200).bind fun t120 => (if t120 = true then (spec_GoodCloud.l0 k2 l0_2 (l0_2.length : Int) (wrap64 (x24_2 + 1))) else (some false))) else (some false))) else (some false))) else (some false)) = some r := H
          have A18 := Aside0.mk A180
          clear A180
          by_cases c19 : t117 = true
          ·subst c19
           have H1 : ((spec_GoodFixed.f ((rd_T48 l0_2 x24_2).f2)).bind fun t118 => (if t118 = true then ((spec_GoodFixed.f ((rd_T48 l0_2 x24_2).f3)).bind fun t119 => (if t119 = true then ((spec_l1In.f ((rd_T48 l0_2 x24_2).f4) 1 200).bind fun t120 => (if t120 = true then (spec_GoodCloud.l0 k2 l0_2 (l0_2.length : Int) (wrap64 (x24_2 + 1))) else (some false))) else (some false))) else (some false))) = some r := by rw [if_pos rfl] at H; exact H
           clear H
           have H := H1
           clear H1
           replace H := Option.bind_eq_some_iff.mp H
           obtain ⟨t118, A200, H⟩ := H
           replace H : (if t118 = true then ((spec_GoodFixed.f ((rd_T48 l0_2 x24_2).f3)).bind fun t119 => (if t119 = true then ((spec_l1In.f ((rd_T48 l0_2 x24_2).f4) 1 200).bind fun t120 => (if t120 = true then (spec_GoodCloud.l0 k2 l0_2 (l0_2.length : Int) (wrap64 (x24_2 + 1))) else (some false))) else (some false))) else (some false)) = some r := H
           have A20 := Aside0.mk A200
           clear A200
           by_cases c21 : t118 = true
           ·subst c21
            have H1 : ((spec_GoodFixed.f ((rd_T48 l0_2 x24_2).f3)).bind fun t119 => (if t119 = true then ((spec_l1In.f ((rd_T48 l0_2 x24_2).f4) 1 200).bind fun t120 => (if t120 = true then (spec_GoodCloud.l0 k2 l0_2 (l0_2.length : Int) (wrap64 (x24_2 + 1))) else (some false))) else (some false))) = some r := by rw [if_pos rfl] at H; exact H
            clear H
            have H := H1
            clear H1
            replace H := Option.bind_eq_some_iff.mp H
            obtain ⟨t119, A220, H⟩ := H
            replace H : (if t119 = true then ((spec_l1In.f ((rd_T48 l0_2 x24_2).f4) 1 200).bind fun t120 => (if t120 = true then (spec_GoodCloud.l0 k2 l0_2 (l0_2.length : Int) (wrap64 (x24_2 + 1))) else (some false))) else (some false)) = some r := H
            have A22 := Aside0.mk A220
            clear A220
            by_cases c23 : t119 = true
            ·subst c23
             have H1 : ((spec_l1In.f ((rd_T48 l0_2 x24_2).f4) 1 200).bind fun t120 => (if t120 = true then (spec_GoodCloud.l0 k2 l0_2 (l0_2.length : Int) (wrap64 (x24_2 + 1))) else (some false))) = some r := by rw [if_pos rfl] at H; exact H
             clear H
             have H := H1
             clear H1
             replace H := Option.bind_eq_some_iff.mp H
             obtain ⟨t120, A240, H⟩ := H
             replace H : (if t120 = true then (spec_GoodCloud.l0 k2 l0_2 (l0_2.length : Int) (wrap64 (x24_2 + 1))) else (some false)) = some r := H
             have A24 := Aside0.mk A240
             clear A240
             by_cases c25 : t120 = true
             ·subst c25
              have H1 : (spec_GoodCloud.l0 k2 l0_2 (l0_2.length : Int) (wrap64 (x24_2 + 1))) = some r := by rw [if_pos rfl] at H; exact H
              clear H
              have H := H1
              clear H1
              have H' := Aside0.mk H
              clear H
              have p114 : 0 ≤ (x24_2 : Int) := of_decide_eq_true hE
              have q114 : x24_2 < (l0_2.length : Int) := of_decide_eq_true hE
              obtain ⟨ad114, e114, hx114_0, hx114_1, hx114_2, hx114_3, hx114_4⟩ := at_T48 HR0_2.out x24_2 p114 q114
              cases e114
              replace hx114_0 := (HB.out.cell (World.block_lt_of_cell? w _ hx114_0)).trans hx114_0
              replace hx114_1 := (HB.out.cell (World.block_lt_of_cell? w _ hx114_1)).trans hx114_1
              replace hx114_2 := (HB.out.cell (World.block_lt_of_cell? w _ hx114_2)).trans hx114_2
              replace hx114_3 := (HB.out.cell (World.block_lt_of_cell? w _ hx114_3)).trans hx114_3
              replace hx114_4 := (HB.out.cell (World.block_lt_of_cell? w _ hx114_4)).trans hx114_4
              replace p114 := eq_true p114
              replace q114 := eq_true q114
              go_wp2_with (first | ((with_reducible refine gate_dst (N := 4) rfl ?_); (try (refine gate_guard (by rfl) ?_; dsimp only)); refine box_event rfl (N := 4) rfl (cs := #[.int .i64 0, .int .i64 0, .int .i64 0, .int .i64 0, .int .i64 0]) (t := 48) sE ?_; intro gb115 hg w26 hbox hb; have BK115 := Aside0.mk hbox; have GW115 := gS w hg (lV1 GE111); have GE115 := gS w hg (lV1 GE111); replace HB := bH (lV1 GE111) hb; have NB111_115 := nL hg (bV BK111); have NB115_111 := nG hg (bV BK111); replace BK111 := bB (bV BK111) hb; clear hb hbox hg; have hnb27 := NB115_111.out; have hnc27 := NB111_115.out; have hcz28_0 := cz BK115 0 (.int .i64 0); have hcz28_1 := cz BK115 1 (.int .i64 0); have hcz28_2 := cz BK115 2 (.int .i64 0); have hcz28_3 := cz BK115 3 (.int .i64 0); have hcz28_4 := cz BK115 4 (.int .i64 0); have hfz28_0 := fz BK115 0; have hfz28_1 := fz BK115 1; have hfz28_2 := fz BK115 2; have hfz28_3 := fz BK115 3; have hfz28_4 := fz BK115 4) | ((with_reducible refine gate_store (t := 48) (p := 4) rfl ?_); refine store_event (t := 48) (p := 4) (v := ?vo_w29) (w1 := (((((w26.setCell ⟨gb115, 0, none⟩ (.int .i64 ((rd_T48 l0_2 x24_2).f0))).setCell ⟨gb115, 1, none⟩ (.int .i64 ((rd_T48 l0_2 x24_2).f1))).setCell ⟨gb115, 2, none⟩ (.int .i64 ((rd_T48 l0_2 x24_2).f2))).setCell ⟨gb115, 3, none⟩ (.int .i64 ((rd_T48 l0_2 x24_2).f3))).setCell ⟨gb115, 4, none⟩ (.int .i64 ((rd_T48 l0_2 x24_2).f4)))) ?hg ?ho ?hn ?hr ?_; (case ho => rfl); (case hg => rfl); (case hn => rfl); (case hr => first | (go_simp; done) | (go_simp; rfl) | (have hq0_ := (blk_cell BK115.out 0).trans (show _ = some _ from rfl); have hf0_ := blk_frozen BK115.out 0; have hq1_ := (blk_cell BK115.out 1).trans (show _ = some _ from rfl); have hf1_ := blk_frozen BK115.out 1; have hq2_ := (blk_cell BK115.out 2).trans (show _ = some _ from rfl); have hf2_ := blk_frozen BK115.out 2; have hq3_ := (blk_cell BK115.out 3).trans (show _ = some _ from rfl); have hf3_ := blk_frozen BK115.out 3; have hq4_ := (blk_cell BK115.out 4).trans (show _ = some _ from rfl); have hf4_ := blk_frozen BK115.out 4; first | (go_simp; done) | (go_simp; rfl))); intro w29 hw; replace BK111 : Aside0 (w29.heap[gb111]? = some (.cells #[.int .i64 a0_0, .int .i64 a0_1, .slice (some ad114) l0_2.length c0_2] 35 (0, 0))) := ⟨(by rw [hw]; exact (bG NB111_115 BK111))⟩; replace BK115 : Aside0 (w29.heap[gb115]? = some (.cells #[.int .i64 ((rd_T48 l0_2 x24_2).f0), .int .i64 ((rd_T48 l0_2 x24_2).f1), .int .i64 ((rd_T48 l0_2 x24_2).f2), .int .i64 ((rd_T48 l0_2 x24_2).f3), .int .i64 ((rd_T48 l0_2 x24_2).f4)] 48 (0, 0))) := ⟨(by rw [hw]; exact (by refine bU ?_; refine blk_put (cs := #[.int .i64 ((rd_T48 l0_2 x24_2).f0), .int .i64 ((rd_T48 l0_2 x24_2).f1), .int .i64 ((rd_T48 l0_2 x24_2).f2), .int .i64 ((rd_T48 l0_2 x24_2).f3), .int .i64 0]) ?_ 4 _ rfl; refine bU ?_; refine blk_put (cs := #[.int .i64 ((rd_T48 l0_2 x24_2).f0), .int .i64 ((rd_T48 l0_2 x24_2).f1), .int .i64 ((rd_T48 l0_2 x24_2).f2), .int .i64 0, .int .i64 0]) ?_ 3 _ rfl; refine bU ?_; refine blk_put (cs := #[.int .i64 ((rd_T48 l0_2 x24_2).f0), .int .i64 ((rd_T48 l0_2 x24_2).f1), .int .i64 0, .int .i64 0, .int .i64 0]) ?_ 2 _ rfl; refine bU ?_; refine blk_put (cs := #[.int .i64 ((rd_T48 l0_2 x24_2).f0), .int .i64 0, .int .i64 0, .int .i64 0, .int .i64 0]) ?_ 1 _ rfl; refine bU ?_; refine blk_put (cs := #[.int .i64 0, .int .i64 0, .int .i64 0, .int .i64 0, .int .i64 0]) ?_ 0 _ rfl; refine bU ?_; exact BK115.out))⟩; replace HB : Aside0 (Below w.heap.size w w29) := ⟨(by rw [hw]; exact (lV2 GE111 GE115))⟩; clear hw; have hcz30_0 := cz BK115 0 (.int .i64 ((rd_T48 l0_2 x24_2).f0)); have hcz30_1 := cz BK115 1 (.int .i64 ((rd_T48 l0_2 x24_2).f1)); have hcz30_2 := cz BK115 2 (.int .i64 ((rd_T48 l0_2 x24_2).f2)); have hcz30_3 := cz BK115 3 (.int .i64 ((rd_T48 l0_2 x24_2).f3)); have hcz30_4 := cz BK115 4 (.int .i64 ((rd_T48 l0_2 x24_2).f4)); have hfz30_0 := fz BK115 0; have hfz30_1 := fz BK115 1; have hfz30_2 := fz BK115 2; have hfz30_3 := fz BK115 3; have hfz30_4 := fz BK115 4) | ((with_reducible refine gate_callee (f := 36) rfl ?_); refine goesL_ (some 30) rfl rfl Try.func36 (by kernel_rfl) rfl #[.int .i64 ((rd_T48 l0_2 x24_2).f0)] rfl aE ?_; (with_reducible refine (spec_GoodFixed.calls ((rd_T48 l0_2 x24_2).f0) true _ A16.out).mono ?_); rintro e w' ⟨rfl, ⟨nd, rfl⟩⟩; refine ⟨_, rfl, ?_⟩) | (go_at_call 36; (with_reducible refine (spec_GoodFixed.calls ((rd_T48 l0_2 x24_2).f1) true _ A18.out).mono ?_); rintro e w' ⟨rfl, ⟨nd, rfl⟩⟩) | (go_at_call 36; (with_reducible refine (spec_GoodFixed.calls ((rd_T48 l0_2 x24_2).f2) true _ A20.out).mono ?_); rintro e w' ⟨rfl, ⟨nd, rfl⟩⟩) | (go_at_call 36; (with_reducible refine (spec_GoodFixed.calls ((rd_T48 l0_2 x24_2).f3) true _ A22.out).mono ?_); rintro e w' ⟨rfl, ⟨nd, rfl⟩⟩) | (go_at_call 29; (with_reducible refine (spec_l1In.calls ((rd_T48 l0_2 x24_2).f4) 1 200 true _ A24.out).mono ?_); rintro e w' ⟨rfl, ⟨nd, rfl⟩⟩))
              go_roundg k2
              case measure => have := HJ1.out; have := HK2.out; omega
              case rel => exact ⟨(wrap64 (x24_2 + 1)), tE, H', ⟨by have := HJ1.out; have := HK2.out; omega⟩, ⟨by refine bU ?_; exact BK111.out⟩, ⟨by repeat (first | (with_reducible first | exact HB.out | apply below_alloc | apply pw_below_drewN | apply below_drew1 | refine below_set ?_ GE111.out | refine below_set ?_ GE115.out) | exact HB.out)⟩⟩
             ·replace c25 := Bool.eq_false_iff.mpr c25
              subst c25
              have H1 : (some false) = some r := by rw [if_neg (show ¬ (false = true) by decide)] at H; exact H
              clear H
              have H := H1
              clear H1
              obtain rfl := Option.some.inj H
              have p114 : 0 ≤ (x24_2 : Int) := of_decide_eq_true hE
              have q114 : x24_2 < (l0_2.length : Int) := of_decide_eq_true hE
              obtain ⟨ad114, e114, hx114_0, hx114_1, hx114_2, hx114_3, hx114_4⟩ := at_T48 HR0_2.out x24_2 p114 q114
              cases e114
              replace hx114_0 := (HB.out.cell (World.block_lt_of_cell? w _ hx114_0)).trans hx114_0
              replace hx114_1 := (HB.out.cell (World.block_lt_of_cell? w _ hx114_1)).trans hx114_1
              replace hx114_2 := (HB.out.cell (World.block_lt_of_cell? w _ hx114_2)).trans hx114_2
              replace hx114_3 := (HB.out.cell (World.block_lt_of_cell? w _ hx114_3)).trans hx114_3
              replace hx114_4 := (HB.out.cell (World.block_lt_of_cell? w _ hx114_4)).trans hx114_4
              replace p114 := eq_true p114
              replace q114 := eq_true q114
              go_wp2_with (first | ((with_reducible refine gate_dst (N := 4) rfl ?_); (try (refine gate_guard (by rfl) ?_; dsimp only)); refine box_event rfl (N := 4) rfl (cs := #[.int .i64 0, .int .i64 0, .int .i64 0, .int .i64 0, .int .i64 0]) (t := 48) sE ?_; intro gb115 hg w31 hbox hb; have BK115 := Aside0.mk hbox; have GW115 := gS w hg (lV1 GE111); have GE115 := gS w hg (lV1 GE111); replace HB := bH (lV1 GE111) hb; have NB111_115 := nL hg (bV BK111); have NB115_111 := nG hg (bV BK111); replace BK111 := bB (bV BK111) hb; clear hb hbox hg; have hnb32 := NB115_111.out; have hnc32 := NB111_115.out; have hcz33_0 := cz BK115 0 (.int .i64 0); have hcz33_1 := cz BK115 1 (.int .i64 0); have hcz33_2 := cz BK115 2 (.int .i64 0); have hcz33_3 := cz BK115 3 (.int .i64 0); have hcz33_4 := cz BK115 4 (.int .i64 0); have hfz33_0 := fz BK115 0; have hfz33_1 := fz BK115 1; have hfz33_2 := fz BK115 2; have hfz33_3 := fz BK115 3; have hfz33_4 := fz BK115 4) | ((with_reducible refine gate_store (t := 48) (p := 4) rfl ?_); refine store_event (t := 48) (p := 4) (v := ?vo_w34) (w1 := (((((w31.setCell ⟨gb115, 0, none⟩ (.int .i64 ((rd_T48 l0_2 x24_2).f0))).setCell ⟨gb115, 1, none⟩ (.int .i64 ((rd_T48 l0_2 x24_2).f1))).setCell ⟨gb115, 2, none⟩ (.int .i64 ((rd_T48 l0_2 x24_2).f2))).setCell ⟨gb115, 3, none⟩ (.int .i64 ((rd_T48 l0_2 x24_2).f3))).setCell ⟨gb115, 4, none⟩ (.int .i64 ((rd_T48 l0_2 x24_2).f4)))) ?hg ?ho ?hn ?hr ?_; (case ho => rfl); (case hg => rfl); (case hn => rfl); (case hr => first | (go_simp; done) | (go_simp; rfl) | (have hq0_ := (blk_cell BK115.out 0).trans (show _ = some _ from rfl); have hf0_ := blk_frozen BK115.out 0; have hq1_ := (blk_cell BK115.out 1).trans (show _ = some _ from rfl); have hf1_ := blk_frozen BK115.out 1; have hq2_ := (blk_cell BK115.out 2).trans (show _ = some _ from rfl); have hf2_ := blk_frozen BK115.out 2; have hq3_ := (blk_cell BK115.out 3).trans (show _ = some _ from rfl); have hf3_ := blk_frozen BK115.out 3; have hq4_ := (blk_cell BK115.out 4).trans (show _ = some _ from rfl); have hf4_ := blk_frozen BK115.out 4; first | (go_simp; done) | (go_simp; rfl))); intro w34 hw; replace BK111 : Aside0 (w34.heap[gb111]? = some (.cells #[.int .i64 a0_0, .int .i64 a0_1, .slice (some ad114) l0_2.length c0_2] 35 (0, 0))) := ⟨(by rw [hw]; exact (bG NB111_115 BK111))⟩; replace BK115 : Aside0 (w34.heap[gb115]? = some (.cells #[.int .i64 ((rd_T48 l0_2 x24_2).f0), .int .i64 ((rd_T48 l0_2 x24_2).f1), .int .i64 ((rd_T48 l0_2 x24_2).f2), .int .i64 ((rd_T48 l0_2 x24_2).f3), .int .i64 ((rd_T48 l0_2 x24_2).f4)] 48 (0, 0))) := ⟨(by rw [hw]; exact (by refine bU ?_; refine blk_put (cs := #[.int .i64 ((rd_T48 l0_2 x24_2).f0), .int .i64 ((rd_T48 l0_2 x24_2).f1), .int .i64 ((rd_T48 l0_2 x24_2).f2), .int .i64 ((rd_T48 l0_2 x24_2).f3), .int .i64 0]) ?_ 4 _ rfl; refine bU ?_; refine blk_put (cs := #[.int .i64 ((rd_T48 l0_2 x24_2).f0), .int .i64 ((rd_T48 l0_2 x24_2).f1), .int .i64 ((rd_T48 l0_2 x24_2).f2), .int .i64 0, .int .i64 0]) ?_ 3 _ rfl; refine bU ?_; refine blk_put (cs := #[.int .i64 ((rd_T48 l0_2 x24_2).f0), .int .i64 ((rd_T48 l0_2 x24_2).f1), .int .i64 0, .int .i64 0, .int .i64 0]) ?_ 2 _ rfl; refine bU ?_; refine blk_put (cs := #[.int .i64 ((rd_T48 l0_2 x24_2).f0), .int .i64 0, .int .i64 0, .int .i64 0, .int .i64 0]) ?_ 1 _ rfl; refine bU ?_; refine blk_put (cs := #[.int .i64 0, .int .i64 0, .int .i64 0, .int .i64 0, .int .i64 0]) ?_ 0 _ rfl; refine bU ?_; exact BK115.out))⟩; replace HB : Aside0 (Below w.heap.size w w34) := ⟨(by rw [hw]; exact (lV2 GE111 GE115))⟩; clear hw; have hcz35_0 := cz BK115 0 (.int .i64 ((rd_T48 l0_2 x24_2).f0)); have hcz35_1 := cz BK115 1 (.int .i64 ((rd_T48 l0_2 x24_2).f1)); have hcz35_2 := cz BK115 2 (.int .i64 ((rd_T48 l0_2 x24_2).f2)); have hcz35_3 := cz BK115 3 (.int .i64 ((rd_T48 l0_2 x24_2).f3)); have hcz35_4 := cz BK115 4 (.int .i64 ((rd_T48 l0_2 x24_2).f4)); have hfz35_0 := fz BK115 0; have hfz35_1 := fz BK115 1; have hfz35_2 := fz BK115 2; have hfz35_3 := fz BK115 3; have hfz35_4 := fz BK115 4) | ((with_reducible refine gate_callee (f := 36) rfl ?_); refine goesL_ (some 30) rfl rfl Try.func36 (by kernel_rfl) rfl #[.int .i64 ((rd_T48 l0_2 x24_2).f0)] rfl aE ?_; (with_reducible refine (spec_GoodFixed.calls ((rd_T48 l0_2 x24_2).f0) true _ A16.out).mono ?_); rintro e w' ⟨rfl, ⟨nd, rfl⟩⟩; refine ⟨_, rfl, ?_⟩) | (go_at_call 36; (with_reducible refine (spec_GoodFixed.calls ((rd_T48 l0_2 x24_2).f1) true _ A18.out).mono ?_); rintro e w' ⟨rfl, ⟨nd, rfl⟩⟩) | (go_at_call 36; (with_reducible refine (spec_GoodFixed.calls ((rd_T48 l0_2 x24_2).f2) true _ A20.out).mono ?_); rintro e w' ⟨rfl, ⟨nd, rfl⟩⟩) | (go_at_call 36; (with_reducible refine (spec_GoodFixed.calls ((rd_T48 l0_2 x24_2).f3) true _ A22.out).mono ?_); rintro e w' ⟨rfl, ⟨nd, rfl⟩⟩) | (go_at_call 29; (with_reducible refine (spec_l1In.calls ((rd_T48 l0_2 x24_2).f4) 1 200 false _ A24.out).mono ?_); rintro e w' ⟨rfl, ⟨nd, rfl⟩⟩))
              go_ret
              exact ⟨eE, lV2 GE111 GE115⟩
            ·replace c23 := Bool.eq_false_iff.mpr c23
             subst c23
             have H1 : (some false) = some r := by rw [if_neg (show ¬ (false = true) by decide)] at H; exact H
             clear H
             have H := H1
             clear H1
             obtain rfl := Option.some.inj H
             have p114 : 0 ≤ (x24_2 : Int) := of_decide_eq_true hE
             have q114 : x24_2 < (l0_2.length : Int) := of_decide_eq_true hE
             obtain ⟨ad114, e114, hx114_0, hx114_1, hx114_2, hx114_3, hx114_4⟩ := at_T48 HR0_2.out x24_2 p114 q114
             cases e114
             replace hx114_0 := (HB.out.cell (World.block_lt_of_cell? w _ hx114_0)).trans hx114_0
             replace hx114_1 := (HB.out.cell (World.block_lt_of_cell? w _ hx114_1)).trans hx114_1
             replace hx114_2 := (HB.out.cell (World.block_lt_of_cell? w _ hx114_2)).trans hx114_2
             replace hx114_3 := (HB.out.cell (World.block_lt_of_cell? w _ hx114_3)).trans hx114_3
             replace hx114_4 := (HB.out.cell (World.block_lt_of_cell? w _ hx114_4)).trans hx114_4
             replace p114 := eq_true p114
             replace q114 := eq_true q114
             go_wp2_with (first | ((with_reducible refine gate_dst (N := 4) rfl ?_); (try (refine gate_guard (by rfl) ?_; dsimp only)); refine box_event rfl (N := 4) rfl (cs := #[.int .i64 0, .int .i64 0, .int .i64 0, .int .i64 0, .int .i64 0]) (t := 48) sE ?_; intro gb115 hg w36 hbox hb; have BK115 := Aside0.mk hbox; have GW115 := gS w hg (lV1 GE111); have GE115 := gS w hg (lV1 GE111); replace HB := bH (lV1 GE111) hb; have NB111_115 := nL hg (bV BK111); have NB115_111 := nG hg (bV BK111); replace BK111 := bB (bV BK111) hb; clear hb hbox hg; have hnb37 := NB115_111.out; have hnc37 := NB111_115.out; have hcz38_0 := cz BK115 0 (.int .i64 0); have hcz38_1 := cz BK115 1 (.int .i64 0); have hcz38_2 := cz BK115 2 (.int .i64 0); have hcz38_3 := cz BK115 3 (.int .i64 0); have hcz38_4 := cz BK115 4 (.int .i64 0); have hfz38_0 := fz BK115 0; have hfz38_1 := fz BK115 1; have hfz38_2 := fz BK115 2; have hfz38_3 := fz BK115 3; have hfz38_4 := fz BK115 4) | ((with_reducible refine gate_store (t := 48) (p := 4) rfl ?_); refine store_event (t := 48) (p := 4) (v := ?vo_w39) (w1 := (((((w36.setCell ⟨gb115, 0, none⟩ (.int .i64 ((rd_T48 l0_2 x24_2).f0))).setCell ⟨gb115, 1, none⟩ (.int .i64 ((rd_T48 l0_2 x24_2).f1))).setCell ⟨gb115, 2, none⟩ (.int .i64 ((rd_T48 l0_2 x24_2).f2))).setCell ⟨gb115, 3, none⟩ (.int .i64 ((rd_T48 l0_2 x24_2).f3))).setCell ⟨gb115, 4, none⟩ (.int .i64 ((rd_T48 l0_2 x24_2).f4)))) ?hg ?ho ?hn ?hr ?_; (case ho => rfl); (case hg => rfl); (case hn => rfl); (case hr => first | (go_simp; done) | (go_simp; rfl) | (have hq0_ := (blk_cell BK115.out 0).trans (show _ = some _ from rfl); have hf0_ := blk_frozen BK115.out 0; have hq1_ := (blk_cell BK115.out 1).trans (show _ = some _ from rfl); have hf1_ := blk_frozen BK115.out 1; have hq2_ := (blk_cell BK115.out 2).trans (show _ = some _ from rfl); have hf2_ := blk_frozen BK115.out 2; have hq3_ := (blk_cell BK115.out 3).trans (show _ = some _ from rfl); have hf3_ := blk_frozen BK115.out 3; have hq4_ := (blk_cell BK115.out 4).trans (show _ = some _ from rfl); have hf4_ := blk_frozen BK115.out 4; first | (go_simp; done) | (go_simp; rfl))); intro w39 hw; replace BK111 : Aside0 (w39.heap[gb111]? = some (.cells #[.int .i64 a0_0, .int .i64 a0_1, .slice (some ad114) l0_2.length c0_2] 35 (0, 0))) := ⟨(by rw [hw]; exact (bG NB111_115 BK111))⟩; replace BK115 : Aside0 (w39.heap[gb115]? = some (.cells #[.int .i64 ((rd_T48 l0_2 x24_2).f0), .int .i64 ((rd_T48 l0_2 x24_2).f1), .int .i64 ((rd_T48 l0_2 x24_2).f2), .int .i64 ((rd_T48 l0_2 x24_2).f3), .int .i64 ((rd_T48 l0_2 x24_2).f4)] 48 (0, 0))) := ⟨(by rw [hw]; exact (by refine bU ?_; refine blk_put (cs := #[.int .i64 ((rd_T48 l0_2 x24_2).f0), .int .i64 ((rd_T48 l0_2 x24_2).f1), .int .i64 ((rd_T48 l0_2 x24_2).f2), .int .i64 ((rd_T48 l0_2 x24_2).f3), .int .i64 0]) ?_ 4 _ rfl; refine bU ?_; refine blk_put (cs := #[.int .i64 ((rd_T48 l0_2 x24_2).f0), .int .i64 ((rd_T48 l0_2 x24_2).f1), .int .i64 ((rd_T48 l0_2 x24_2).f2), .int .i64 0, .int .i64 0]) ?_ 3 _ rfl; refine bU ?_; refine blk_put (cs := #[.int .i64 ((rd_T48 l0_2 x24_2).f0), .int .i64 ((rd_T48 l0_2 x24_2).f1), .int .i64 0, .int .i64 0, .int .i64 0]) ?_ 2 _ rfl; refine bU ?_; refine blk_put (cs := #[.int .i64 ((rd_T48 l0_2 x24_2).f0), .int .i64 0, .int .i64 0, .int .i64 0, .int .i64 0]) ?_ 1 _ rfl; refine bU ?_; refine blk_put (cs := #[.int .i64 0, .int .i64 0, .int .i64 0, .int .i64 0, .int .i64 0]) ?_ 0 _ rfl; refine bU ?_; exact BK115.out))⟩; replace HB : Aside0 (Below w.heap.size w w39) := ⟨(by rw [hw]; exact (lV2 GE111 GE115))⟩; clear hw; have hcz40_0 := cz BK115 0 (.int .i64 ((rd_T48 l0_2 x24_2).f0)); have hcz40_1 := cz BK115 1 (.int .i64 ((rd_T48 l0_2 x24_2).f1)); have hcz40_2 := cz BK115 2 (.int .i64 ((rd_T48 l0_2 x24_2).f2)); have hcz40_3 := cz BK115 3 (.int .i64 ((rd_T48 l0_2 x24_2).f3)); have hcz40_4 := cz BK115 4 (.int .i64 ((rd_T48 l0_2 x24_2).f4)); have hfz40_0 := fz BK115 0; have hfz40_1 := fz BK115 1; have hfz40_2 := fz BK115 2; have hfz40_3 := fz BK115 3; have hfz40_4 := fz BK115 4) | ((with_reducible refine gate_callee (f := 36) rfl ?_); refine goesL_ (some 30) rfl rfl Try.func36 (by kernel_rfl) rfl #[.int .i64 ((rd_T48 l0_2 x24_2).f0)] rfl aE ?_; (with_reducible refine (spec_GoodFixed.calls ((rd_T48 l0_2 x24_2).f0) true _ A16.out).mono ?_); rintro e w' ⟨rfl, ⟨nd, rfl⟩⟩; refine ⟨_, rfl, ?_⟩) | (go_at_call 36; (with_reducible refine (spec_GoodFixed.calls ((rd_T48 l0_2 x24_2).f1) true _ A18.out).mono ?_); rintro e w' ⟨rfl, ⟨nd, rfl⟩⟩) | (go_at_call 36; (with_reducible refine (spec_GoodFixed.calls ((rd_T48 l0_2 x24_2).f2) true _ A20.out).mono ?_); rintro e w' ⟨rfl, ⟨nd, rfl⟩⟩) | (go_at_call 36; (with_reducible refine (spec_GoodFixed.calls ((rd_T48 l0_2 x24_2).f3) false _ A22.out).mono ?_); rintro e w' ⟨rfl, ⟨nd, rfl⟩⟩))
             go_ret
             exact ⟨eE, lV2 GE111 GE115⟩
           ·replace c21 := Bool.eq_false_iff.mpr c21
            subst c21
            have H1 : (some false) = some r := by rw [if_neg (show ¬ (false = true) by decide)] at H; exact H
            clear H
            have H := H1
            clear H1
            obtain rfl := Option.some.inj H
            have p114 : 0 ≤ (x24_2 : Int) := of_decide_eq_true hE
            have q114 : x24_2 < (l0_2.length : Int) := of_decide_eq_true hE
            obtain ⟨ad114, e114, hx114_0, hx114_1, hx114_2, hx114_3, hx114_4⟩ := at_T48 HR0_2.out x24_2 p114 q114
            cases e114
            replace hx114_0 := (HB.out.cell (World.block_lt_of_cell? w _ hx114_0)).trans hx114_0
            replace hx114_1 := (HB.out.cell (World.block_lt_of_cell? w _ hx114_1)).trans hx114_1
            replace hx114_2 := (HB.out.cell (World.block_lt_of_cell? w _ hx114_2)).trans hx114_2
            replace hx114_3 := (HB.out.cell (World.block_lt_of_cell? w _ hx114_3)).trans hx114_3
            replace hx114_4 := (HB.out.cell (World.block_lt_of_cell? w _ hx114_4)).trans hx114_4
            replace p114 := eq_true p114
            replace q114 := eq_true q114
            go_wp2_with (first | ((with_reducible refine gate_dst (N := 4) rfl ?_); (try (refine gate_guard (by rfl) ?_; dsimp only)); refine box_event rfl (N := 4) rfl (cs := #[.int .i64 0, .int .i64 0, .int .i64 0, .int .i64 0, .int .i64 0]) (t := 48) sE ?_; intro gb115 hg w41 hbox hb; have BK115 := Aside0.mk hbox; have GW115 := gS w hg (lV1 GE111); have GE115 := gS w hg (lV1 GE111); replace HB := bH (lV1 GE111) hb; have NB111_115 := nL hg (bV BK111); have NB115_111 := nG hg (bV BK111); replace BK111 := bB (bV BK111) hb; clear hb hbox hg; have hnb42 := NB115_111.out; have hnc42 := NB111_115.out; have hcz43_0 := cz BK115 0 (.int .i64 0); have hcz43_1 := cz BK115 1 (.int .i64 0); have hcz43_2 := cz BK115 2 (.int .i64 0); have hcz43_3 := cz BK115 3 (.int .i64 0); have hcz43_4 := cz BK115 4 (.int .i64 0); have hfz43_0 := fz BK115 0; have hfz43_1 := fz BK115 1; have hfz43_2 := fz BK115 2; have hfz43_3 := fz BK115 3; have hfz43_4 := fz BK115 4) | ((with_reducible refine gate_store (t := 48) (p := 4) rfl ?_); refine store_event (t := 48) (p := 4) (v := ?vo_w44) (w1 := (((((w41.setCell ⟨gb115, 0, none⟩ (.int .i64 ((rd_T48 l0_2 x24_2).f0))).setCell ⟨gb115, 1, none⟩ (.int .i64 ((rd_T48 l0_2 x24_2).f1))).setCell ⟨gb115, 2, none⟩ (.int .i64 ((rd_T48 l0_2 x24_2).f2))).setCell ⟨gb115, 3, none⟩ (.int .i64 ((rd_T48 l0_2 x24_2).f3))).setCell ⟨gb115, 4, none⟩ (.int .i64 ((rd_T48 l0_2 x24_2).f4)))) ?hg ?ho ?hn ?hr ?_; (case ho => rfl); (case hg => rfl); (case hn => rfl); (case hr => first | (go_simp; done) | (go_simp; rfl) | (have hq0_ := (blk_cell BK115.out 0).trans (show _ = some _ from rfl); have hf0_ := blk_frozen BK115.out 0; have hq1_ := (blk_cell BK115.out 1).trans (show _ = some _ from rfl); have hf1_ := blk_frozen BK115.out 1; have hq2_ := (blk_cell BK115.out 2).trans (show _ = some _ from rfl); have hf2_ := blk_frozen BK115.out 2; have hq3_ := (blk_cell BK115.out 3).trans (show _ = some _ from rfl); have hf3_ := blk_frozen BK115.out 3; have hq4_ := (blk_cell BK115.out 4).trans (show _ = some _ from rfl); have hf4_ := blk_frozen BK115.out 4; first | (go_simp; done) | (go_simp; rfl))); intro w44 hw; replace BK111 : Aside0 (w44.heap[gb111]? = some (.cells #[.int .i64 a0_0, .int .i64 a0_1, .slice (some ad114) l0_2.length c0_2] 35 (0, 0))) := ⟨(by rw [hw]; exact (bG NB111_115 BK111))⟩; replace BK115 : Aside0 (w44.heap[gb115]? = some (.cells #[.int .i64 ((rd_T48 l0_2 x24_2).f0), .int .i64 ((rd_T48 l0_2 x24_2).f1), .int .i64 ((rd_T48 l0_2 x24_2).f2), .int .i64 ((rd_T48 l0_2 x24_2).f3), .int .i64 ((rd_T48 l0_2 x24_2).f4)] 48 (0, 0))) := ⟨(by rw [hw]; exact (by refine bU ?_; refine blk_put (cs := #[.int .i64 ((rd_T48 l0_2 x24_2).f0), .int .i64 ((rd_T48 l0_2 x24_2).f1), .int .i64 ((rd_T48 l0_2 x24_2).f2), .int .i64 ((rd_T48 l0_2 x24_2).f3), .int .i64 0]) ?_ 4 _ rfl; refine bU ?_; refine blk_put (cs := #[.int .i64 ((rd_T48 l0_2 x24_2).f0), .int .i64 ((rd_T48 l0_2 x24_2).f1), .int .i64 ((rd_T48 l0_2 x24_2).f2), .int .i64 0, .int .i64 0]) ?_ 3 _ rfl; refine bU ?_; refine blk_put (cs := #[.int .i64 ((rd_T48 l0_2 x24_2).f0), .int .i64 ((rd_T48 l0_2 x24_2).f1), .int .i64 0, .int .i64 0, .int .i64 0]) ?_ 2 _ rfl; refine bU ?_; refine blk_put (cs := #[.int .i64 ((rd_T48 l0_2 x24_2).f0), .int .i64 0, .int .i64 0, .int .i64 0, .int .i64 0]) ?_ 1 _ rfl; refine bU ?_; refine blk_put (cs := #[.int .i64 0, .int .i64 0, .int .i64 0, .int .i64 0, .int .i64 0]) ?_ 0 _ rfl; refine bU ?_; exact BK115.out))⟩; replace HB : Aside0 (Below w.heap.size w w44) := ⟨(by rw [hw]; exact (lV2 GE111 GE115))⟩; clear hw; have hcz45_0 := cz BK115 0 (.int .i64 ((rd_T48 l0_2 x24_2).f0)); have hcz45_1 := cz BK115 1 (.int .i64 ((rd_T48 l0_2 x24_2).f1)); have hcz45_2 := cz BK115 2 (.int .i64 ((rd_T48 l0_2 x24_2).f2)); have hcz45_3 := cz BK115 3 (.int .i64 ((rd_T48 l0_2 x24_2).f3)); have hcz45_4 := cz BK115 4 (.int .i64 ((rd_T48 l0_2 x24_2).f4)); have hfz45_0 := fz BK115 0; have hfz45_1 := fz BK115 1; have hfz45_2 := fz BK115 2; have hfz45_3 := fz BK115 3; have hfz45_4 := fz BK115 4) | ((with_reducible refine gate_callee (f := 36) rfl ?_); refine goesL_ (some 30) rfl rfl Try.func36 (by kernel_rfl) rfl #[.int .i64 ((rd_T48 l0_2 x24_2).f0)] rfl aE ?_; (with_reducible refine (spec_GoodFixed.calls ((rd_T48 l0_2 x24_2).f0) true _ A16.out).mono ?_); rintro e w' ⟨rfl, ⟨nd, rfl⟩⟩; refine ⟨_, rfl, ?_⟩) | (go_at_call 36; (with_reducible refine (spec_GoodFixed.calls ((rd_T48 l0_2 x24_2).f1) true _ A18.out).mono ?_); rintro e w' ⟨rfl, ⟨nd, rfl⟩⟩) | (go_at_call 36; (with_reducible refine (spec_GoodFixed.calls ((rd_T48 l0_2 x24_2).f2) false _ A20.out).mono ?_); rintro e w' ⟨rfl, ⟨nd, rfl⟩⟩))
            go_ret
            exact ⟨eE, lV2 GE111 GE115⟩
          ·replace c19 := Bool.eq_false_iff.mpr c19
           subst c19
           have H1 : (some false) = some r := by rw [if_neg (show ¬ (false = true) by decide)] at H; exact H
           clear H
           have H := H1
           clear H1
           obtain rfl := Option.some.inj H
           have p114 : 0 ≤ (x24_2 : Int) := of_decide_eq_true hE
           have q114 : x24_2 < (l0_2.length : Int) := of_decide_eq_true hE
           obtain ⟨ad114, e114, hx114_0, hx114_1, hx114_2, hx114_3, hx114_4⟩ := at_T48 HR0_2.out x24_2 p114 q114
           cases e114
           replace hx114_0 := (HB.out.cell (World.block_lt_of_cell? w _ hx114_0)).trans hx114_0
           replace hx114_1 := (HB.out.cell (World.block_lt_of_cell? w _ hx114_1)).trans hx114_1
           replace hx114_2 := (HB.out.cell (World.block_lt_of_cell? w _ hx114_2)).trans hx114_2
           replace hx114_3 := (HB.out.cell (World.block_lt_of_cell? w _ hx114_3)).trans hx114_3
           replace hx114_4 := (HB.out.cell (World.block_lt_of_cell? w _ hx114_4)).trans hx114_4
           replace p114 := eq_true p114
           replace q114 := eq_true q114
           go_wp2_with (first | ((with_reducible refine gate_dst (N := 4) rfl ?_); (try (refine gate_guard (by rfl) ?_; dsimp only)); refine box_event rfl (N := 4) rfl (cs := #[.int .i64 0, .int .i64 0, .int .i64 0, .int .i64 0, .int .i64 0]) (t := 48) sE ?_; intro gb115 hg w46 hbox hb; have BK115 := Aside0.mk hbox; have GW115 := gS w hg (lV1 GE111); have GE115 := gS w hg (lV1 GE111); replace HB := bH (lV1 GE111) hb; have NB111_115 := nL hg (bV BK111); have NB115_111 := nG hg (bV BK111); replace BK111 := bB (bV BK111) hb; clear hb hbox hg; have hnb47 := NB115_111.out; have hnc47 := NB111_115.out; have hcz48_0 := cz BK115 0 (.int .i64 0); have hcz48_1 := cz BK115 1 (.int .i64 0); have hcz48_2 := cz BK115 2 (.int .i64 0); have hcz48_3 := cz BK115 3 (.int .i64 0); have hcz48_4 := cz BK115 4 (.int .i64 0); have hfz48_0 := fz BK115 0; have hfz48_1 := fz BK115 1; have hfz48_2 := fz BK115 2; have hfz48_3 := fz BK115 3; have hfz48_4 := fz BK115 4) | ((with_reducible refine gate_store (t := 48) (p := 4) rfl ?_); refine store_event (t := 48) (p := 4) (v := ?vo_w49) (w1 := (((((w46.setCell ⟨gb115, 0, none⟩ (.int .i64 ((rd_T48 l0_2 x24_2).f0))).setCell ⟨gb115, 1, none⟩ (.int .i64 ((rd_T48 l0_2 x24_2).f1))).setCell ⟨gb115, 2, none⟩ (.int .i64 ((rd_T48 l0_2 x24_2).f2))).setCell ⟨gb115, 3, none⟩ (.int .i64 ((rd_T48 l0_2 x24_2).f3))).setCell ⟨gb115, 4, none⟩ (.int .i64 ((rd_T48 l0_2 x24_2).f4)))) ?hg ?ho ?hn ?hr ?_; (case ho => rfl); (case hg => rfl); (case hn => rfl); (case hr => first | (go_simp; done) | (go_simp; rfl) | (have hq0_ := (blk_cell BK115.out 0).trans (show _ = some _ from rfl); have hf0_ := blk_frozen BK115.out 0; have hq1_ := (blk_cell BK115.out 1).trans (show _ = some _ from rfl); have hf1_ := blk_frozen BK115.out 1; have hq2_ := (blk_cell BK115.out 2).trans (show _ = some _ from rfl); have hf2_ := blk_frozen BK115.out 2; have hq3_ := (blk_cell BK115.out 3).trans (show _ = some _ from rfl); have hf3_ := blk_frozen BK115.out 3; have hq4_ := (blk_cell BK115.out 4).trans (show _ = some _ from rfl); have hf4_ := blk_frozen BK115.out 4; first | (go_simp; done) | (go_simp; rfl))); intro w49 hw; replace BK111 : Aside0 (w49.heap[gb111]? = some (.cells #[.int .i64 a0_0, .int .i64 a0_1, .slice (some ad114) l0_2.length c0_2] 35 (0, 0))) := ⟨(by rw [hw]; exact (bG NB111_115 BK111))⟩; replace BK115 : Aside0 (w49.heap[gb115]? = some (.cells #[.int .i64 ((rd_T48 l0_2 x24_2).f0), .int .i64 ((rd_T48 l0_2 x24_2).f1), .int .i64 ((rd_T48 l0_2 x24_2).f2), .int .i64 ((rd_T48 l0_2 x24_2).f3), .int .i64 ((rd_T48 l0_2 x24_2).f4)] 48 (0, 0))) := ⟨(by rw [hw]; exact (by refine bU ?_; refine blk_put (cs := #[.int .i64 ((rd_T48 l0_2 x24_2).f0), .int .i64 ((rd_T48 l0_2 x24_2).f1), .int .i64 ((rd_T48 l0_2 x24_2).f2), .int .i64 ((rd_T48 l0_2 x24_2).f3), .int .i64 0]) ?_ 4 _ rfl; refine bU ?_; refine blk_put (cs := #[.int .i64 ((rd_T48 l0_2 x24_2).f0), .int .i64 ((rd_T48 l0_2 x24_2).f1), .int .i64 ((rd_T48 l0_2 x24_2).f2), .int .i64 0, .int .i64 0]) ?_ 3 _ rfl; refine bU ?_; refine blk_put (cs := #[.int .i64 ((rd_T48 l0_2 x24_2).f0), .int .i64 ((rd_T48 l0_2 x24_2).f1), .int .i64 0, .int .i64 0, .int .i64 0]) ?_ 2 _ rfl; refine bU ?_; refine blk_put (cs := #[.int .i64 ((rd_T48 l0_2 x24_2).f0), .int .i64 0, .int .i64 0, .int .i64 0, .int .i64 0]) ?_ 1 _ rfl; refine bU ?_; refine blk_put (cs := #[.int .i64 0, .int .i64 0, .int .i64 0, .int .i64 0, .int .i64 0]) ?_ 0 _ rfl; refine bU ?_; exact BK115.out))⟩; replace HB : Aside0 (Below w.heap.size w w49) := ⟨(by rw [hw]; exact (lV2 GE111 GE115))⟩; clear hw; have hcz50_0 := cz BK115 0 (.int .i64 ((rd_T48 l0_2 x24_2).f0)); have hcz50_1 := cz BK115 1 (.int .i64 ((rd_T48 l0_2 x24_2).f1)); have hcz50_2 := cz BK115 2 (.int .i64 ((rd_T48 l0_2 x24_2).f2)); have hcz50_3 := cz BK115 3 (.int .i64 ((rd_T48 l0_2 x24_2).f3)); have hcz50_4 := cz BK115 4 (.int .i64 ((rd_T48 l0_2 x24_2).f4)); have hfz50_0 := fz BK115 0; have hfz50_1 := fz BK115 1; have hfz50_2 := fz BK115 2; have hfz50_3 := fz BK115 3; have hfz50_4 := fz BK115 4) | ((with_reducible refine gate_callee (f := 36) rfl ?_); refine goesL_ (some 30) rfl rfl Try.func36 (by kernel_rfl) rfl #[.int .i64 ((rd_T48 l0_2 x24_2).f0)] rfl aE ?_; (with_reducible refine (spec_GoodFixed.calls ((rd_T48 l0_2 x24_2).f0) true _ A16.out).mono ?_); rintro e w' ⟨rfl, ⟨nd, rfl⟩⟩; refine ⟨_, rfl, ?_⟩) | (go_at_call 36; (with_reducible refine (spec_GoodFixed.calls ((rd_T48 l0_2 x24_2).f1) false _ A18.out).mono ?_); rintro e w' ⟨rfl, ⟨nd, rfl⟩⟩))
           go_ret
           exact ⟨eE, lV2 GE111 GE115⟩
         ·replace c17 := Bool.eq_false_iff.mpr c17
          subst c17
          have H1 : (some false) = some r := by rw [if_neg (show ¬ (false = true) by decide)] at H; exact H
          clear H
          have H := H1
          clear H1
          obtain rfl := Option.some.inj H
          have p114 : 0 ≤ (x24_2 : Int) := of_decide_eq_true hE
          have q114 : x24_2 < (l0_2.length : Int) := of_decide_eq_true hE
          obtain ⟨ad114, e114, hx114_0, hx114_1, hx114_2, hx114_3, hx114_4⟩ := at_T48 HR0_2.out x24_2 p114 q114
          cases e114
          replace hx114_0 := (HB.out.cell (World.block_lt_of_cell? w _ hx114_0)).trans hx114_0
          replace hx114_1 := (HB.out.cell (World.block_lt_of_cell? w _ hx114_1)).trans hx114_1
          replace hx114_2 := (HB.out.cell (World.block_lt_of_cell? w _ hx114_2)).trans hx114_2
          replace hx114_3 := (HB.out.cell (World.block_lt_of_cell? w _ hx114_3)).trans hx114_3
          replace hx114_4 := (HB.out.cell (World.block_lt_of_cell? w _ hx114_4)).trans hx114_4
          replace p114 := eq_true p114
          replace q114 := eq_true q114
          go_wp2_with (first | ((with_reducible refine gate_dst (N := 4) rfl ?_); (try (refine gate_guard (by rfl) ?_; dsimp only)); refine box_event rfl (N := 4) rfl (cs := #[.int .i64 0, .int .i64 0, .int .i64 0, .int .i64 0, .int .i64 0]) (t := 48) sE ?_; intro gb115 hg w51 hbox hb; have BK115 := Aside0.mk hbox; have GW115 := gS w hg (lV1 GE111); have GE115 := gS w hg (lV1 GE111); replace HB := bH (lV1 GE111) hb; have NB111_115 := nL hg (bV BK111); have NB115_111 := nG hg (bV BK111); replace BK111 := bB (bV BK111) hb; clear hb hbox hg; have hnb52 := NB115_111.out; have hnc52 := NB111_115.out; have hcz53_0 := cz BK115 0 (.int .i64 0); have hcz53_1 := cz BK115 1 (.int .i64 0); have hcz53_2 := cz BK115 2 (.int .i64 0); have hcz53_3 := cz BK115 3 (.int .i64 0); have hcz53_4 := cz BK115 4 (.int .i64 0); have hfz53_0 := fz BK115 0; have hfz53_1 := fz BK115 1; have hfz53_2 := fz BK115 2; have hfz53_3 := fz BK115 3; have hfz53_4 := fz BK115 4) | ((with_reducible refine gate_store (t := 48) (p := 4) rfl ?_); refine store_event (t := 48) (p := 4) (v := ?vo_w54) (w1 := (((((w51.setCell ⟨gb115, 0, none⟩ (.int .i64 ((rd_T48 l0_2 x24_2).f0))).setCell ⟨gb115, 1, none⟩ (.int .i64 ((rd_T48 l0_2 x24_2).f1))).setCell ⟨gb115, 2, none⟩ (.int .i64 ((rd_T48 l0_2 x24_2).f2))).setCell ⟨gb115, 3, none⟩ (.int .i64 ((rd_T48 l0_2 x24_2).f3))).setCell ⟨gb115, 4, none⟩ (.int .i64 ((rd_T48 l0_2 x24_2).f4)))) ?hg ?ho ?hn ?hr ?_; (case ho => rfl); (case hg => rfl); (case hn => rfl); (case hr => first | (go_simp; done) | (go_simp; rfl) | (have hq0_ := (blk_cell BK115.out 0).trans (show _ = some _ from rfl); have hf0_ := blk_frozen BK115.out 0; have hq1_ := (blk_cell BK115.out 1).trans (show _ = some _ from rfl); have hf1_ := blk_frozen BK115.out 1; have hq2_ := (blk_cell BK115.out 2).trans (show _ = some _ from rfl); have hf2_ := blk_frozen BK115.out 2; have hq3_ := (blk_cell BK115.out 3).trans (show _ = some _ from rfl); have hf3_ := blk_frozen BK115.out 3; have hq4_ := (blk_cell BK115.out 4).trans (show _ = some _ from rfl); have hf4_ := blk_frozen BK115.out 4; first | (go_simp; done) | (go_simp; rfl))); intro w54 hw; replace BK111 : Aside0 (w54.heap[gb111]? = some (.cells #[.int .i64 a0_0, .int .i64 a0_1, .slice (some ad114) l0_2.length c0_2] 35 (0, 0))) := ⟨(by rw [hw]; exact (bG NB111_115 BK111))⟩; replace BK115 : Aside0 (w54.heap[gb115]? = some (.cells #[.int .i64 ((rd_T48 l0_2 x24_2).f0), .int .i64 ((rd_T48 l0_2 x24_2).f1), .int .i64 ((rd_T48 l0_2 x24_2).f2), .int .i64 ((rd_T48 l0_2 x24_2).f3), .int .i64 ((rd_T48 l0_2 x24_2).f4)] 48 (0, 0))) := ⟨(by rw [hw]; exact (by refine bU ?_; refine blk_put (cs := #[.int .i64 ((rd_T48 l0_2 x24_2).f0), .int .i64 ((rd_T48 l0_2 x24_2).f1), .int .i64 ((rd_T48 l0_2 x24_2).f2), .int .i64 ((rd_T48 l0_2 x24_2).f3), .int .i64 0]) ?_ 4 _ rfl; refine bU ?_; refine blk_put (cs := #[.int .i64 ((rd_T48 l0_2 x24_2).f0), .int .i64 ((rd_T48 l0_2 x24_2).f1), .int .i64 ((rd_T48 l0_2 x24_2).f2), .int .i64 0, .int .i64 0]) ?_ 3 _ rfl; refine bU ?_; refine blk_put (cs := #[.int .i64 ((rd_T48 l0_2 x24_2).f0), .int .i64 ((rd_T48 l0_2 x24_2).f1), .int .i64 0, .int .i64 0, .int .i64 0]) ?_ 2 _ rfl; refine bU ?_; refine blk_put (cs := #[.int .i64 ((rd_T48 l0_2 x24_2).f0), .int .i64 0, .int .i64 0, .int .i64 0, .int .i64 0]) ?_ 1 _ rfl; refine bU ?_; refine blk_put (cs := #[.int .i64 0, .int .i64 0, .int .i64 0, .int .i64 0, .int .i64 0]) ?_ 0 _ rfl; refine bU ?_; exact BK115.out))⟩; replace HB : Aside0 (Below w.heap.size w w54) := ⟨(by rw [hw]; exact (lV2 GE111 GE115))⟩; clear hw; have hcz55_0 := cz BK115 0 (.int .i64 ((rd_T48 l0_2 x24_2).f0)); have hcz55_1 := cz BK115 1 (.int .i64 ((rd_T48 l0_2 x24_2).f1)); have hcz55_2 := cz BK115 2 (.int .i64 ((rd_T48 l0_2 x24_2).f2)); have hcz55_3 := cz BK115 3 (.int .i64 ((rd_T48 l0_2 x24_2).f3)); have hcz55_4 := cz BK115 4 (.int .i64 ((rd_T48 l0_2 x24_2).f4)); have hfz55_0 := fz BK115 0; have hfz55_1 := fz BK115 1; have hfz55_2 := fz BK115 2; have hfz55_3 := fz BK115 3; have hfz55_4 := fz BK115 4) | ((with_reducible refine gate_callee (f := 36) rfl ?_); refine goesL_ (some 30) rfl rfl Try.func36 (by kernel_rfl) rfl #[.int .i64 ((rd_T48 l0_2 x24_2).f0)] rfl aE ?_; (with_reducible refine (spec_GoodFixed.calls ((rd_T48 l0_2 x24_2).f0) false _ A16.out).mono ?_); rintro e w' ⟨rfl, ⟨nd, rfl⟩⟩; refine ⟨_, rfl, ?_⟩))
          go_ret
          exact ⟨eE, lV2 GE111 GE115⟩
        ·rw [if_neg c15] at H
         exact absurd H (by simp)
       ·rw [if_neg c14] at H
        exact absurd H (by simp)
      ·rw [if_neg c13] at H
       have c13b0 : decide (x24_2 < (l0_2.length : Int)) = false := decide_eq_false c13
       clear c13
       obtain rfl := Option.some.inj H
       go_wp2
       go_ret
       exact ⟨eE, lV1 GE111⟩
def spec_l1Coin.f (a0 : Int) : Option (Int × Int) := some (Int.tmod (wrap64 ((wrap64 (a0 * 1103515245)) + 12345)) 2147483648, wrap64 (Int.tdiv (Int.tmod (wrap64 ((wrap64 (a0 * 1103515245)) + 12345)) 2147483648) 65536))
set_option maxHeartbeats 8000000 in
set_option maxRecDepth 100000 in
theorem spec_l1Coin.calls (a0 : Int) (r1 : Int) (r2 : Int) (w : World) (h : spec_l1Coin.f a0 = some (r1, r2)) :
  Calls Try.prog 21 #[.int .i64 a0] w fun e w' => e = .returned (.tuple #[.int .i64 r1, .int .i64 r2]) ∧ Drawn0 w w' := by
 have H : (some (Int.tmod (wrap64 ((wrap64 (a0 * 1103515245)) + 12345)) 2147483648, wrap64 (Int.tdiv (Int.tmod (wrap64 ((wrap64 (a0 * 1103515245)) + 12345)) 2147483648) 65536))) = some (r1, r2) := h
 clear h
 simp only [Option.some.injEq, Prod.mk.injEq] at H
 obtain ⟨rfl, rfl⟩ := H
 go_enter Try.func21, Try.ntmps21
 go_wp2
 go_ret2
 exact ⟨by first | rfl | (simp; done) | (simp [*]; done) | exact not_isEmpty _ | exact (not_isEmpty _).symm | exact is_empty _ | exact (is_empty _).symm, by repeat (first | exact Drawn0.refl _ | apply Drawn0.step)⟩
def spec_l1Plus.f (a0_0 : Int) (a0_1 : Int) (a1 : Int) : Option (Int × Int) := if (IntKind.u64.wrap (a0_1 + a1)) < a0_1 then (some (IntKind.u64.wrap (a0_0 + 1), IntKind.u64.wrap (a0_1 + a1))) else (some (a0_0, IntKind.u64.wrap (a0_1 + a1)))
set_option maxHeartbeats 8000000 in
set_option maxRecDepth 100000 in
theorem spec_l1Plus.calls (a0_0 : Int) (a0_1 : Int) (a1 : Int) (r1 : Int) (r2 : Int) (w : World) (h : spec_l1Plus.f a0_0 a0_1 a1 = some (r1, r2)) :
  Calls Try.prog 51 #[.agg #[.int .u64 a0_0, .int .u64 a0_1], .int .u64 a1] w fun e w' => e = .returned (.agg #[.int .u64 r1, .int .u64 r2]) ∧ Below w.heap.size w w' := by
 have hu63 := Try.underlying63
 have HB := Aside0.mk (Below.refl w.heap.size w)
 have H : (if (IntKind.u64.wrap (a0_1 + a1)) < a0_1 then (some (IntKind.u64.wrap (a0_0 + 1), IntKind.u64.wrap (a0_1 + a1))) else (some (a0_0, IntKind.u64.wrap (a0_1 + a1)))) = some (r1, r2) := h
 clear h
 by_cases c3 : (IntKind.u64.wrap (a0_1 + a1)) < a0_1
 ·rw [if_pos c3] at H
  have c3b0 : decide ((IntKind.u64.wrap (a0_1 + a1)) < a0_1) = true := decide_eq_true c3
  clear c3
  simp only [Option.some.injEq, Prod.mk.injEq] at H
  obtain ⟨rfl, rfl⟩ := H
  go_enter Try.func51, Try.ntmps51
  go_wp2_with (first | ((with_reducible refine gate_dst (N := 2) rfl ?_); refine box_event rfl (N := 2) rfl (cs := #[.int .u64 a0_0, .int .u64 a0_1]) (t := 63) sE ?_; intro gb121 hg w4 hbox hb; have BK121 := Aside0.mk hbox; have GW121 := gS w hg (lU); have GE121 := gS w hg (lU); replace HB := bH (lU) hb; clear hb hbox hg) | ((with_reducible refine gate_dst (N := 4) rfl ?_); refine box_event rfl (N := 4) rfl (cs := #[.int .u64 0, .int .u64 0]) (t := 63) sE ?_; intro gb122 hg w5 hbox hb; have BK122 := Aside0.mk hbox; have GW122 := gS w hg (lV1 GE121); have GE122 := gS w hg (lV1 GE121); replace HB := bH (lV1 GE121) hb; have NB121_122 := nL hg (bV BK121); have NB122_121 := nG hg (bV BK121); replace BK121 := bB (bV BK121) hb; clear hb hbox hg; have hnb6 := NB121_122.out; have hnc6 := NB122_121.out; have hcz7_0 := cz BK121 0 (.int .u64 a0_0); have hcz7_1 := cz BK121 1 (.int .u64 a0_1); have hfz7_0 := fz BK121 0; have hfz7_1 := fz BK121 1) | ((with_reducible refine gate_store (t := 61) (p := 17) rfl ?_); refine store_event (t := 61) (p := 17) (v := ?vo_w8) (w1 := (w5.setCell ⟨gb121, 0, none⟩ (.int .u64 (IntKind.u64.wrap (a0_0 + 1))))) ?hg ?ho ?hn ?hr ?_; (case ho => rfl); (case hg => rfl); (case hn => rfl); (case hr => first | (go_simp; done) | (go_simp; rfl) | (have hq0_ := (blk_cell BK121.out 0).trans (show _ = some _ from rfl); have hf0_ := blk_frozen BK121.out 0; first | (go_simp; done) | (go_simp; rfl))); intro w8 hw; replace BK121 : Aside0 (w8.heap[gb121]? = some (.cells #[.int .u64 (IntKind.u64.wrap (a0_0 + 1)), .int .u64 a0_1] 63 (0, 0))) := ⟨(by rw [hw]; exact (by refine bU ?_; refine blk_put (cs := #[.int .u64 a0_0, .int .u64 a0_1]) ?_ 0 _ rfl; refine bU ?_; exact BK121.out))⟩; replace BK122 : Aside0 (w8.heap[gb122]? = some (.cells #[.int .u64 0, .int .u64 0] 63 (0, 0))) := ⟨(by rw [hw]; exact (bG NB122_121 BK122))⟩; replace HB : Aside0 (Below w.heap.size w w8) := ⟨(by rw [hw]; exact (lV2 GE121 GE122))⟩; clear hw; have hcz9_0 := cz BK121 0 (.int .u64 (IntKind.u64.wrap (a0_0 + 1))); have hcz9_1 := cz BK121 1 (.int .u64 a0_1); have hfz9_0 := fz BK121 0; have hfz9_1 := fz BK121 1; have hcz10_0 := cz BK122 0 (.int .u64 0); have hcz10_1 := cz BK122 1 (.int .u64 0); have hfz10_0 := fz BK122 0; have hfz10_1 := fz BK122 1) | ((with_reducible refine gate_store (t := 63) (p := 4) rfl ?_); refine store_event (t := 63) (p := 4) (v := ?vo_w11) (w1 := ((w8.setCell ⟨gb122, 0, none⟩ (.int .u64 (IntKind.u64.wrap (a0_0 + 1)))).setCell ⟨gb122, 1, none⟩ (.int .u64 (IntKind.u64.wrap (a0_1 + a1))))) ?hg ?ho ?hn ?hr ?_; (case ho => rfl); (case hg => rfl); (case hn => rfl); (case hr => first | (go_simp; done) | (go_simp; rfl) | (have hq0_ := (blk_cell BK122.out 0).trans (show _ = some _ from rfl); have hf0_ := blk_frozen BK122.out 0; have hq1_ := (blk_cell BK122.out 1).trans (show _ = some _ from rfl); have hf1_ := blk_frozen BK122.out 1; first | (go_simp; done) | (go_simp; rfl))); intro w11 hw; replace BK121 : Aside0 (w11.heap[gb121]? = some (.cells #[.int .u64 (IntKind.u64.wrap (a0_0 + 1)), .int .u64 a0_1] 63 (0, 0))) := ⟨(by rw [hw]; exact (bG NB121_122 BK121))⟩; replace BK122 : Aside0 (w11.heap[gb122]? = some (.cells #[.int .u64 (IntKind.u64.wrap (a0_0 + 1)), .int .u64 (IntKind.u64.wrap (a0_1 + a1))] 63 (0, 0))) := ⟨(by rw [hw]; exact (by refine bU ?_; refine blk_put (cs := #[.int .u64 (IntKind.u64.wrap (a0_0 + 1)), .int .u64 0]) ?_ 1 _ rfl; refine bU ?_; refine blk_put (cs := #[.int .u64 0, .int .u64 0]) ?_ 0 _ rfl; refine bU ?_; exact BK122.out))⟩; replace HB : Aside0 (Below w.heap.size w w11) := ⟨(by rw [hw]; exact (lV2 GE121 GE122))⟩; clear hw))
  refine bodyPost_ret (results_cell_row rfl _ _ gb122 63 #[.int .u64 (IntKind.u64.wrap (a0_0 + 1)), .int .u64 (IntKind.u64.wrap (a0_1 + a1))] (0, 0) _ rfl (bV BK122) Try.underlying63 rfl (by kernel_rfl)) rfl ?_
  exact ⟨eE, lV2 GE121 GE122⟩
 ·rw [if_neg c3] at H
  have c3b0 : decide ((IntKind.u64.wrap (a0_1 + a1)) < a0_1) = false := decide_eq_false c3
  clear c3
  simp only [Option.some.injEq, Prod.mk.injEq] at H
  obtain ⟨rfl, rfl⟩ := H
  go_enter Try.func51, Try.ntmps51
  go_wp2_with (first | ((with_reducible refine gate_dst (N := 2) rfl ?_); refine box_event rfl (N := 2) rfl (cs := #[.int .u64 a0_0, .int .u64 a0_1]) (t := 63) sE ?_; intro gb121 hg w12 hbox hb; have BK121 := Aside0.mk hbox; have GW121 := gS w hg (lU); have GE121 := gS w hg (lU); replace HB := bH (lU) hb; clear hb hbox hg) | ((with_reducible refine gate_dst (N := 4) rfl ?_); refine box_event rfl (N := 4) rfl (cs := #[.int .u64 0, .int .u64 0]) (t := 63) sE ?_; intro gb122 hg w13 hbox hb; have BK122 := Aside0.mk hbox; have GW122 := gS w hg (lV1 GE121); have GE122 := gS w hg (lV1 GE121); replace HB := bH (lV1 GE121) hb; have NB121_122 := nL hg (bV BK121); have NB122_121 := nG hg (bV BK121); replace BK121 := bB (bV BK121) hb; clear hb hbox hg; have hnb14 := NB121_122.out; have hnc14 := NB122_121.out; have hcz15_0 := cz BK121 0 (.int .u64 a0_0); have hcz15_1 := cz BK121 1 (.int .u64 a0_1); have hfz15_0 := fz BK121 0; have hfz15_1 := fz BK121 1; have hcz16_0 := cz BK122 0 (.int .u64 0); have hcz16_1 := cz BK122 1 (.int .u64 0); have hfz16_0 := fz BK122 0; have hfz16_1 := fz BK122 1) | ((with_reducible refine gate_store (t := 63) (p := 4) rfl ?_); refine store_event (t := 63) (p := 4) (v := ?vo_w17) (w1 := ((w13.setCell ⟨gb122, 0, none⟩ (.int .u64 a0_0)).setCell ⟨gb122, 1, none⟩ (.int .u64 (IntKind.u64.wrap (a0_1 + a1))))) ?hg ?ho ?hn ?hr ?_; (case ho => rfl); (case hg => rfl); (case hn => rfl); (case hr => first | (go_simp; done) | (go_simp; rfl) | (have hq0_ := (blk_cell BK122.out 0).trans (show _ = some _ from rfl); have hf0_ := blk_frozen BK122.out 0; have hq1_ := (blk_cell BK122.out 1).trans (show _ = some _ from rfl); have hf1_ := blk_frozen BK122.out 1; first | (go_simp; done) | (go_simp; rfl))); intro w17 hw; replace BK121 : Aside0 (w17.heap[gb121]? = some (.cells #[.int .u64 a0_0, .int .u64 a0_1] 63 (0, 0))) := ⟨(by rw [hw]; exact (bG NB121_122 BK121))⟩; replace BK122 : Aside0 (w17.heap[gb122]? = some (.cells #[.int .u64 a0_0, .int .u64 (IntKind.u64.wrap (a0_1 + a1))] 63 (0, 0))) := ⟨(by rw [hw]; exact (by refine bU ?_; refine blk_put (cs := #[.int .u64 a0_0, .int .u64 0]) ?_ 1 _ rfl; refine bU ?_; refine blk_put (cs := #[.int .u64 0, .int .u64 0]) ?_ 0 _ rfl; refine bU ?_; exact BK122.out))⟩; replace HB : Aside0 (Below w.heap.size w w17) := ⟨(by rw [hw]; exact (lV2 GE121 GE122))⟩; clear hw))
  refine bodyPost_ret (results_cell_row rfl _ _ gb122 63 #[.int .u64 a0_0, .int .u64 (IntKind.u64.wrap (a0_1 + a1))] (0, 0) _ rfl (bV BK122) Try.underlying63 rfl (by kernel_rfl)) rfl ?_
  exact ⟨eE, lV2 GE121 GE122⟩
def spec_l1Sum.f (a0_0 : Int) (a0_1 : Int) (a1_0 : Int) (a1_1 : Int) : Option (Int × Int) := (spec_l1Plus.f a0_0 a0_1 a1_1).bind fun bt126 => (some (IntKind.u64.wrap (bt126.1 + a1_0), bt126.2))
set_option maxHeartbeats 8000000 in
set_option maxRecDepth 100000 in
theorem spec_l1Sum.calls (a0_0 : Int) (a0_1 : Int) (a1_0 : Int) (a1_1 : Int) (r1 : Int) (r2 : Int) (w : World) (h : spec_l1Sum.f a0_0 a0_1 a1_0 a1_1 = some (r1, r2)) :
  Calls Try.prog 50 #[.agg #[.int .u64 a0_0, .int .u64 a0_1], .agg #[.int .u64 a1_0, .int .u64 a1_1]] w fun e w' => e = .returned (.agg #[.int .u64 r1, .int .u64 r2]) ∧ Below w.heap.size w w' := by
 have hu63 := Try.underlying63
 have HB := Aside0.mk (Below.refl w.heap.size w)
 have H : ((spec_l1Plus.f a0_0 a0_1 a1_1).bind fun bt126 => (some (IntKind.u64.wrap (bt126.1 + a1_0), bt126.2))) = some (r1, r2) := h
 clear h
 replace H := Option.bind_eq_some_iff.mp H
 obtain ⟨⟨t126, t127⟩, A30, H⟩ := H
 replace H : (some (IntKind.u64.wrap (t126 + a1_0), t127)) = some (r1, r2) := H
 have A3 := Aside0.mk A30
 clear A30
 simp only [Option.some.injEq, Prod.mk.injEq] at H
 obtain ⟨rfl, rfl⟩ := H
 go_enter Try.func50, Try.ntmps50
 go_wp2_with (first | ((with_reducible refine gate_dst (N := 2) rfl ?_); refine box_event rfl (N := 2) rfl (cs := #[.int .u64 a0_0, .int .u64 a0_1]) (t := 63) sE ?_; intro gb123 hg w4 hbox hb; have BK123 := Aside0.mk hbox; have GW123 := gS w hg (lU); have GE123 := gS w hg (lU); replace HB := bH (lU) hb; clear hb hbox hg) | ((with_reducible refine gate_dst (N := 3) rfl ?_); refine box_event rfl (N := 3) rfl (cs := #[.int .u64 a1_0, .int .u64 a1_1]) (t := 63) sE ?_; intro gb124 hg w5 hbox hb; have BK124 := Aside0.mk hbox; have GW124 := gS w hg (lV1 GE123); have GE124 := gS w hg (lV1 GE123); replace HB := bH (lV1 GE123) hb; have NB123_124 := nL hg (bV BK123); have NB124_123 := nG hg (bV BK123); replace BK123 := bB (bV BK123) hb; clear hb hbox hg) | ((with_reducible refine gate_dst (N := 4) rfl ?_); refine box_event rfl (N := 4) rfl (cs := #[.int .u64 0, .int .u64 0]) (t := 63) sE ?_; intro gb125 hg w6 hbox hb; have BK125 := Aside0.mk hbox; have GW125 := gS w hg (lV2 GE123 GE124); have GE125 := gS w hg (lV2 GE123 GE124); replace HB := bH (lV2 GE123 GE124) hb; have NB123_125 := nL hg (bV BK123); have NB125_123 := nG hg (bV BK123); replace BK123 := bB (bV BK123) hb; have NB124_125 := nL hg (bV BK124); have NB125_124 := nG hg (bV BK124); replace BK124 := bB (bV BK124) hb; clear hb hbox hg; have hnb7 := NB123_124.out; have hnc7 := NB124_123.out; have hnb8 := NB123_125.out; have hnc8 := NB125_123.out; have hcz9_0 := cz BK123 0 (.int .u64 a0_0); have hcz9_1 := cz BK123 1 (.int .u64 a0_1); have hfz9_0 := fz BK123 0; have hfz9_1 := fz BK123 1; have hnb10 := NB124_125.out; have hnc10 := NB125_124.out; have hcz11_0 := cz BK124 0 (.int .u64 a1_0); have hcz11_1 := cz BK124 1 (.int .u64 a1_1); have hfz11_0 := fz BK124 0; have hfz11_1 := fz BK124 1) | ((with_reducible refine gate_callee (f := 51) rfl ?_); refine goesL_ (some 8) rfl rfl Try.func51 (by kernel_rfl) rfl #[.agg #[.int .u64 a0_0, .int .u64 a0_1], .int .u64 a1_1] rfl aE ?_; (with_reducible refine (spec_l1Plus.calls a0_0 a0_1 a1_1 t126 t127 _ A3.out).mono ?_); rintro e w12 ⟨rfl, hb⟩; refine ⟨_, rfl, ?_⟩; replace BK123 := bB (bV BK123) hb; replace BK124 := bB (bV BK124) hb; replace BK125 := bB (bV BK125) hb; replace HB := bH (lV3 GE123 GE124 GE125) hb; (try clear hb); have hcz13_0 := cz BK123 0 (.int .u64 a0_0); have hcz13_1 := cz BK123 1 (.int .u64 a0_1); have hfz13_0 := fz BK123 0; have hfz13_1 := fz BK123 1) | ((with_reducible refine gate_store (t := 63) (p := 2) rfl ?_); refine store_event (t := 63) (p := 2) (v := ?vo_w14) (w1 := ((w12.setCell ⟨gb123, 0, none⟩ (.int .u64 t126)).setCell ⟨gb123, 1, none⟩ (.int .u64 t127))) ?hg ?ho ?hn ?hr ?_; (case ho => rfl); (case hg => rfl); (case hn => rfl); (case hr => first | (go_simp; done) | (go_simp; rfl) | (have hq0_ := (blk_cell BK123.out 0).trans (show _ = some _ from rfl); have hf0_ := blk_frozen BK123.out 0; have hq1_ := (blk_cell BK123.out 1).trans (show _ = some _ from rfl); have hf1_ := blk_frozen BK123.out 1; first | (go_simp; done) | (go_simp; rfl))); intro w14 hw; replace BK123 : Aside0 (w14.heap[gb123]? = some (.cells #[.int .u64 t126, .int .u64 t127] 63 (0, 0))) := ⟨(by rw [hw]; exact (by refine bU ?_; refine blk_put (cs := #[.int .u64 t126, .int .u64 a0_1]) ?_ 1 _ rfl; refine bU ?_; refine blk_put (cs := #[.int .u64 a0_0, .int .u64 a0_1]) ?_ 0 _ rfl; refine bU ?_; exact BK123.out))⟩; replace BK124 : Aside0 (w14.heap[gb124]? = some (.cells #[.int .u64 a1_0, .int .u64 a1_1] 63 (0, 0))) := ⟨(by rw [hw]; exact (bG NB124_123 BK124))⟩; replace BK125 : Aside0 (w14.heap[gb125]? = some (.cells #[.int .u64 0, .int .u64 0] 63 (0, 0))) := ⟨(by rw [hw]; exact (bG NB125_123 BK125))⟩; replace HB : Aside0 (Below w.heap.size w w14) := ⟨(by rw [hw]; exact (lV3 GE123 GE124 GE125))⟩; clear hw; have hcz15_0 := cz BK123 0 (.int .u64 t126); have hcz15_1 := cz BK123 1 (.int .u64 t127); have hfz15_0 := fz BK123 0; have hfz15_1 := fz BK123 1; have hcz16_0 := cz BK124 0 (.int .u64 a1_0); have hcz16_1 := cz BK124 1 (.int .u64 a1_1); have hfz16_0 := fz BK124 0; have hfz16_1 := fz BK124 1) | ((with_reducible refine gate_store (t := 61) (p := 14) rfl ?_); refine store_event (t := 61) (p := 14) (v := ?vo_w17) (w1 := (w14.setCell ⟨gb123, 0, none⟩ (.int .u64 (IntKind.u64.wrap (t126 + a1_0))))) ?hg ?ho ?hn ?hr ?_; (case ho => rfl); (case hg => rfl); (case hn => rfl); (case hr => first | (go_simp; done) | (go_simp; rfl) | (have hq0_ := (blk_cell BK123.out 0).trans (show _ = some _ from rfl); have hf0_ := blk_frozen BK123.out 0; first | (go_simp; done) | (go_simp; rfl))); intro w17 hw; replace BK123 : Aside0 (w17.heap[gb123]? = some (.cells #[.int .u64 (IntKind.u64.wrap (t126 + a1_0)), .int .u64 t127] 63 (0, 0))) := ⟨(by rw [hw]; exact (by refine bU ?_; refine blk_put (cs := #[.int .u64 t126, .int .u64 t127]) ?_ 0 _ rfl; refine bU ?_; exact BK123.out))⟩; replace BK124 : Aside0 (w17.heap[gb124]? = some (.cells #[.int .u64 a1_0, .int .u64 a1_1] 63 (0, 0))) := ⟨(by rw [hw]; exact (bG NB124_123 BK124))⟩; replace BK125 : Aside0 (w17.heap[gb125]? = some (.cells #[.int .u64 0, .int .u64 0] 63 (0, 0))) := ⟨(by rw [hw]; exact (bG NB125_123 BK125))⟩; replace HB : Aside0 (Below w.heap.size w w17) := ⟨(by rw [hw]; exact (lV3 GE123 GE124 GE125))⟩; clear hw; have hcz18_0 := cz BK123 0 (.int .u64 (IntKind.u64.wrap (t126 + a1_0))); have hcz18_1 := cz BK123 1 (.int .u64 t127); have hfz18_0 := fz BK123 0; have hfz18_1 := fz BK123 1; have hcz19_0 := cz BK125 0 (.int .u64 0); have hcz19_1 := cz BK125 1 (.int .u64 0); have hfz19_0 := fz BK125 0; have hfz19_1 := fz BK125 1) | ((with_reducible refine gate_store (t := 63) (p := 4) rfl ?_); refine store_event (t := 63) (p := 4) (v := ?vo_w20) (w1 := ((w17.setCell ⟨gb125, 0, none⟩ (.int .u64 (IntKind.u64.wrap (t126 + a1_0)))).setCell ⟨gb125, 1, none⟩ (.int .u64 t127))) ?hg ?ho ?hn ?hr ?_; (case ho => rfl); (case hg => rfl); (case hn => rfl); (case hr => first | (go_simp; done) | (go_simp; rfl) | (have hq0_ := (blk_cell BK125.out 0).trans (show _ = some _ from rfl); have hf0_ := blk_frozen BK125.out 0; have hq1_ := (blk_cell BK125.out 1).trans (show _ = some _ from rfl); have hf1_ := blk_frozen BK125.out 1; first | (go_simp; done) | (go_simp; rfl))); intro w20 hw; replace BK123 : Aside0 (w20.heap[gb123]? = some (.cells #[.int .u64 (IntKind.u64.wrap (t126 + a1_0)), .int .u64 t127] 63 (0, 0))) := ⟨(by rw [hw]; exact (bG NB123_125 BK123))⟩; replace BK124 : Aside0 (w20.heap[gb124]? = some (.cells #[.int .u64 a1_0, .int .u64 a1_1] 63 (0, 0))) := ⟨(by rw [hw]; exact (bG NB124_125 BK124))⟩; replace BK125 : Aside0 (w20.heap[gb125]? = some (.cells #[.int .u64 (IntKind.u64.wrap (t126 + a1_0)), .int .u64 t127] 63 (0, 0))) := ⟨(by rw [hw]; exact (by refine bU ?_; refine blk_put (cs := #[.int .u64 (IntKind.u64.wrap (t126 + a1_0)), .int .u64 0]) ?_ 1 _ rfl; refine bU ?_; refine blk_put (cs := #[.int .u64 0, .int .u64 0]) ?_ 0 _ rfl; refine bU ?_; exact BK125.out))⟩; replace HB : Aside0 (Below w.heap.size w w20) := ⟨(by rw [hw]; exact (lV3 GE123 GE124 GE125))⟩; clear hw))
 refine bodyPost_ret (results_cell_row rfl _ _ gb125 63 #[.int .u64 (IntKind.u64.wrap (t126 + a1_0)), .int .u64 t127] (0, 0) _ rfl (bV BK125) Try.underlying63 rfl (by kernel_rfl)) rfl ?_
 exact ⟨eE, lV3 GE123 GE124 GE125⟩
def spec_l1Times.f (a0 : Int) (a1 : Int) : Option (Int × Int) := some (IntKind.u64.wrap ((IntKind.u64.wrap ((IntKind.u64.wrap ((IntKind.u64.wrap (Int.tdiv a0 4294967296)) * (IntKind.u64.wrap (Int.tdiv a1 4294967296)))) + (IntKind.u64.wrap (Int.tdiv (IntKind.u64.wrap ((IntKind.u64.wrap ((IntKind.u64.wrap (Int.tdiv a0 4294967296)) * (Int.tmod a1 4294967296))) + (IntKind.u64.wrap (Int.tdiv (IntKind.u64.wrap ((Int.tmod a0 4294967296) * (Int.tmod a1 4294967296))) 4294967296)))) 4294967296)))) + (IntKind.u64.wrap (Int.tdiv (IntKind.u64.wrap ((IntKind.u64.wrap ((Int.tmod a0 4294967296) * (IntKind.u64.wrap (Int.tdiv a1 4294967296)))) + (Int.tmod (IntKind.u64.wrap ((IntKind.u64.wrap ((IntKind.u64.wrap (Int.tdiv a0 4294967296)) * (Int.tmod a1 4294967296))) + (IntKind.u64.wrap (Int.tdiv (IntKind.u64.wrap ((Int.tmod a0 4294967296) * (Int.tmod a1 4294967296))) 4294967296)))) 4294967296))) 4294967296))), Go.bits .or .u64 (IntKind.u64.wrap ((IntKind.u64.wrap ((IntKind.u64.wrap ((Int.tmod a0 4294967296) * (IntKind.u64.wrap (Int.tdiv a1 4294967296)))) + (Int.tmod (IntKind.u64.wrap ((IntKind.u64.wrap ((IntKind.u64.wrap (Int.tdiv a0 4294967296)) * (Int.tmod a1 4294967296))) + (IntKind.u64.wrap (Int.tdiv (IntKind.u64.wrap ((Int.tmod a0 4294967296) * (Int.tmod a1 4294967296))) 4294967296)))) 4294967296))) * 4294967296)) (Int.tmod (IntKind.u64.wrap ((Int.tmod a0 4294967296) * (Int.tmod a1 4294967296))) 4294967296))
set_option maxHeartbeats 8000000 in
set_option maxRecDepth 100000 in
theorem spec_l1Times.calls (a0 : Int) (a1 : Int) (r1 : Int) (r2 : Int) (w : World) (h : spec_l1Times.f a0 a1 = some (r1, r2)) :
  Calls Try.prog 38 #[.int .u64 a0, .int .u64 a1] w fun e w' => e = .returned (.agg #[.int .u64 r1, .int .u64 r2]) ∧ Below w.heap.size w w' := by
 have hu63 := Try.underlying63
 have HB := Aside0.mk (Below.refl w.heap.size w)
 have H : (some (IntKind.u64.wrap ((IntKind.u64.wrap ((IntKind.u64.wrap ((IntKind.u64.wrap (Int.tdiv a0 4294967296)) * (IntKind.u64.wrap (Int.tdiv a1 4294967296)))) + (IntKind.u64.wrap (Int.tdiv (IntKind.u64.wrap ((IntKind.u64.wrap ((IntKind.u64.wrap (Int.tdiv a0 4294967296)) * (Int.tmod a1 4294967296))) + (IntKind.u64.wrap (Int.tdiv (IntKind.u64.wrap ((Int.tmod a0 4294967296) * (Int.tmod a1 4294967296))) 4294967296)))) 4294967296)))) + (IntKind.u64.wrap (Int.tdiv (IntKind.u64.wrap ((IntKind.u64.wrap ((Int.tmod a0 4294967296) * (IntKind.u64.wrap (Int.tdiv a1 4294967296)))) + (Int.tmod (IntKind.u64.wrap ((IntKind.u64.wrap ((IntKind.u64.wrap (Int.tdiv a0 4294967296)) * (Int.tmod a1 4294967296))) + (IntKind.u64.wrap (Int.tdiv (IntKind.u64.wrap ((Int.tmod a0 4294967296) * (Int.tmod a1 4294967296))) 4294967296)))) 4294967296))) 4294967296))), Go.bits .or .u64 (IntKind.u64.wrap ((IntKind.u64.wrap ((IntKind.u64.wrap ((Int.tmod a0 4294967296) * (IntKind.u64.wrap (Int.tdiv a1 4294967296)))) + (Int.tmod (IntKind.u64.wrap ((IntKind.u64.wrap ((IntKind.u64.wrap (Int.tdiv a0 4294967296)) * (Int.tmod a1 4294967296))) + (IntKind.u64.wrap (Int.tdiv (IntKind.u64.wrap ((Int.tmod a0 4294967296) * (Int.tmod a1 4294967296))) 4294967296)))) 4294967296))) * 4294967296)) (Int.tmod (IntKind.u64.wrap ((Int.tmod a0 4294967296) * (Int.tmod a1 4294967296))) 4294967296))) = some (r1, r2) := h
 clear h
 simp only [Option.some.injEq, Prod.mk.injEq] at H
 obtain ⟨rfl, rfl⟩ := H
 go_enter Try.func38, Try.ntmps38
 go_wp2_with (first | ((with_reducible refine gate_dst (N := 4) rfl ?_); refine box_event rfl (N := 4) rfl (cs := #[.int .u64 0, .int .u64 0]) (t := 63) sE ?_; intro gb128 hg w3 hbox hb; have BK128 := Aside0.mk hbox; have GW128 := gS w hg (lU); have GE128 := gS w hg (lU); replace HB := bH (lU) hb; clear hb hbox hg; have hcz4_0 := cz BK128 0 (.int .u64 0); have hcz4_1 := cz BK128 1 (.int .u64 0); have hfz4_0 := fz BK128 0; have hfz4_1 := fz BK128 1) | ((with_reducible refine gate_store (t := 63) (p := 4) rfl ?_); refine store_event (t := 63) (p := 4) (v := ?vo_w5) (w1 := ((w3.setCell ⟨gb128, 0, none⟩ (.int .u64 (IntKind.u64.wrap ((IntKind.u64.wrap ((IntKind.u64.wrap ((IntKind.u64.wrap (Int.tdiv a0 4294967296)) * (IntKind.u64.wrap (Int.tdiv a1 4294967296)))) + (IntKind.u64.wrap (Int.tdiv (IntKind.u64.wrap ((IntKind.u64.wrap ((IntKind.u64.wrap (Int.tdiv a0 4294967296)) * (Int.tmod a1 4294967296))) + (IntKind.u64.wrap (Int.tdiv (IntKind.u64.wrap ((Int.tmod a0 4294967296) * (Int.tmod a1 4294967296))) 4294967296)))) 4294967296)))) + (IntKind.u64.wrap (Int.tdiv (IntKind.u64.wrap ((IntKind.u64.wrap ((Int.tmod a0 4294967296) * (IntKind.u64.wrap (Int.tdiv a1 4294967296)))) + (Int.tmod (IntKind.u64.wrap ((IntKind.u64.wrap ((IntKind.u64.wrap (Int.tdiv a0 4294967296)) * (Int.tmod a1 4294967296))) + (IntKind.u64.wrap (Int.tdiv (IntKind.u64.wrap ((Int.tmod a0 4294967296) * (Int.tmod a1 4294967296))) 4294967296)))) 4294967296))) 4294967296)))))).setCell ⟨gb128, 1, none⟩ (.int .u64 (Go.bits .or .u64 (IntKind.u64.wrap ((IntKind.u64.wrap ((IntKind.u64.wrap ((Int.tmod a0 4294967296) * (IntKind.u64.wrap (Int.tdiv a1 4294967296)))) + (Int.tmod (IntKind.u64.wrap ((IntKind.u64.wrap ((IntKind.u64.wrap (Int.tdiv a0 4294967296)) * (Int.tmod a1 4294967296))) + (IntKind.u64.wrap (Int.tdiv (IntKind.u64.wrap ((Int.tmod a0 4294967296) * (Int.tmod a1 4294967296))) 4294967296)))) 4294967296))) * 4294967296)) (Int.tmod (IntKind.u64.wrap ((Int.tmod a0 4294967296) * (Int.tmod a1 4294967296))) 4294967296))))) ?hg ?ho ?hn ?hr ?_; (case ho => rfl); (case hg => rfl); (case hn => rfl); (case hr => first | (go_simp; done) | (go_simp; rfl) | (have hq0_ := (blk_cell BK128.out 0).trans (show _ = some _ from rfl); have hf0_ := blk_frozen BK128.out 0; have hq1_ := (blk_cell BK128.out 1).trans (show _ = some _ from rfl); have hf1_ := blk_frozen BK128.out 1; first | (go_simp; done) | (go_simp; rfl))); intro w5 hw; replace BK128 : Aside0 (w5.heap[gb128]? = some (.cells #[.int .u64 (IntKind.u64.wrap ((IntKind.u64.wrap ((IntKind.u64.wrap ((IntKind.u64.wrap (Int.tdiv a0 4294967296)) * (IntKind.u64.wrap (Int.tdiv a1 4294967296)))) + (IntKind.u64.wrap (Int.tdiv (IntKind.u64.wrap ((IntKind.u64.wrap ((IntKind.u64.wrap (Int.tdiv a0 4294967296)) * (Int.tmod a1 4294967296))) + (IntKind.u64.wrap (Int.tdiv (IntKind.u64.wrap ((Int.tmod a0 4294967296) * (Int.tmod a1 4294967296))) 4294967296)))) 4294967296)))) + (IntKind.u64.wrap (Int.tdiv (IntKind.u64.wrap ((IntKind.u64.wrap ((Int.tmod a0 4294967296) * (IntKind.u64.wrap (Int.tdiv a1 4294967296)))) + (Int.tmod (IntKind.u64.wrap ((IntKind.u64.wrap ((IntKind.u64.wrap (Int.tdiv a0 4294967296)) * (Int.tmod a1 4294967296))) + (IntKind.u64.wrap (Int.tdiv (IntKind.u64.wrap ((Int.tmod a0 4294967296) * (Int.tmod a1 4294967296))) 4294967296)))) 4294967296))) 4294967296)))), .int .u64 (Go.bits .or .u64 (IntKind.u64.wrap ((IntKind.u64.wrap ((IntKind.u64.wrap ((Int.tmod a0 4294967296) * (IntKind.u64.wrap (Int.tdiv a1 4294967296)))) + (Int.tmod (IntKind.u64.wrap ((IntKind.u64.wrap ((IntKind.u64.wrap (Int.tdiv a0 4294967296)) * (Int.tmod a1 4294967296))) + (IntKind.u64.wrap (Int.tdiv (IntKind.u64.wrap ((Int.tmod a0 4294967296) * (Int.tmod a1 4294967296))) 4294967296)))) 4294967296))) * 4294967296)) (Int.tmod (IntKind.u64.wrap ((Int.tmod a0 4294967296) * (Int.tmod a1 4294967296))) 4294967296))] 63 (0, 0))) := ⟨(by rw [hw]; exact (by refine bU ?_; refine blk_put (cs := #[.int .u64 (IntKind.u64.wrap ((IntKind.u64.wrap ((IntKind.u64.wrap ((IntKind.u64.wrap (Int.tdiv a0 4294967296)) * (IntKind.u64.wrap (Int.tdiv a1 4294967296)))) + (IntKind.u64.wrap (Int.tdiv (IntKind.u64.wrap ((IntKind.u64.wrap ((IntKind.u64.wrap (Int.tdiv a0 4294967296)) * (Int.tmod a1 4294967296))) + (IntKind.u64.wrap (Int.tdiv (IntKind.u64.wrap ((Int.tmod a0 4294967296) * (Int.tmod a1 4294967296))) 4294967296)))) 4294967296)))) + (IntKind.u64.wrap (Int.tdiv (IntKind.u64.wrap ((IntKind.u64.wrap ((Int.tmod a0 4294967296) * (IntKind.u64.wrap (Int.tdiv a1 4294967296)))) + (Int.tmod (IntKind.u64.wrap ((IntKind.u64.wrap ((IntKind.u64.wrap (Int.tdiv a0 4294967296)) * (Int.tmod a1 4294967296))) + (IntKind.u64.wrap (Int.tdiv (IntKind.u64.wrap ((Int.tmod a0 4294967296) * (Int.tmod a1 4294967296))) 4294967296)))) 4294967296))) 4294967296)))), .int .u64 0]) ?_ 1 _ rfl; refine bU ?_; refine blk_put (cs := #[.int .u64 0, .int .u64 0]) ?_ 0 _ rfl; refine bU ?_; exact BK128.out))⟩; replace HB : Aside0 (Below w.heap.size w w5) := ⟨(by rw [hw]; exact (lV1 GE128))⟩; clear hw))
 refine bodyPost_ret (results_cell_row rfl _ _ gb128 63 #[.int .u64 (IntKind.u64.wrap ((IntKind.u64.wrap ((IntKind.u64.wrap ((IntKind.u64.wrap (Int.tdiv a0 4294967296)) * (IntKind.u64.wrap (Int.tdiv a1 4294967296)))) + (IntKind.u64.wrap (Int.tdiv (IntKind.u64.wrap ((IntKind.u64.wrap ((IntKind.u64.wrap (Int.tdiv a0 4294967296)) * (Int.tmod a1 4294967296))) + (IntKind.u64.wrap (Int.tdiv (IntKind.u64.wrap ((Int.tmod a0 4294967296) * (Int.tmod a1 4294967296))) 4294967296)))) 4294967296)))) + (IntKind.u64.wrap (Int.tdiv (IntKind.u64.wrap ((IntKind.u64.wrap ((Int.tmod a0 4294967296) * (IntKind.u64.wrap (Int.tdiv a1 4294967296)))) + (Int.tmod (IntKind.u64.wrap ((IntKind.u64.wrap ((IntKind.u64.wrap (Int.tdiv a0 4294967296)) * (Int.tmod a1 4294967296))) + (IntKind.u64.wrap (Int.tdiv (IntKind.u64.wrap ((Int.tmod a0 4294967296) * (Int.tmod a1 4294967296))) 4294967296)))) 4294967296))) 4294967296)))), .int .u64 (Go.bits .or .u64 (IntKind.u64.wrap ((IntKind.u64.wrap ((IntKind.u64.wrap ((Int.tmod a0 4294967296) * (IntKind.u64.wrap (Int.tdiv a1 4294967296)))) + (Int.tmod (IntKind.u64.wrap ((IntKind.u64.wrap ((IntKind.u64.wrap (Int.tdiv a0 4294967296)) * (Int.tmod a1 4294967296))) + (IntKind.u64.wrap (Int.tdiv (IntKind.u64.wrap ((Int.tmod a0 4294967296) * (Int.tmod a1 4294967296))) 4294967296)))) 4294967296))) * 4294967296)) (Int.tmod (IntKind.u64.wrap ((Int.tmod a0 4294967296) * (Int.tmod a1 4294967296))) 4294967296))] (0, 0) _ rfl (bV BK128) Try.underlying63 rfl (by kernel_rfl)) rfl ?_
 exact ⟨eE, lV1 GE128⟩
def spec_l1Less.f (a0_0 : Int) (a0_1 : Int) (a1_0 : Int) (a1_1 : Int) : Option (Bool) := if a0_0 < a1_0 then (some true) else (if a0_0 = a1_0 then (some (decide (a0_1 < a1_1))) else (some false))
set_option maxHeartbeats 8000000 in
set_option maxRecDepth 100000 in
theorem spec_l1Less.calls (a0_0 : Int) (a0_1 : Int) (a1_0 : Int) (a1_1 : Int) (r : Bool) (w : World) (h : spec_l1Less.f a0_0 a0_1 a1_0 a1_1 = some r) :
  Calls Try.prog 61 #[.agg #[.int .u64 a0_0, .int .u64 a0_1], .agg #[.int .u64 a1_0, .int .u64 a1_1]] w fun e w' => e = .returned (.bool r) ∧ Below w.heap.size w w' := by
 have hu63 := Try.underlying63
 have HB := Aside0.mk (Below.refl w.heap.size w)
 have H : (if a0_0 < a1_0 then (some true) else (if a0_0 = a1_0 then (some (decide (a0_1 < a1_1))) else (some false))) = some r := h
 clear h
 by_cases c3 : a0_0 < a1_0
 ·rw [if_pos c3] at H
  have c3b0 : decide (a0_0 < a1_0) = true := decide_eq_true c3
  clear c3
  obtain rfl := Option.some.inj H
  go_enter Try.func61, Try.ntmps61
  go_wp2_with (first | ((with_reducible refine gate_dst (N := 2) rfl ?_); refine box_event rfl (N := 2) rfl (cs := #[.int .u64 a0_0, .int .u64 a0_1]) (t := 63) sE ?_; intro gb129 hg w4 hbox hb; have BK129 := Aside0.mk hbox; have GW129 := gS w hg (lU); have GE129 := gS w hg (lU); replace HB := bH (lU) hb; clear hb hbox hg) | ((with_reducible refine gate_dst (N := 3) rfl ?_); refine box_event rfl (N := 3) rfl (cs := #[.int .u64 a1_0, .int .u64 a1_1]) (t := 63) sE ?_; intro gb130 hg w5 hbox hb; have BK130 := Aside0.mk hbox; have GW130 := gS w hg (lV1 GE129); have GE130 := gS w hg (lV1 GE129); replace HB := bH (lV1 GE129) hb; have NB129_130 := nL hg (bV BK129); have NB130_129 := nG hg (bV BK129); replace BK129 := bB (bV BK129) hb; clear hb hbox hg; have hnb6 := NB129_130.out; have hnc6 := NB130_129.out; have hcz7_0 := cz BK129 0 (.int .u64 a0_0); have hcz7_1 := cz BK129 1 (.int .u64 a0_1); have hfz7_0 := fz BK129 0; have hfz7_1 := fz BK129 1; have hcz8_0 := cz BK130 0 (.int .u64 a1_0); have hcz8_1 := cz BK130 1 (.int .u64 a1_1); have hfz8_0 := fz BK130 0; have hfz8_1 := fz BK130 1))
  go_ret
  exact ⟨eE, lV2 GE129 GE130⟩
 ·rw [if_neg c3] at H
  have c3b0 : decide (a0_0 < a1_0) = false := decide_eq_false c3
  clear c3
  by_cases c9 : a0_0 = a1_0
  ·rw [if_pos c9] at H
   have c9b0 : (a0_0 == a1_0) = true := beq_iff_eq.mpr c9
   have c9b1 : (a0_0 != a1_0) = false := bne_eq_false_iff_eq.mpr c9
   clear c9
   obtain rfl := Option.some.inj H
   go_enter Try.func61, Try.ntmps61
   go_wp2_with (first | ((with_reducible refine gate_dst (N := 2) rfl ?_); refine box_event rfl (N := 2) rfl (cs := #[.int .u64 a0_0, .int .u64 a0_1]) (t := 63) sE ?_; intro gb129 hg w10 hbox hb; have BK129 := Aside0.mk hbox; have GW129 := gS w hg (lU); have GE129 := gS w hg (lU); replace HB := bH (lU) hb; clear hb hbox hg) | ((with_reducible refine gate_dst (N := 3) rfl ?_); refine box_event rfl (N := 3) rfl (cs := #[.int .u64 a1_0, .int .u64 a1_1]) (t := 63) sE ?_; intro gb130 hg w11 hbox hb; have BK130 := Aside0.mk hbox; have GW130 := gS w hg (lV1 GE129); have GE130 := gS w hg (lV1 GE129); replace HB := bH (lV1 GE129) hb; have NB129_130 := nL hg (bV BK129); have NB130_129 := nG hg (bV BK129); replace BK129 := bB (bV BK129) hb; clear hb hbox hg; have hnb12 := NB129_130.out; have hnc12 := NB130_129.out; have hcz13_0 := cz BK129 0 (.int .u64 a0_0); have hcz13_1 := cz BK129 1 (.int .u64 a0_1); have hfz13_0 := fz BK129 0; have hfz13_1 := fz BK129 1; have hcz14_0 := cz BK130 0 (.int .u64 a1_0); have hcz14_1 := cz BK130 1 (.int .u64 a1_1); have hfz14_0 := fz BK130 0; have hfz14_1 := fz BK130 1))
   go_ret
   exact ⟨eE, lV2 GE129 GE130⟩
  ·rw [if_neg c9] at H
   have c9b0 : (a0_0 == a1_0) = false := beq_eq_false_iff_ne.mpr c9
   have c9b1 : (a0_0 != a1_0) = true := bne_iff_ne.mpr c9
   obtain rfl := Option.some.inj H
   go_enter Try.func61, Try.ntmps61
   go_wp2_with (first | ((with_reducible refine gate_dst (N := 2) rfl ?_); refine box_event rfl (N := 2) rfl (cs := #[.int .u64 a0_0, .int .u64 a0_1]) (t := 63) sE ?_; intro gb129 hg w15 hbox hb; have BK129 := Aside0.mk hbox; have GW129 := gS w hg (lU); have GE129 := gS w hg (lU); replace HB := bH (lU) hb; clear hb hbox hg) | ((with_reducible refine gate_dst (N := 3) rfl ?_); refine box_event rfl (N := 3) rfl (cs := #[.int .u64 a1_0, .int .u64 a1_1]) (t := 63) sE ?_; intro gb130 hg w16 hbox hb; have BK130 := Aside0.mk hbox; have GW130 := gS w hg (lV1 GE129); have GE130 := gS w hg (lV1 GE129); replace HB := bH (lV1 GE129) hb; have NB129_130 := nL hg (bV BK129); have NB130_129 := nG hg (bV BK129); replace BK129 := bB (bV BK129) hb; clear hb hbox hg; have hnb17 := NB129_130.out; have hnc17 := NB130_129.out; have hcz18_0 := cz BK129 0 (.int .u64 a0_0); have hcz18_1 := cz BK129 1 (.int .u64 a0_1); have hfz18_0 := fz BK129 0; have hfz18_1 := fz BK129 1; have hcz19_0 := cz BK130 0 (.int .u64 a1_0); have hcz19_1 := cz BK130 1 (.int .u64 a1_1); have hfz19_0 := fz BK130 0; have hfz19_1 := fz BK130 1))
   go_ret
   exact ⟨eE, lV2 GE129 GE130⟩
end Go.Proofs.Ythgfobcckoedaaa.PFnExactSparksAt
namespace Go.Proofs.Ythgfobcckoedaaa.PFnExactSparksAt
open Go.RowKit Go.Proofs.YthgfobcckoedaaaW.PrintWords Go.Proofs.YthgfobcckoedaaaW.PrintLast Go.Proofs.YthgfobcckoedaaaW.PrintMore
attribute [local go_sem] max2_int min2_int max_two min_two max_three min_three max_four min_four   -- for this text's walks alone
set_option linter.unusedVariables false
set_option linter.unusedSimpArgs false
def spec_l1Over.l0 : Nat → Int → Int → Int → Int → Int → Option (Int)
 | 0, _, _, _, _, _ => none
 | k + 1, x1, x7, x8, x132000, x132001 => if x7 < x8 then ((spec_l1Times.f (IntKind.u64.wrap (x7 + (IntKind.u64.wrap (Int.tdiv (IntKind.u64.wrap ((IntKind.u64.wrap (x8 - x7)) + 1)) 2)))) x1).bind fun bt132 => ((spec_l1Less.f x132000 x132001 bt132.1 bt132.2).bind fun t134 => (if t134 = true then (spec_l1Over.l0 k x1 x7 (IntKind.u64.wrap ((IntKind.u64.wrap (x7 + (IntKind.u64.wrap (Int.tdiv (IntKind.u64.wrap ((IntKind.u64.wrap (x8 - x7)) + 1)) 2)))) - 1)) x132000 x132001) else (spec_l1Over.l0 k x1 (IntKind.u64.wrap (x7 + (IntKind.u64.wrap (Int.tdiv (IntKind.u64.wrap ((IntKind.u64.wrap (x8 - x7)) + 1)) 2)))) x8 x132000 x132001)))) else (some x7)
def spec_l1Over.f (k : Nat) (a0_0 : Int) (a0_1 : Int) (a1 : Int) (a2 : Int) : Option (Int) := spec_l1Over.l0 k a1 0 a2 a0_0 a0_1
theorem spec_l1Over.mono_l : ∀ k, (∀ y0 y1 y2 y3 y4, LeO (spec_l1Over.l0 k y0 y1 y2 y3 y4) (spec_l1Over.l0 (k + 1) y0 y1 y2 y3 y4))
 | 0 => fun _ _ _ _ _ r h => by simp [spec_l1Over.l0] at h
 | k + 1 => by
  have ih0 := spec_l1Over.mono_l k
  ·intro y0 y1 y2 y3 y4
   unfold spec_l1Over.l0
   repeat' first
   | (with_reducible exact ih0 _ _ _ _ _)
   | (with_reducible exact LeO.refl _)
   | (with_reducible exact LeO.none _)
   | (with_reducible refine LeO.ite ?_ ?_)
   | (with_reducible refine LeO.bind ?_ (fun _ => ?_))
   | exact ih0 _ _ _ _ _
   | exact LeO.none _
   | refine LeO.ite ?_ ?_
   | refine LeO.bind ?_ (fun _ => ?_)
theorem spec_l1Over.mono : ∀ a0 a1 a2 a3 k, LeO (spec_l1Over.f k a0 a1 a2 a3) (spec_l1Over.f (k + 1) a0 a1 a2 a3) := by
 intro a0 a1 a2 a3 k
 have ih0 := spec_l1Over.mono_l k
 unfold spec_l1Over.f
 repeat' first
   | (with_reducible exact ih0 _ _ _ _ _)
   | (with_reducible exact LeO.refl _)
   | (with_reducible exact LeO.none _)
   | (with_reducible refine LeO.ite ?_ ?_)
   | (with_reducible refine LeO.bind ?_ (fun _ => ?_))
   | exact ih0 _ _ _ _ _
   | exact LeO.none _
   | refine LeO.ite ?_ ?_
   | refine LeO.bind ?_ (fun _ => ?_)
set_option maxHeartbeats 8000000 in
set_option maxRecDepth 100000 in
theorem spec_l1Over.calls (k : Nat) (a0_0 : Int) (a0_1 : Int) (a1 : Int) (a2 : Int) (r : Int) (w : World) (h : spec_l1Over.f k a0_0 a0_1 a1 a2 = some r) :
  Calls Try.prog 52 #[.agg #[.int .u64 a0_0, .int .u64 a0_1], .int .u64 a1, .int .u64 a2] w fun e w' => e = .returned (.int .u64 r) ∧ Below w.heap.size w w' := by
 have hu63 := Try.underlying63
 have HB := Aside0.mk (Below.refl w.heap.size w)
 have H : (spec_l1Over.l0 k a1 0 a2 a0_0 a0_1) = some r := h
 clear h
 have H' := Aside0.mk H
 clear H
 go_enter Try.func52, Try.ntmps52
 go_wp2_with (first | ((with_reducible refine gate_dst (N := 3) rfl ?_); refine box_event rfl (N := 3) rfl (cs := #[.int .u64 a0_0, .int .u64 a0_1]) (t := 63) sE ?_; intro gb131 hg w4 hbox hb; have BK131 := Aside0.mk hbox; have GW131 := gS w hg (lU); have GE131 := gS w hg (lU); replace HB := bH (lU) hb; clear hb hbox hg))
 (try simp only [Act.put, List.setIfInBounds_toArray, List.set_cons_zero, List.set_cons_succ])
 go_loopg [7, 8] k (fun kq v7 v8 w' => ∃ (x7_1 : Int) (x8_1 : Int), v7 = .int .u64 x7_1 ∧ v8 = .int .u64 x8_1 ∧ Aside0 (spec_l1Over.l0 kq a1 x7_1 x8_1 a0_0 a0_1 = some r) ∧ Aside0 (kq ≤ k) ∧ Aside0 (w'.heap[gb131]? = some (.cells #[.int .u64 a0_0, .int .u64 a0_1] 63 (0, 0))) ∧ Aside0 (Below w.heap.size w w'))
 case atStart => exact ⟨(0), (a2), tE, tE, H', ⟨Nat.le_refl _⟩, ⟨by refine bU ?_; exact BK131.out⟩, ⟨by repeat (first | (with_reducible first | exact HB.out | apply below_alloc | apply pw_below_drewN | apply below_drew1 | refine below_set ?_ GE131.out) | exact HB.out)⟩⟩
 case round =>
  clear H'
  try clear p2
  obtain ⟨x7_1, x8_1, rfl, rfl, HA, HK1, BK131, HB⟩ := hrel
  cases gk with
  | zero => exact absurd HA.out (by simp [spec_l1Over.l0])
  | succ k1 =>
   have H := HA.out
   clear HA
   simp only [spec_l1Over.l0] at H
   by_cases c5 : x7_1 < x8_1
   ·rw [if_pos c5] at H
    have c5b0 : decide (x7_1 < x8_1) = true := decide_eq_true c5
    clear c5
    replace H := Option.bind_eq_some_iff.mp H
    obtain ⟨⟨t132, t133⟩, A60, H⟩ := H
    replace H : ((spec_l1Less.f a0_0 a0_1 t132 t133).bind fun t134 => (if t134 = true then (spec_l1Over.l0 k1 a1 x7_1 (IntKind.u64.wrap ((IntKind.u64.wrap (x7_1 + (IntKind.u64.wrap (Int.tdiv (IntKind.u64.wrap ((IntKind.u64.wrap (x8_1 - x7_1)) + 1)) 2)))) - 1)) a0_0 a0_1) else (spec_l1Over.l0 k1 a1 (IntKind.u64.wrap (x7_1 + (IntKind.u64.wrap (Int.tdiv (IntKind.u64.wrap ((IntKind.u64.wrap (x8_1 - x7_1)) + 1)) 2)))) x8_1 a0_0 a0_1))) = some r := H
    have A6 := Aside0.mk A60
    clear A60
    replace H := Option.bind_eq_some_iff.mp H
    obtain ⟨t134, A70, H⟩ := H
    replace H : (if t134 = true then (spec_l1Over.l0 k1 a1 x7_1 (IntKind.u64.wrap ((IntKind.u64.wrap (x7_1 + (IntKind.u64.wrap (Int.tdiv (IntKind.u64.wrap ((IntKind.u64.wrap (x8_1 - x7_1)) + 1)) 2)))) - 1)) a0_0 a0_1) else (spec_l1Over.l0 k1 a1 (IntKind.u64.wrap (x7_1 + (IntKind.u64.wrap (Int.tdiv (IntKind.u64.wrap ((IntKind.u64.wrap (x8_1 - x7_1)) + 1)) 2)))) x8_1 a0_0 a0_1)) = some r := H
    have A7 := Aside0.mk A70
    clear A70
    by_cases c8 : t134 = true
    ·subst c8
     have H1 : (spec_l1Over.l0 k1 a1 x7_1 (IntKind.u64.wrap ((IntKind.u64.wrap (x7_1 + (IntKind.u64.wrap (Int.tdiv (IntKind.u64.wrap ((IntKind.u64.wrap (x8_1 - x7_1)) + 1)) 2)))) - 1)) a0_0 a0_1) = some r := by rw [if_pos rfl] at H; exact H
     clear H
     have H := H1
     clear H1
     have H' := Aside0.mk H
     clear H
     try go_wp2
     replace BK131 := Aside0.mk (blk_drew BK131.out)
     replace HB := Aside0.mk (below_drew1 HB.out)
     refine start_ (n := 5) (S := fun w' => w'.cell? ⟨gb131, 0, none⟩ = some (.int .u64 a0_0) ∧ w'.cell? ⟨gb131, 1, none⟩ = some (.int .u64 a0_1)) (ds := []) #[false, false, false, false, false] (by kernel_rfl) rfl rfl ⟨cz BK131 0 _, cz BK131 1 _⟩ (fun hHeld => ?_)
     generalize wr.drew = w9 at BK131 HB hHeld ⊢
     refine pure_ (i := 1) (N := some 22) (v := ?_) (a' := ?_) (bz 5 2) rfl rfl (by kernel_rfl) (fun _ _ _ h => h) (Or.inl ⟨by rfl, ?_⟩) ?_ ?_
     rotate_left
     ·intro w'
      go_simp
      with_reducible rfl
     rotate_left
     ·simp only [Act.put, List.setIfInBounds_toArray, List.set_cons_zero, List.set_cons_succ, i64_w, i32_w]
      rfl
     refine pure_ (i := 2) (N := some 23) (v := ?_) (a' := ?_) (bz 5 6) rfl rfl (by kernel_rfl) (fun _ _ _ h => h) (Or.inl ⟨by rfl, ?_⟩) ?_ ?_
     rotate_left
     ·intro w'
      go_simp
      with_reducible rfl
     rotate_left
     ·simp only [Act.put, List.setIfInBounds_toArray, List.set_cons_zero, List.set_cons_succ, i64_w, i32_w]
      rfl
     refine take_ (i := 0) (N := some 21) (v := ?_) (a' := ?_) (bz 5 7) rfl rfl (by kernel_rfl) (fun _ _ _ h => h) (Or.inl ⟨by rfl, ?_⟩) hHeld ?_ ?_
     rotate_left
     ·rintro w' ⟨s0, s1⟩
      go_simp
      with_reducible rfl
     rotate_left
     ·simp only [Act.put, List.setIfInBounds_toArray, List.set_cons_zero, List.set_cons_succ, i64_w, i32_w]
      rfl
     refine one_ (i := 3) (N := some 24) (bz 5 15) rfl rfl (by kernel_rfl) (by decide) (fun K hK => ?_)
     refine goes_ Try.func38 (by kernel_rfl) rfl #[.int .u64 (IntKind.u64.wrap (x7_1 + (IntKind.u64.wrap (Int.tdiv (IntKind.u64.wrap ((IntKind.u64.wrap (x8_1 - x7_1)) + 1)) 2)))), .int .u64 a1] (by rfl) rfl rfl aE ?_
     with_reducible refine (spec_l1Times.calls (IntKind.u64.wrap (x7_1 + (IntKind.u64.wrap (Int.tdiv (IntKind.u64.wrap ((IntKind.u64.wrap (x8_1 - x7_1)) + 1)) 2)))) a1 t132 t133 _ A6.out).mono ?_
     rintro e w10 ⟨rfl, hb⟩
     refine ⟨_, rfl, ?_⟩
     replace BK131 := bB (bV BK131) hb
     replace HB := bH (lV1 GE131) hb
     (try clear hb)
     (try clear hb2)
     (try clear hk)
     (try clear hi)
     refine hK.out _ _ ⟨cz BK131 0 _, cz BK131 1 _⟩ (fun hHeld => ?_)
     clear hK K
     refine norm_ (a' := ?_) ?_ ?_
     rotate_left
     ·show Act.put _ (some 24) _ = _
      simp only [Act.put, List.setIfInBounds_toArray, List.set_cons_zero, List.set_cons_succ, i64_w, i32_w]
      rfl
     refine one_ (i := 4) (N := some 25) (bz 5 31) rfl rfl (by kernel_rfl) (by decide) (fun K hK => ?_)
     refine goes_ Try.func61 (by kernel_rfl) rfl #[.agg #[.int .u64 a0_0, .int .u64 a0_1], .agg #[.int .u64 t132, .int .u64 t133]] (by rfl) rfl rfl aE ?_
     with_reducible refine (spec_l1Less.calls a0_0 a0_1 t132 t133 true _ A7.out).mono ?_
     rintro e w11 ⟨rfl, hb⟩
     refine ⟨_, rfl, ?_⟩
     replace BK131 := bB (bV BK131) hb
     replace HB := bH (lV1 GE131) hb
     (try clear hb)
     (try clear hb2)
     (try clear hk)
     (try clear hi)
     refine hK.out _ _ ⟨cz BK131 0 _, cz BK131 1 _⟩ (fun hHeld => ?_)
     clear hK K
     refine norm_ (a' := ?_) ?_ ?_
     rotate_left
     ·show Act.put _ (some 25) _ = _
      simp only [Act.put, List.setIfInBounds_toArray, List.set_cons_zero, List.set_cons_succ, i64_w, i32_w]
      rfl
     refine done_ (by kernel_rfl) ?_
     try go_wp2
     go_roundg k1
     case measure => have := HK1.out; omega
     case rel => exact ⟨(x7_1), (IntKind.u64.wrap ((IntKind.u64.wrap (x7_1 + (IntKind.u64.wrap (Int.tdiv (IntKind.u64.wrap ((IntKind.u64.wrap (x8_1 - x7_1)) + 1)) 2)))) - 1)), tE, tE, H', ⟨by have := HK1.out; omega⟩, ⟨by refine bU ?_; exact BK131.out⟩, ⟨by repeat (first | (with_reducible first | exact HB.out | apply below_alloc | apply pw_below_drewN | apply below_drew1 | refine below_set ?_ GE131.out) | exact HB.out)⟩⟩
    ·replace c8 := Bool.eq_false_iff.mpr c8
     subst c8
     have H1 : (spec_l1Over.l0 k1 a1 (IntKind.u64.wrap (x7_1 + (IntKind.u64.wrap (Int.tdiv (IntKind.u64.wrap ((IntKind.u64.wrap (x8_1 - x7_1)) + 1)) 2)))) x8_1 a0_0 a0_1) = some r := by rw [if_neg (show ¬ (false = true) by decide)] at H; exact H
     clear H
     have H := H1
     clear H1
     have H' := Aside0.mk H
     clear H
     try go_wp2
     replace BK131 := Aside0.mk (blk_drew BK131.out)
     replace HB := Aside0.mk (below_drew1 HB.out)
     refine start_ (n := 5) (S := fun w' => w'.cell? ⟨gb131, 0, none⟩ = some (.int .u64 a0_0) ∧ w'.cell? ⟨gb131, 1, none⟩ = some (.int .u64 a0_1)) (ds := []) #[false, false, false, false, false] (by kernel_rfl) rfl rfl ⟨cz BK131 0 _, cz BK131 1 _⟩ (fun hHeld => ?_)
     generalize wr.drew = w12 at BK131 HB hHeld ⊢
     refine pure_ (i := 1) (N := some 22) (v := ?_) (a' := ?_) (bz 5 2) rfl rfl (by kernel_rfl) (fun _ _ _ h => h) (Or.inl ⟨by rfl, ?_⟩) ?_ ?_
     rotate_left
     ·intro w'
      go_simp
      with_reducible rfl
     rotate_left
     ·simp only [Act.put, List.setIfInBounds_toArray, List.set_cons_zero, List.set_cons_succ, i64_w, i32_w]
      rfl
     refine pure_ (i := 2) (N := some 23) (v := ?_) (a' := ?_) (bz 5 6) rfl rfl (by kernel_rfl) (fun _ _ _ h => h) (Or.inl ⟨by rfl, ?_⟩) ?_ ?_
     rotate_left
     ·intro w'
      go_simp
      with_reducible rfl
     rotate_left
     ·simp only [Act.put, List.setIfInBounds_toArray, List.set_cons_zero, List.set_cons_succ, i64_w, i32_w]
      rfl
     refine take_ (i := 0) (N := some 21) (v := ?_) (a' := ?_) (bz 5 7) rfl rfl (by kernel_rfl) (fun _ _ _ h => h) (Or.inl ⟨by rfl, ?_⟩) hHeld ?_ ?_
     rotate_left
     ·rintro w' ⟨s0, s1⟩
      go_simp
      with_reducible rfl
     rotate_left
     ·simp only [Act.put, List.setIfInBounds_toArray, List.set_cons_zero, List.set_cons_succ, i64_w, i32_w]
      rfl
     refine one_ (i := 3) (N := some 24) (bz 5 15) rfl rfl (by kernel_rfl) (by decide) (fun K hK => ?_)
     refine goes_ Try.func38 (by kernel_rfl) rfl #[.int .u64 (IntKind.u64.wrap (x7_1 + (IntKind.u64.wrap (Int.tdiv (IntKind.u64.wrap ((IntKind.u64.wrap (x8_1 - x7_1)) + 1)) 2)))), .int .u64 a1] (by rfl) rfl rfl aE ?_
     with_reducible refine (spec_l1Times.calls (IntKind.u64.wrap (x7_1 + (IntKind.u64.wrap (Int.tdiv (IntKind.u64.wrap ((IntKind.u64.wrap (x8_1 - x7_1)) + 1)) 2)))) a1 t132 t133 _ A6.out).mono ?_
     rintro e w13 ⟨rfl, hb⟩
     refine ⟨_, rfl, ?_⟩
     replace BK131 := bB (bV BK131) hb
     replace HB := bH (lV1 GE131) hb
     (try clear hb)
     (try clear hb2)
     (try clear hk)
     (try clear hi)
     refine hK.out _ _ ⟨cz BK131 0 _, cz BK131 1 _⟩ (fun hHeld => ?_)
     clear hK K
     refine norm_ (a' := ?_) ?_ ?_
     rotate_left
     ·show Act.put _ (some 24) _ = _
      simp only [Act.put, List.setIfInBounds_toArray, List.set_cons_zero, List.set_cons_succ, i64_w, i32_w]
      rfl
     refine one_ (i := 4) (N := some 25) (bz 5 31) rfl rfl (by kernel_rfl) (by decide) (fun K hK => ?_)
     refine goes_ Try.func61 (by kernel_rfl) rfl #[.agg #[.int .u64 a0_0, .int .u64 a0_1], .agg #[.int .u64 t132, .int .u64 t133]] (by rfl) rfl rfl aE ?_
     with_reducible refine (spec_l1Less.calls a0_0 a0_1 t132 t133 false _ A7.out).mono ?_
     rintro e w14 ⟨rfl, hb⟩
     refine ⟨_, rfl, ?_⟩
     replace BK131 := bB (bV BK131) hb
     replace HB := bH (lV1 GE131) hb
     (try clear hb)
     (try clear hb2)
     (try clear hk)
     (try clear hi)
     refine hK.out _ _ ⟨cz BK131 0 _, cz BK131 1 _⟩ (fun hHeld => ?_)
     clear hK K
     refine norm_ (a' := ?_) ?_ ?_
     rotate_left
     ·show Act.put _ (some 25) _ = _
      simp only [Act.put, List.setIfInBounds_toArray, List.set_cons_zero, List.set_cons_succ, i64_w, i32_w]
      rfl
     refine done_ (by kernel_rfl) ?_
     try go_wp2
     go_roundg k1
     case measure => have := HK1.out; omega
     case rel => exact ⟨(IntKind.u64.wrap (x7_1 + (IntKind.u64.wrap (Int.tdiv (IntKind.u64.wrap ((IntKind.u64.wrap (x8_1 - x7_1)) + 1)) 2)))), (x8_1), tE, tE, H', ⟨by have := HK1.out; omega⟩, ⟨by refine bU ?_; exact BK131.out⟩, ⟨by repeat (first | (with_reducible first | exact HB.out | apply below_alloc | apply pw_below_drewN | apply below_drew1 | refine below_set ?_ GE131.out) | exact HB.out)⟩⟩
   ·rw [if_neg c5] at H
    have c5b0 : decide (x7_1 < x8_1) = false := decide_eq_false c5
    clear c5
    obtain rfl := Option.some.inj H
    go_wp2
    go_ret
    exact ⟨eE, lV1 GE131⟩
def spec_l1Cut.f (a0 : Int) : Option (Int) := if a0 > 1099511627776 then (some 1099511627776) else (if a0 < (-1099511627776) then (some (-1099511627776)) else (some a0))
set_option maxHeartbeats 8000000 in
set_option maxRecDepth 100000 in
theorem spec_l1Cut.calls (a0 : Int) (r : Int) (w : World) (h : spec_l1Cut.f a0 = some r) :
  Calls Try.prog 53 #[.int .i64 a0] w fun e w' => e = .returned (.int .i64 r) ∧ Drawn0 w w' := by
 have H : (if a0 > 1099511627776 then (some 1099511627776) else (if a0 < (-1099511627776) then (some (-1099511627776)) else (some a0))) = some r := h
 clear h
 by_cases c2 : a0 > 1099511627776
 ·rw [if_pos c2] at H
  have c2b0 : decide (1099511627776 < a0) = true := decide_eq_true c2
  clear c2
  obtain rfl := Option.some.inj H
  go_enter Try.func53, Try.ntmps53
  go_wp2
  go_ret
  exact ⟨by first | rfl | (simp; done) | (simp [*]; done) | exact not_isEmpty _ | exact (not_isEmpty _).symm | exact is_empty _ | exact (is_empty _).symm, by repeat (first | exact Drawn0.refl _ | apply Drawn0.step)⟩
 ·rw [if_neg c2] at H
  have c2b0 : decide (1099511627776 < a0) = false := decide_eq_false c2
  clear c2
  by_cases c3 : a0 < (-1099511627776)
  ·rw [if_pos c3] at H
   have c3b0 : decide (a0 < (-1099511627776)) = true := decide_eq_true c3
   clear c3
   obtain rfl := Option.some.inj H
   go_enter Try.func53, Try.ntmps53
   go_wp2
   go_ret
   exact ⟨by first | rfl | (simp; done) | (simp [*]; done) | exact not_isEmpty _ | exact (not_isEmpty _).symm | exact is_empty _ | exact (is_empty _).symm, by repeat (first | exact Drawn0.refl _ | apply Drawn0.step)⟩
  ·rw [if_neg c3] at H
   have c3b0 : decide (a0 < (-1099511627776)) = false := decide_eq_false c3
   clear c3
   obtain rfl := Option.some.inj H
   go_enter Try.func53, Try.ntmps53
   go_wp2
   go_ret
   exact ⟨by first | rfl | (simp; done) | (simp [*]; done) | exact not_isEmpty _ | exact (not_isEmpty _).symm | exact is_empty _ | exact (is_empty _).symm, by repeat (first | exact Drawn0.refl _ | apply Drawn0.step)⟩
def spec_l1Near.j0 : Nat → Bool → Int → Int → Int → Option (Int)
 | 0, _, _, _, _ => none
 | k + 1, x0, x2, x139000, x139001 => (spec_l1Over.f k x139000 x139001 (IntKind.u64.wrap (2 * x2)) 4398046511104).bind fun t141 => (if x0 = true then ((spec_l1Cut.f (wrap64 (-(wrap64 (t141))))).bind fun t142 => (some t142)) else ((spec_l1Cut.f (wrap64 (t141))).bind fun t143 => (some t143)))
def spec_l1Near.f (k : Nat) (a0 : Bool) (a1_0 : Int) (a1_1 : Int) (a2 : Int) : Option (Int) := (spec_l1Sum.f a1_0 a1_1 a1_0 a1_1).bind fun bt136 => ((spec_l1Plus.f bt136.1 bt136.2 a2).bind fun bt139 => (if a0 = true then (if bt139.2 = 0 then (spec_l1Near.j0 k true a2 (IntKind.u64.wrap (bt139.1 - 1)) (IntKind.u64.wrap (bt139.2 - 1))) else (spec_l1Near.j0 k true a2 bt139.1 (IntKind.u64.wrap (bt139.2 - 1)))) else (spec_l1Near.j0 k false a2 bt139.1 bt139.2)))
theorem spec_l1Near.mono_l : ∀ k, (∀ y0 y1 y2 y3, LeO (spec_l1Near.j0 k y0 y1 y2 y3) (spec_l1Near.j0 (k + 1) y0 y1 y2 y3))
 | 0 => fun _ _ _ _ r h => by simp [spec_l1Near.j0] at h
 | k + 1 => by
  have ih0 := spec_l1Near.mono_l k
  ·intro y0 y1 y2 y3
   unfold spec_l1Near.j0
   repeat' first
   | (with_reducible exact ih0 _ _ _ _)
   | (with_reducible exact spec_l1Over.mono _ _ _ _ _)
   | (with_reducible exact LeO.refl _)
   | (with_reducible exact LeO.none _)
   | (with_reducible refine LeO.ite ?_ ?_)
   | (with_reducible refine LeO.bind ?_ (fun _ => ?_))
   | exact ih0 _ _ _ _
   | exact spec_l1Over.mono _ _ _ _ _
   | exact LeO.none _
   | refine LeO.ite ?_ ?_
   | refine LeO.bind ?_ (fun _ => ?_)
theorem spec_l1Near.mono : ∀ a0 a1 a2 a3 k, LeO (spec_l1Near.f k a0 a1 a2 a3) (spec_l1Near.f (k + 1) a0 a1 a2 a3) := by
 intro a0 a1 a2 a3 k
 have ih0 := spec_l1Near.mono_l k
 unfold spec_l1Near.f
 repeat' first
   | (with_reducible exact ih0 _ _ _ _)
   | (with_reducible exact spec_l1Over.mono _ _ _ _ _)
   | (with_reducible exact LeO.refl _)
   | (with_reducible exact LeO.none _)
   | (with_reducible refine LeO.ite ?_ ?_)
   | (with_reducible refine LeO.bind ?_ (fun _ => ?_))
   | exact ih0 _ _ _ _
   | exact spec_l1Over.mono _ _ _ _ _
   | exact LeO.none _
   | refine LeO.ite ?_ ?_
   | refine LeO.bind ?_ (fun _ => ?_)
set_option maxHeartbeats 8000000 in
set_option maxRecDepth 100000 in
theorem spec_l1Near.calls (k : Nat) (a0 : Bool) (a1_0 : Int) (a1_1 : Int) (a2 : Int) (r : Int) (w : World) (h : spec_l1Near.f k a0 a1_0 a1_1 a2 = some r) :
  Calls Try.prog 37 #[.bool a0, .agg #[.int .u64 a1_0, .int .u64 a1_1], .int .u64 a2] w fun e w' => e = .returned (.int .i64 r) ∧ Below w.heap.size w w' := by
 have hu63 := Try.underlying63
 have HB := Aside0.mk (Below.refl w.heap.size w)
 have H : ((spec_l1Sum.f a1_0 a1_1 a1_0 a1_1).bind fun bt136 => ((spec_l1Plus.f bt136.1 bt136.2 a2).bind fun bt139 => (if a0 = true then (if bt139.2 = 0 then (spec_l1Near.j0 k true a2 (IntKind.u64.wrap (bt139.1 - 1)) (IntKind.u64.wrap (bt139.2 - 1))) else (spec_l1Near.j0 k true a2 bt139.1 (IntKind.u64.wrap (bt139.2 - 1)))) else (spec_l1Near.j0 k false a2 bt139.1 bt139.2)))) = some r := h
 clear h
 replace H := Option.bind_eq_some_iff.mp H
 obtain ⟨⟨t136, t137⟩, A40, H⟩ := H
 replace H : ((spec_l1Plus.f t136 t137 a2).bind fun bt139 => (if a0 = true then (if bt139.2 = 0 then (spec_l1Near.j0 k true a2 (IntKind.u64.wrap (bt139.1 - 1)) (IntKind.u64.wrap (bt139.2 - 1))) else (spec_l1Near.j0 k true a2 bt139.1 (IntKind.u64.wrap (bt139.2 - 1)))) else (spec_l1Near.j0 k false a2 bt139.1 bt139.2))) = some r := H
 have A4 := Aside0.mk A40
 clear A40
 replace H := Option.bind_eq_some_iff.mp H
 obtain ⟨⟨t139, t140⟩, A50, H⟩ := H
 replace H : (if a0 = true then (if t140 = 0 then (spec_l1Near.j0 k true a2 (IntKind.u64.wrap (t139 - 1)) (IntKind.u64.wrap (t140 - 1))) else (spec_l1Near.j0 k true a2 t139 (IntKind.u64.wrap (t140 - 1)))) else (spec_l1Near.j0 k false a2 t139 t140)) = some r := H
 have A5 := Aside0.mk A50
 clear A50
 have HC6 := Aside0.mk H
 clear H
 go_enter Try.func37, Try.ntmps37
 go_upto_if 15 with (first | ((with_reducible refine gate_dst (N := 4) rfl ?_); refine box_event rfl (N := 4) rfl (cs := #[.int .u64 a1_0, .int .u64 a1_1]) (t := 63) sE ?_; intro gb135 hg w7 hbox hb; have BK135 := Aside0.mk hbox; have GW135 := gS w hg (lU); have GE135 := gS w hg (lU); replace HB := bH (lU) hb; clear hb hbox hg; have hcz8_0 := cz BK135 0 (.int .u64 a1_0); have hcz8_1 := cz BK135 1 (.int .u64 a1_1); have hfz8_0 := fz BK135 0; have hfz8_1 := fz BK135 1) | ((with_reducible refine gate_callee (f := 50) rfl ?_); refine goesL_ (some 11) rfl rfl Try.func50 (by kernel_rfl) rfl #[.agg #[.int .u64 a1_0, .int .u64 a1_1], .agg #[.int .u64 a1_0, .int .u64 a1_1]] rfl aE ?_; (with_reducible refine (spec_l1Sum.calls a1_0 a1_1 a1_0 a1_1 t136 t137 _ A4.out).mono ?_); rintro e w9 ⟨rfl, hb⟩; refine ⟨_, rfl, ?_⟩; replace BK135 := bB (bV BK135) hb; replace HB := bH (lV1 GE135) hb; (try clear hb)) | ((with_reducible refine gate_dst (N := 7) rfl ?_); refine box_event rfl (N := 7) rfl (cs := #[.int .u64 0, .int .u64 0]) (t := 63) sE ?_; intro gb138 hg w10 hbox hb; have BK138 := Aside0.mk hbox; have GW138 := gS w hg (lV1 GE135); have GE138 := gS w hg (lV1 GE135); replace HB := bH (lV1 GE135) hb; have NB135_138 := nL hg (bV BK135); have NB138_135 := nG hg (bV BK135); replace BK135 := bB (bV BK135) hb; clear hb hbox hg; have hnb11 := NB138_135.out; have hnc11 := NB135_138.out; have hcz12_0 := cz BK138 0 (.int .u64 0); have hcz12_1 := cz BK138 1 (.int .u64 0); have hfz12_0 := fz BK138 0; have hfz12_1 := fz BK138 1) | ((with_reducible refine gate_store (t := 63) (p := 7) rfl ?_); refine store_event (t := 63) (p := 7) (v := ?vo_w13) (w1 := ((w10.setCell ⟨gb138, 0, none⟩ (.int .u64 t136)).setCell ⟨gb138, 1, none⟩ (.int .u64 t137))) ?hg ?ho ?hn ?hr ?_; (case ho => rfl); (case hg => rfl); (case hn => rfl); (case hr => first | (go_simp; done) | (go_simp; rfl) | (have hq0_ := (blk_cell BK138.out 0).trans (show _ = some _ from rfl); have hf0_ := blk_frozen BK138.out 0; have hq1_ := (blk_cell BK138.out 1).trans (show _ = some _ from rfl); have hf1_ := blk_frozen BK138.out 1; first | (go_simp; done) | (go_simp; rfl))); intro w13 hw; replace BK135 : Aside0 (w13.heap[gb135]? = some (.cells #[.int .u64 a1_0, .int .u64 a1_1] 63 (0, 0))) := ⟨(by rw [hw]; exact (bG NB135_138 BK135))⟩; replace BK138 : Aside0 (w13.heap[gb138]? = some (.cells #[.int .u64 t136, .int .u64 t137] 63 (0, 0))) := ⟨(by rw [hw]; exact (by refine bU ?_; refine blk_put (cs := #[.int .u64 t136, .int .u64 0]) ?_ 1 _ rfl; refine bU ?_; refine blk_put (cs := #[.int .u64 0, .int .u64 0]) ?_ 0 _ rfl; refine bU ?_; exact BK138.out))⟩; replace HB : Aside0 (Below w.heap.size w w13) := ⟨(by rw [hw]; exact (lV2 GE135 GE138))⟩; clear hw; have hcz14_0 := cz BK138 0 (.int .u64 t136); have hcz14_1 := cz BK138 1 (.int .u64 t137); have hfz14_0 := fz BK138 0; have hfz14_1 := fz BK138 1) | ((with_reducible refine gate_callee (f := 51) rfl ?_); refine goesL_ (some 14) rfl rfl Try.func51 (by kernel_rfl) rfl #[.agg #[.int .u64 t136, .int .u64 t137], .int .u64 a2] rfl aE ?_; (with_reducible refine (spec_l1Plus.calls t136 t137 a2 t139 t140 _ A5.out).mono ?_); rintro e w15 ⟨rfl, hb⟩; refine ⟨_, rfl, ?_⟩; replace BK135 := bB (bV BK135) hb; replace BK138 := bB (bV BK138) hb; replace HB := bH (lV2 GE135 GE138) hb; (try clear hb); have hcz16_0 := cz BK138 0 (.int .u64 t136); have hcz16_1 := cz BK138 1 (.int .u64 t137); have hfz16_0 := fz BK138 0; have hfz16_1 := fz BK138 1) | ((with_reducible refine gate_store (t := 63) (p := 7) rfl ?_); refine store_event (t := 63) (p := 7) (v := ?vo_w17) (w1 := ((w15.setCell ⟨gb138, 0, none⟩ (.int .u64 t139)).setCell ⟨gb138, 1, none⟩ (.int .u64 t140))) ?hg ?ho ?hn ?hr ?_; (case ho => rfl); (case hg => rfl); (case hn => rfl); (case hr => first | (go_simp; done) | (go_simp; rfl) | (have hq0_ := (blk_cell BK138.out 0).trans (show _ = some _ from rfl); have hf0_ := blk_frozen BK138.out 0; have hq1_ := (blk_cell BK138.out 1).trans (show _ = some _ from rfl); have hf1_ := blk_frozen BK138.out 1; first | (go_simp; done) | (go_simp; rfl))); intro w17 hw; replace BK135 : Aside0 (w17.heap[gb135]? = some (.cells #[.int .u64 a1_0, .int .u64 a1_1] 63 (0, 0))) := ⟨(by rw [hw]; exact (bG NB135_138 BK135))⟩; replace BK138 : Aside0 (w17.heap[gb138]? = some (.cells #[.int .u64 t139, .int .u64 t140] 63 (0, 0))) := ⟨(by rw [hw]; exact (by refine bU ?_; refine blk_put (cs := #[.int .u64 t139, .int .u64 t137]) ?_ 1 _ rfl; refine bU ?_; refine blk_put (cs := #[.int .u64 t136, .int .u64 t137]) ?_ 0 _ rfl; refine bU ?_; exact BK138.out))⟩; replace HB : Aside0 (Below w.heap.size w w17) := ⟨(by rw [hw]; exact (lV2 GE135 GE138))⟩; clear hw))
 (try simp only [Act.put, List.setIfInBounds_toArray, List.set_cons_zero, List.set_cons_succ])
 go_cut [] (fun wc => ∃ (kq : Nat) (x139000_5 : Int) (x139001_5 : Int), Aside0 (spec_l1Near.j0 kq a0 a2 x139000_5 x139001_5 = some r) ∧ Aside0 (kq ≤ k) ∧ Aside0 (wc.heap[gb135]? = some (.cells #[.int .u64 a1_0, .int .u64 a1_1] 63 (0, 0))) ∧ Aside0 (wc.heap[gb138]? = some (.cells #[.int .u64 x139000_5, .int .u64 x139001_5] 63 (0, 0))) ∧ Aside0 (Below w.heap.size w wc))
 case first =>
  have H := HC6.out
  clear HC6
  by_cases c18 : a0 = true
  ·subst c18
   have H1 : (if t140 = 0 then (spec_l1Near.j0 k true a2 (IntKind.u64.wrap (t139 - 1)) (IntKind.u64.wrap (t140 - 1))) else (spec_l1Near.j0 k true a2 t139 (IntKind.u64.wrap (t140 - 1)))) = some r := by rw [if_pos rfl] at H; exact H
   clear H
   have H := H1
   clear H1
   by_cases c19 : t140 = 0
   ·rw [if_pos c19] at H
    have c19b0 : (t140 == 0) = true := beq_iff_eq.mpr c19
    have c19b1 : (t140 != 0) = false := bne_eq_false_iff_eq.mpr c19
    clear c19
    (first | rw [c19b0] | (simp only [i64_w, i32_w]; rw [c19b0]) | (rw [c19b2]; simp only [Bool.not_false, Bool.not_true]) | skip)
    have H' := Aside0.mk H
    clear H
    have hnb20 := NB138_135.out
    have hnc20 := NB135_138.out
    have hcz21_0 := cz BK138 0 (.int .u64 t139)
    have hcz21_1 := cz BK138 1 (.int .u64 t140)
    have hfz21_0 := fz BK138 0
    have hfz21_1 := fz BK138 1
    go_wp2_with (first | ((with_reducible refine gate_store (t := 61) (p := 22) rfl ?_); refine store_event (t := 61) (p := 22) (v := ?vo_w22) (w1 := (w17.setCell ⟨gb138, 0, none⟩ (.int .u64 (IntKind.u64.wrap (t139 - 1))))) ?hg ?ho ?hn ?hr ?_; (case ho => rfl); (case hg => rfl); (case hn => rfl); (case hr => first | (go_simp; done) | (go_simp; rfl) | (have hq0_ := (blk_cell BK138.out 0).trans (show _ = some _ from rfl); have hf0_ := blk_frozen BK138.out 0; first | (go_simp; done) | (go_simp; rfl))); intro w22 hw; replace BK135 : Aside0 (w22.heap[gb135]? = some (.cells #[.int .u64 a1_0, .int .u64 a1_1] 63 (0, 0))) := ⟨(by rw [hw]; exact (bG NB135_138 BK135))⟩; replace BK138 : Aside0 (w22.heap[gb138]? = some (.cells #[.int .u64 (IntKind.u64.wrap (t139 - 1)), .int .u64 t140] 63 (0, 0))) := ⟨(by rw [hw]; exact (by refine bU ?_; refine blk_put (cs := #[.int .u64 t139, .int .u64 t140]) ?_ 0 _ rfl; refine bU ?_; exact BK138.out))⟩; replace HB : Aside0 (Below w.heap.size w w22) := ⟨(by rw [hw]; exact (lV2 GE135 GE138))⟩; clear hw; have hcz23_0 := cz BK138 0 (.int .u64 (IntKind.u64.wrap (t139 - 1))); have hcz23_1 := cz BK138 1 (.int .u64 t140); have hfz23_0 := fz BK138 0; have hfz23_1 := fz BK138 1) | ((with_reducible refine gate_store (t := 61) (p := 26) rfl ?_); refine store_event (t := 61) (p := 26) (v := ?vo_w24) (w1 := (w22.setCell ⟨gb138, 1, none⟩ (.int .u64 (IntKind.u64.wrap (t140 - 1))))) ?hg ?ho ?hn ?hr ?_; (case ho => rfl); (case hg => rfl); (case hn => rfl); (case hr => first | (go_simp; done) | (go_simp; rfl) | (have hq0_ := (blk_cell BK138.out 1).trans (show _ = some _ from rfl); have hf0_ := blk_frozen BK138.out 1; first | (go_simp; done) | (go_simp; rfl))); intro w24 hw; replace BK135 : Aside0 (w24.heap[gb135]? = some (.cells #[.int .u64 a1_0, .int .u64 a1_1] 63 (0, 0))) := ⟨(by rw [hw]; exact (bG NB135_138 BK135))⟩; replace BK138 : Aside0 (w24.heap[gb138]? = some (.cells #[.int .u64 (IntKind.u64.wrap (t139 - 1)), .int .u64 (IntKind.u64.wrap (t140 - 1))] 63 (0, 0))) := ⟨(by rw [hw]; exact (by refine bU ?_; refine blk_put (cs := #[.int .u64 (IntKind.u64.wrap (t139 - 1)), .int .u64 t140]) ?_ 1 _ rfl; refine bU ?_; exact BK138.out))⟩; replace HB : Aside0 (Below w.heap.size w w24) := ⟨(by rw [hw]; exact (lV2 GE135 GE138))⟩; clear hw))
    go_meet
    case rel => exact ⟨_, (IntKind.u64.wrap (t139 - 1)), (IntKind.u64.wrap (t140 - 1)), H', ⟨by first | omega | exact Nat.le_refl _⟩, ⟨by refine bU ?_; exact BK135.out⟩, ⟨by refine bU ?_; exact BK138.out⟩, ⟨by repeat (first | (with_reducible first | exact HB.out | apply below_alloc | apply pw_below_drewN | apply below_drew1 | refine below_set ?_ GE135.out | refine below_set ?_ GE138.out) | exact HB.out)⟩⟩
   ·rw [if_neg c19] at H
    have c19b0 : (t140 == 0) = false := beq_eq_false_iff_ne.mpr c19
    have c19b1 : (t140 != 0) = true := bne_iff_ne.mpr c19
    (first | rw [c19b0] | (simp only [i64_w, i32_w]; rw [c19b0]) | (rw [c19b2]; simp only [Bool.not_false, Bool.not_true]) | skip)
    have H' := Aside0.mk H
    clear H
    have hnb25 := NB138_135.out
    have hnc25 := NB135_138.out
    have hcz26_0 := cz BK138 0 (.int .u64 t139)
    have hcz26_1 := cz BK138 1 (.int .u64 t140)
    have hfz26_0 := fz BK138 0
    have hfz26_1 := fz BK138 1
    go_wp2_with (first | ((with_reducible refine gate_store (t := 61) (p := 26) rfl ?_); refine store_event (t := 61) (p := 26) (v := ?vo_w27) (w1 := (w17.setCell ⟨gb138, 1, none⟩ (.int .u64 (IntKind.u64.wrap (t140 - 1))))) ?hg ?ho ?hn ?hr ?_; (case ho => rfl); (case hg => rfl); (case hn => rfl); (case hr => first | (go_simp; done) | (go_simp; rfl) | (have hq0_ := (blk_cell BK138.out 1).trans (show _ = some _ from rfl); have hf0_ := blk_frozen BK138.out 1; first | (go_simp; done) | (go_simp; rfl))); intro w27 hw; replace BK135 : Aside0 (w27.heap[gb135]? = some (.cells #[.int .u64 a1_0, .int .u64 a1_1] 63 (0, 0))) := ⟨(by rw [hw]; exact (bG NB135_138 BK135))⟩; replace BK138 : Aside0 (w27.heap[gb138]? = some (.cells #[.int .u64 t139, .int .u64 (IntKind.u64.wrap (t140 - 1))] 63 (0, 0))) := ⟨(by rw [hw]; exact (by refine bU ?_; refine blk_put (cs := #[.int .u64 t139, .int .u64 t140]) ?_ 1 _ rfl; refine bU ?_; exact BK138.out))⟩; replace HB : Aside0 (Below w.heap.size w w27) := ⟨(by rw [hw]; exact (lV2 GE135 GE138))⟩; clear hw))
    go_meet
    case rel => exact ⟨_, (t139), (IntKind.u64.wrap (t140 - 1)), H', ⟨by first | omega | exact Nat.le_refl _⟩, ⟨by refine bU ?_; exact BK135.out⟩, ⟨by refine bU ?_; exact BK138.out⟩, ⟨by repeat (first | (with_reducible first | exact HB.out | apply below_alloc | apply pw_below_drewN | apply below_drew1 | refine below_set ?_ GE135.out | refine below_set ?_ GE138.out) | exact HB.out)⟩⟩
  ·replace c18 := Bool.eq_false_iff.mpr c18
   subst c18
   have H1 : (spec_l1Near.j0 k false a2 t139 t140) = some r := by rw [if_neg (show ¬ (false = true) by decide)] at H; exact H
   clear H
   have H := H1
   clear H1
   have H' := Aside0.mk H
   clear H
   go_wp2
   go_meet
   case rel => exact ⟨_, (t139), (t140), H', ⟨by first | omega | exact Nat.le_refl _⟩, ⟨by refine bU ?_; exact BK135.out⟩, ⟨by refine bU ?_; exact BK138.out⟩, ⟨by repeat (first | (with_reducible first | exact HB.out | apply below_alloc | apply pw_below_drewN | apply below_drew1 | refine below_set ?_ GE135.out | refine below_set ?_ GE138.out) | exact HB.out)⟩⟩
 case rest =>
  clear HC6
  try clear c1
  try clear q1
  try clear c2
  try clear p2
  try clear c3
  try clear c5
  try clear c11
  try clear c18
  try clear c19
  try clear c19b0
  try clear c19b1
  try clear c19b2
  try clear c20
  try clear c25
  try clear hcz12_0
  try clear hcz12_1
  try clear hcz14_0
  try clear hcz14_1
  try clear hcz16_0
  try clear hcz16_1
  try clear hcz21_0
  try clear hcz21_1
  try clear hcz23_0
  try clear hcz23_1
  try clear hcz26_0
  try clear hcz26_1
  try clear hcz8_0
  try clear hcz8_1
  try clear hfz12_0
  try clear hfz12_1
  try clear hfz14_0
  try clear hfz14_1
  try clear hfz16_0
  try clear hfz16_1
  try clear hfz21_0
  try clear hfz21_1
  try clear hfz23_0
  try clear hfz23_1
  try clear hfz26_0
  try clear hfz26_1
  try clear hfz8_0
  try clear hfz8_1
  obtain ⟨kq, x139000_5, x139001_5, HA, HJ5, BK135, BK138, HB⟩ := hcut
  cases kq with
  | zero => exact absurd HA.out (by simp [spec_l1Near.j0])
  | succ kj5 =>
   have H := HA.out
   clear HA
   simp only [spec_l1Near.j0] at H
   replace H := Option.bind_eq_some_iff.mp H
   obtain ⟨t141, A280, H⟩ := H
   replace H : (if a0 = true then ((spec_l1Cut.f (wrap64 (-(wrap64 (t141))))).bind fun t142 => (some t142)) else ((spec_l1Cut.f (wrap64 (t141))).bind fun t143 => (some t143))) = some r := H
   have A28 := Aside0.mk A280
   clear A280
   by_cases c29 : a0 = true
   ·subst c29
    have H1 : ((spec_l1Cut.f (wrap64 (-(wrap64 (t141))))).bind fun t142 => (some t142)) = some r := by rw [if_pos rfl] at H; exact H
    clear H
    have H := H1
    clear H1
    replace H := Option.bind_eq_some_iff.mp H
    obtain ⟨t142, A300, H⟩ := H
    replace H : (some t142) = some r := H
    have A30 := Aside0.mk A300
    clear A300
    obtain rfl := Option.some.inj H
    have hnb31 := NB138_135.out
    have hnc31 := NB135_138.out
    have hcz32_0 := cz BK138 0 (.int .u64 x139000_5)
    have hcz32_1 := cz BK138 1 (.int .u64 x139001_5)
    have hfz32_0 := fz BK138 0
    have hfz32_1 := fz BK138 1
    go_wp2_with (first | ((with_reducible refine gate_callee (f := 52) rfl ?_); refine goesL_ (some 30) rfl rfl Try.func52 (by kernel_rfl) rfl #[.agg #[.int .u64 x139000_5, .int .u64 x139001_5], .int .u64 (IntKind.u64.wrap (2 * a2)), .int .u64 4398046511104] rfl aE ?_; (with_reducible refine (spec_l1Over.calls kj5 x139000_5 x139001_5 (IntKind.u64.wrap (2 * a2)) 4398046511104 t141 _ A28.out).mono ?_); rintro e w33 ⟨rfl, hb⟩; refine ⟨_, rfl, ?_⟩; replace BK135 := bB (bV BK135) hb; replace BK138 := bB (bV BK138) hb; replace HB := bH (lV2 GE135 GE138) hb; (try clear hb)) | ((with_reducible refine gate_callee (f := 53) rfl ?_); refine goesL_ (some 36) rfl rfl Try.func53 (by kernel_rfl) rfl #[.int .i64 (wrap64 (-(wrap64 (t141))))] rfl aE ?_; (with_reducible refine (spec_l1Cut.calls (wrap64 (-(wrap64 (t141)))) t142 _ A30.out).mono ?_); rintro e w' ⟨rfl, ⟨nd, rfl⟩⟩; refine ⟨_, rfl, ?_⟩))
    go_ret
    exact ⟨eE, lV2 GE135 GE138⟩
   ·replace c29 := Bool.eq_false_iff.mpr c29
    subst c29
    have H1 : ((spec_l1Cut.f (wrap64 (t141))).bind fun t143 => (some t143)) = some r := by rw [if_neg (show ¬ (false = true) by decide)] at H; exact H
    clear H
    have H := H1
    clear H1
    replace H := Option.bind_eq_some_iff.mp H
    obtain ⟨t143, A340, H⟩ := H
    replace H : (some t143) = some r := H
    have A34 := Aside0.mk A340
    clear A340
    obtain rfl := Option.some.inj H
    have hnb35 := NB138_135.out
    have hnc35 := NB135_138.out
    have hcz36_0 := cz BK138 0 (.int .u64 x139000_5)
    have hcz36_1 := cz BK138 1 (.int .u64 x139001_5)
    have hfz36_0 := fz BK138 0
    have hfz36_1 := fz BK138 1
    go_wp2_with (first | ((with_reducible refine gate_callee (f := 52) rfl ?_); refine goesL_ (some 30) rfl rfl Try.func52 (by kernel_rfl) rfl #[.agg #[.int .u64 x139000_5, .int .u64 x139001_5], .int .u64 (IntKind.u64.wrap (2 * a2)), .int .u64 4398046511104] rfl aE ?_; (with_reducible refine (spec_l1Over.calls kj5 x139000_5 x139001_5 (IntKind.u64.wrap (2 * a2)) 4398046511104 t141 _ A28.out).mono ?_); rintro e w37 ⟨rfl, hb⟩; refine ⟨_, rfl, ?_⟩; replace BK135 := bB (bV BK135) hb; replace BK138 := bB (bV BK138) hb; replace HB := bH (lV2 GE135 GE138) hb; (try clear hb)) | ((with_reducible refine gate_callee (f := 53) rfl ?_); refine goesL_ (some 36) rfl rfl Try.func53 (by kernel_rfl) rfl #[.int .i64 (wrap64 (t141))] rfl aE ?_; (with_reducible refine (spec_l1Cut.calls (wrap64 (t141)) t143 _ A34.out).mono ?_); rintro e w' ⟨rfl, ⟨nd, rfl⟩⟩; refine ⟨_, rfl, ?_⟩))
    go_ret
    exact ⟨eE, lV2 GE135 GE138⟩
def spec_l1Abs.f (a0 : Int) : Option (Int) := if a0 < 0 then (some (wrap64 (-a0))) else (some a0)
set_option maxHeartbeats 8000000 in
set_option maxRecDepth 100000 in
theorem spec_l1Abs.calls (a0 : Int) (r : Int) (w : World) (h : spec_l1Abs.f a0 = some r) :
  Calls Try.prog 39 #[.int .i64 a0] w fun e w' => e = .returned (.int .i64 r) ∧ Drawn0 w w' := by
 have H : (if a0 < 0 then (some (wrap64 (-a0))) else (some a0)) = some r := h
 clear h
 by_cases c2 : a0 < 0
 ·rw [if_pos c2] at H
  have c2b0 : decide (a0 < 0) = true := decide_eq_true c2
  clear c2
  obtain rfl := Option.some.inj H
  go_enter Try.func39, Try.ntmps39
  go_wp2
  go_ret
  exact ⟨by first | rfl | (simp; done) | (simp [*]; done) | exact not_isEmpty _ | exact (not_isEmpty _).symm | exact is_empty _ | exact (is_empty _).symm, by repeat (first | exact Drawn0.refl _ | apply Drawn0.step)⟩
 ·rw [if_neg c2] at H
  have c2b0 : decide (a0 < 0) = false := decide_eq_false c2
  clear c2
  obtain rfl := Option.some.inj H
  go_enter Try.func39, Try.ntmps39
  go_wp2
  go_ret
  exact ⟨by first | rfl | (simp; done) | (simp [*]; done) | exact not_isEmpty _ | exact (not_isEmpty _).symm | exact is_empty _ | exact (is_empty _).symm, by repeat (first | exact Drawn0.refl _ | apply Drawn0.step)⟩
def spec_FixMul.j0 : Nat → Int → Int → Bool → Option (Int)
 | 0, _, _, _ => none
 | k + 1, x0, x1, x12 => if x12 = true then (some 0) else ((spec_l1Abs.f x0).bind fun t146 => ((spec_l1Abs.f x1).bind fun t147 => ((spec_l1Times.f (IntKind.u64.wrap (t146)) (IntKind.u64.wrap (t147))).bind fun bt148 => ((spec_l1Near.f k ((decide (x0 < 0)) != (decide (x1 < 0))) bt148.1 bt148.2 65536).bind fun t150 => (some t150)))))
def spec_FixMul.f (k : Nat) (a0 : Int) (a1 : Int) : Option (Int) := (spec_GoodFixed.f a0).bind fun t144 => (if t144 = true then ((spec_GoodFixed.f a1).bind fun t145 => (spec_FixMul.j0 k a0 a1 (!t145))) else (spec_FixMul.j0 k a0 a1 true))
theorem spec_FixMul.mono_l : ∀ k, (∀ y0 y1 y2, LeO (spec_FixMul.j0 k y0 y1 y2) (spec_FixMul.j0 (k + 1) y0 y1 y2))
 | 0 => fun _ _ _ r h => by simp [spec_FixMul.j0] at h
 | k + 1 => by
  have ih0 := spec_FixMul.mono_l k
  ·intro y0 y1 y2
   unfold spec_FixMul.j0
   repeat' first
   | (with_reducible exact ih0 _ _ _)
   | (with_reducible exact spec_l1Near.mono _ _ _ _ _)
   | (with_reducible exact LeO.refl _)
   | (with_reducible exact LeO.none _)
   | (with_reducible refine LeO.ite ?_ ?_)
   | (with_reducible refine LeO.bind ?_ (fun _ => ?_))
   | exact ih0 _ _ _
   | exact spec_l1Near.mono _ _ _ _ _
   | exact LeO.none _
   | refine LeO.ite ?_ ?_
   | refine LeO.bind ?_ (fun _ => ?_)
theorem spec_FixMul.mono : ∀ a0 a1 k, LeO (spec_FixMul.f k a0 a1) (spec_FixMul.f (k + 1) a0 a1) := by
 intro a0 a1 k
 have ih0 := spec_FixMul.mono_l k
 unfold spec_FixMul.f
 repeat' first
   | (with_reducible exact ih0 _ _ _)
   | (with_reducible exact spec_l1Near.mono _ _ _ _ _)
   | (with_reducible exact LeO.refl _)
   | (with_reducible exact LeO.none _)
   | (with_reducible refine LeO.ite ?_ ?_)
   | (with_reducible refine LeO.bind ?_ (fun _ => ?_))
   | exact ih0 _ _ _
   | exact spec_l1Near.mono _ _ _ _ _
   | exact LeO.none _
   | refine LeO.ite ?_ ?_
   | refine LeO.bind ?_ (fun _ => ?_)
set_option maxHeartbeats 8000000 in
set_option maxRecDepth 100000 in
theorem spec_FixMul.calls (k : Nat) (a0 : Int) (a1 : Int) (r : Int) (w : World) (h : spec_FixMul.f k a0 a1 = some r) :
  Calls Try.prog 22 #[.int .i64 a0, .int .i64 a1] w fun e w' => e = .returned (.int .i64 r) ∧ Below w.heap.size w w' := by
 have HB := Aside0.mk (Below.refl w.heap.size w)
 have H : ((spec_GoodFixed.f a0).bind fun t144 => (if t144 = true then ((spec_GoodFixed.f a1).bind fun t145 => (spec_FixMul.j0 k a0 a1 (!t145))) else (spec_FixMul.j0 k a0 a1 true))) = some r := h
 clear h
 have HC3 := Aside0.mk H
 clear H
 go_enter Try.func22, Try.ntmps22
 go_upto_region 1 with (fail)
 go_cut [12] (fun v12 wc => ∃ (kq : Nat) (x12_2 : Bool), v12 = .bool x12_2 ∧ Aside0 (spec_FixMul.j0 kq a0 a1 x12_2 = some r) ∧ Aside0 (kq ≤ k) ∧ Aside0 (Below w.heap.size w wc))
 case first =>
  have H := HC3.out
  clear HC3
  replace H := Option.bind_eq_some_iff.mp H
  obtain ⟨t144, A40, H⟩ := H
  replace H : (if t144 = true then ((spec_GoodFixed.f a1).bind fun t145 => (spec_FixMul.j0 k a0 a1 (!t145))) else (spec_FixMul.j0 k a0 a1 true)) = some r := H
  have A4 := Aside0.mk A40
  clear A40
  by_cases c5 : t144 = true
  ·subst c5
   have H1 : ((spec_GoodFixed.f a1).bind fun t145 => (spec_FixMul.j0 k a0 a1 (!t145))) = some r := by rw [if_pos rfl] at H; exact H
   clear H
   have H := H1
   clear H1
   replace H := Option.bind_eq_some_iff.mp H
   obtain ⟨t145, A60, H⟩ := H
   replace H : (spec_FixMul.j0 k a0 a1 (!t145)) = some r := H
   have A6 := Aside0.mk A60
   clear A60
   have H' := Aside0.mk H
   clear H
   go_wp2_with (first | ((with_reducible refine gate_callee (f := 36) rfl ?_); refine goesL_ (some 6) rfl rfl Try.func36 (by kernel_rfl) rfl #[.int .i64 a0] rfl aE ?_; (with_reducible refine (spec_GoodFixed.calls a0 true _ A4.out).mono ?_); rintro e w' ⟨rfl, ⟨nd, rfl⟩⟩; refine ⟨_, rfl, ?_⟩) | (go_at_call 36; (with_reducible refine (spec_GoodFixed.calls a1 t145 _ A6.out).mono ?_); rintro e w' ⟨rfl, ⟨nd, rfl⟩⟩))
   go_meet
   case rel => exact ⟨_, (!t145), tE, H', ⟨by first | omega | exact Nat.le_refl _⟩, ⟨by repeat (first | (with_reducible first | exact HB.out | apply below_alloc | apply pw_below_drewN | apply below_drew1) | exact HB.out)⟩⟩
  ·replace c5 := Bool.eq_false_iff.mpr c5
   subst c5
   have H1 : (spec_FixMul.j0 k a0 a1 true) = some r := by rw [if_neg (show ¬ (false = true) by decide)] at H; exact H
   clear H
   have H := H1
   clear H1
   have H' := Aside0.mk H
   clear H
   go_wp2_with (first | ((with_reducible refine gate_callee (f := 36) rfl ?_); refine goesL_ (some 6) rfl rfl Try.func36 (by kernel_rfl) rfl #[.int .i64 a0] rfl aE ?_; (with_reducible refine (spec_GoodFixed.calls a0 false _ A4.out).mono ?_); rintro e w' ⟨rfl, ⟨nd, rfl⟩⟩; refine ⟨_, rfl, ?_⟩))
   go_meet
   case rel => exact ⟨_, (true), tE, H', ⟨by first | omega | exact Nat.le_refl _⟩, ⟨by repeat (first | (with_reducible first | exact HB.out | apply below_alloc | apply pw_below_drewN | apply below_drew1) | exact HB.out)⟩⟩
 case rest =>
  clear HC3
  try clear c2
  try clear p2
  try clear c3
  try clear c5
  obtain ⟨kq, x12_2, rfl, HA, HJ2, HB⟩ := hcut
  cases kq with
  | zero => exact absurd HA.out (by simp [spec_FixMul.j0])
  | succ kj2 =>
   have H := HA.out
   clear HA
   simp only [spec_FixMul.j0] at H
   by_cases c7 : x12_2 = true
   ·subst c7
    have H1 : (some 0) = some r := by rw [if_pos rfl] at H; exact H
    clear H
    have H := H1
    clear H1
    obtain rfl := Option.some.inj H
    go_wp2
    go_ret
    exact ⟨eE, lU⟩
   ·replace c7 := Bool.eq_false_iff.mpr c7
    subst c7
    have H1 : ((spec_l1Abs.f a0).bind fun t146 => ((spec_l1Abs.f a1).bind fun t147 => ((spec_l1Times.f (IntKind.u64.wrap (t146)) (IntKind.u64.wrap (t147))).bind fun bt148 => ((spec_l1Near.f kj2 ((decide (a0 < 0)) != (decide (a1 < 0))) bt148.1 bt148.2 65536).bind fun t150 => (some t150))))) = some r := by rw [if_neg (show ¬ (false = true) by decide)] at H; exact H
    clear H
    have H := H1
    clear H1
    replace H := Option.bind_eq_some_iff.mp H
    obtain ⟨t146, A80, H⟩ := H
    replace H : ((spec_l1Abs.f a1).bind fun t147 => ((spec_l1Times.f (IntKind.u64.wrap (t146)) (IntKind.u64.wrap (t147))).bind fun bt148 => ((spec_l1Near.f kj2 ((decide (a0 < 0)) != (decide (a1 < 0))) bt148.1 bt148.2 65536).bind fun t150 => (some t150)))) = some r := H
    have A8 := Aside0.mk A80
    clear A80
    replace H := Option.bind_eq_some_iff.mp H
    obtain ⟨t147, A90, H⟩ := H
    replace H : ((spec_l1Times.f (IntKind.u64.wrap (t146)) (IntKind.u64.wrap (t147))).bind fun bt148 => ((spec_l1Near.f kj2 ((decide (a0 < 0)) != (decide (a1 < 0))) bt148.1 bt148.2 65536).bind fun t150 => (some t150))) = some r := H
    have A9 := Aside0.mk A90
    clear A90
    replace H := Option.bind_eq_some_iff.mp H
    obtain ⟨⟨t148, t149⟩, A100, H⟩ := H
    replace H : ((spec_l1Near.f kj2 ((decide (a0 < 0)) != (decide (a1 < 0))) t148 t149 65536).bind fun t150 => (some t150)) = some r := H
    have A10 := Aside0.mk A100
    clear A100
    replace H := Option.bind_eq_some_iff.mp H
    obtain ⟨t150, A110, H⟩ := H
    replace H : (some t150) = some r := H
    have A11 := Aside0.mk A110
    clear A110
    obtain rfl := Option.some.inj H
    go_wp2_with (first | ((with_reducible refine gate_callee (f := 39) rfl ?_); refine goesL_ (some 19) rfl rfl Try.func39 (by kernel_rfl) rfl #[.int .i64 a0] rfl aE ?_; (with_reducible refine (spec_l1Abs.calls a0 t146 _ A8.out).mono ?_); rintro e w' ⟨rfl, ⟨nd, rfl⟩⟩; refine ⟨_, rfl, ?_⟩) | ((with_reducible refine gate_callee (f := 39) rfl ?_); refine goesL_ (some 22) rfl rfl Try.func39 (by kernel_rfl) rfl #[.int .i64 a1] rfl aE ?_; (with_reducible refine (spec_l1Abs.calls a1 t147 _ A9.out).mono ?_); rintro e w' ⟨rfl, ⟨nd, rfl⟩⟩; refine ⟨_, rfl, ?_⟩) | ((with_reducible refine gate_callee (f := 38) rfl ?_); refine goesL_ (some 24) rfl rfl Try.func38 (by kernel_rfl) rfl #[.int .u64 (IntKind.u64.wrap (t146)), .int .u64 (IntKind.u64.wrap (t147))] rfl aE ?_; (with_reducible refine (spec_l1Times.calls (IntKind.u64.wrap (t146)) (IntKind.u64.wrap (t147)) t148 t149 _ A10.out).mono ?_); rintro e w12 ⟨rfl, hb⟩; refine ⟨_, rfl, ?_⟩; replace HB := bH (lU) hb; (try clear hb)) | ((with_reducible refine gate_callee (f := 37) rfl ?_); refine goesL_ (some 25) rfl rfl Try.func37 (by kernel_rfl) rfl #[.bool ((decide (a0 < 0)) != (decide (a1 < 0))), .agg #[.int .u64 t148, .int .u64 t149], .int .u64 65536] rfl aE ?_; (with_reducible refine (spec_l1Near.calls kj2 ((decide (a0 < 0)) != (decide (a1 < 0))) t148 t149 65536 t150 _ A11.out).mono ?_); rintro e w13 ⟨rfl, hb⟩; refine ⟨_, rfl, ?_⟩; replace HB := bH (lU) hb; (try clear hb)))
    go_ret
    exact ⟨eE, lU⟩
def spec_l1Down.f (a0 : Int) (a1 : Int) : Option (Int) := if a1 = 0 then (none) else (if (Int.tmod a0 a1) = 0 then (some (wrap64 (Int.tdiv a0 a1))) else (if ((decide (a0 < 0)) != (decide (a1 < 0))) = true then (some (wrap64 ((wrap64 (Int.tdiv a0 a1)) - 1))) else (some (wrap64 (Int.tdiv a0 a1)))))
set_option maxHeartbeats 8000000 in
set_option maxRecDepth 100000 in
theorem spec_l1Down.calls (a0 : Int) (a1 : Int) (r : Int) (w : World) (h : spec_l1Down.f a0 a1 = some r) :
  Calls Try.prog 54 #[.int .i64 a0, .int .i64 a1] w fun e w' => e = .returned (.int .i64 r) ∧ Drawn0 w w' := by
 have H : (if a1 = 0 then (none) else (if (Int.tmod a0 a1) = 0 then (some (wrap64 (Int.tdiv a0 a1))) else (if ((decide (a0 < 0)) != (decide (a1 < 0))) = true then (some (wrap64 ((wrap64 (Int.tdiv a0 a1)) - 1))) else (some (wrap64 (Int.tdiv a0 a1)))))) = some r := h
 clear h
 by_cases c3 : a1 = 0
 ·rw [if_pos c3] at H
  exact absurd H (by simp)
 ·rw [if_neg c3] at H
  have c3b0 : (a1 == 0) = false := beq_eq_false_iff_ne.mpr c3
  have c3b1 : (a1 != 0) = true := bne_iff_ne.mpr c3
  by_cases c4 : (Int.tmod a0 a1) = 0
  ·rw [if_pos c4] at H
   have c4b0 : ((Int.tmod a0 a1) == 0) = true := beq_iff_eq.mpr c4
   have c4b1 : ((Int.tmod a0 a1) != 0) = false := bne_eq_false_iff_eq.mpr c4
   clear c4
   obtain rfl := Option.some.inj H
   go_enter Try.func54, Try.ntmps54
   go_wp2
   go_ret
   exact ⟨by first | rfl | (simp; done) | (simp [*]; done) | exact not_isEmpty _ | exact (not_isEmpty _).symm | exact is_empty _ | exact (is_empty _).symm, by repeat (first | exact Drawn0.refl _ | apply Drawn0.step)⟩
  ·rw [if_neg c4] at H
   have c4b0 : ((Int.tmod a0 a1) == 0) = false := beq_eq_false_iff_ne.mpr c4
   have c4b1 : ((Int.tmod a0 a1) != 0) = true := bne_iff_ne.mpr c4
   by_cases c5 : ((decide (a0 < 0)) != (decide (a1 < 0))) = true
   ·rw [if_pos c5] at H
    have c5b0 : ((decide (a0 < 0)) != (decide (a1 < 0))) = true := c5
    (try (have c5b1 : decide ((decide (a0 < 0)) = (decide (a1 < 0))) = false := by simpa using c5))
    (try (have c5b2 : ((decide (a0 < 0)) == (decide (a1 < 0))) = false := by simpa using c5))
    (try (have c5b3 : ¬ ((decide (a0 < 0)) = (decide (a1 < 0))) := by simpa using c5))
    clear c5
    obtain rfl := Option.some.inj H
    go_enter Try.func54, Try.ntmps54
    go_wp2
    go_ret
    exact ⟨by first | rfl | (simp; done) | (simp [*]; done) | exact not_isEmpty _ | exact (not_isEmpty _).symm | exact is_empty _ | exact (is_empty _).symm, by repeat (first | exact Drawn0.refl _ | apply Drawn0.step)⟩
   ·rw [if_neg c5] at H
    have c5b0 : ((decide (a0 < 0)) != (decide (a1 < 0))) = false := by simpa using c5
    (try (have c5b1 : decide ((decide (a0 < 0)) = (decide (a1 < 0))) = true := by simpa using c5))
    (try (have c5b2 : ((decide (a0 < 0)) == (decide (a1 < 0))) = true := by simpa using c5))
    clear c5
    obtain rfl := Option.some.inj H
    go_enter Try.func54, Try.ntmps54
    go_wp2
    go_ret
    exact ⟨by first | rfl | (simp; done) | (simp [*]; done) | exact not_isEmpty _ | exact (not_isEmpty _).symm | exact is_empty _ | exact (is_empty _).symm, by repeat (first | exact Drawn0.refl _ | apply Drawn0.step)⟩
def spec_l1Mod.f (a0 : Int) (a1 : Int) : Option (Int) := (spec_l1Down.f a0 a1).bind fun t151 => (some (wrap64 (a0 - (wrap64 (a1 * t151)))))
set_option maxHeartbeats 8000000 in
set_option maxRecDepth 100000 in
theorem spec_l1Mod.calls (a0 : Int) (a1 : Int) (r : Int) (w : World) (h : spec_l1Mod.f a0 a1 = some r) :
  Calls Try.prog 40 #[.int .i64 a0, .int .i64 a1] w fun e w' => e = .returned (.int .i64 r) ∧ Drawn0 w w' := by
 have H : ((spec_l1Down.f a0 a1).bind fun t151 => (some (wrap64 (a0 - (wrap64 (a1 * t151)))))) = some r := h
 clear h
 replace H := Option.bind_eq_some_iff.mp H
 obtain ⟨t151, A30, H⟩ := H
 replace H : (some (wrap64 (a0 - (wrap64 (a1 * t151))))) = some r := H
 have A3 := Aside0.mk A30
 clear A30
 obtain rfl := Option.some.inj H
 go_enter Try.func40, Try.ntmps40
 go_wp2_with (first | ((with_reducible refine gate_callee (f := 54) rfl ?_); refine goesL_ (some 9) rfl rfl Try.func54 (by kernel_rfl) rfl #[.int .i64 a0, .int .i64 a1] rfl aE ?_; (with_reducible refine (spec_l1Down.calls a0 a1 t151 _ A3.out).mono ?_); rintro e w' ⟨rfl, ⟨nd, rfl⟩⟩; refine ⟨_, rfl, ?_⟩))
 go_ret
 exact ⟨by first | rfl | (simp; done) | (simp [*]; done) | exact not_isEmpty _ | exact (not_isEmpty _).symm | exact is_empty _ | exact (is_empty _).symm, by repeat (first | exact Drawn0.refl _ | apply Drawn0.step)⟩
def spec_l1Table.f  : Option (List Int) := some (([0, 6424, 12785, 19024, 25080, 30893, 36410, 41576, 46341, 50660, 54491, 57798, 60547, 62714, 64277, 65220, 65536] : List Int))
set_option maxHeartbeats 8000000 in
set_option maxRecDepth 100000 in
theorem spec_l1Table.calls  (r : List Int) (w : World) (h : spec_l1Table.f  = some r) :
  Calls Try.prog 41 #[] w fun e w' => ∃ v0_ : Value, e = .returned (v0_) ∧ Kd.R (Kd.int .i64) 3 w' w.heap.size (fun _ => True) v0_ r ∧ Below w.heap.size w w' := by
 have HB := Aside0.mk (Below.refl w.heap.size w)
 have H : (some (([0, 6424, 12785, 19024, 25080, 30893, 36410, 41576, 46341, 50660, 54491, 57798, 60547, 62714, 64277, 65220, 65536] : List Int))) = some r := h
 clear h
 obtain ⟨y152, hy152⟩ : ∃ y_ : List Int, y_ = (([0, 6424, 12785, 19024, 25080, 30893, 36410, 41576, 46341, 50660, 54491, 57798, 60547, 62714, 64277, 65220, 65536] : List Int)) := ⟨_, rfl⟩
 replace H : (some y152) = some r := by first | (rw [hy152]; with_reducible exact H) | (have H2_ := (Option.bind_some _ _).symm.trans H; rw [hy152]; with_reducible exact H2_) | (have H2_ := (Option.bind_some _ _).symm.trans H; with_reducible exact H2_) | with_reducible exact H | (rw [hy152]; exact H) | exact H
 have Ny152 := Aside0.mk hy152
 clear hy152
 obtain rfl := Option.some.inj H
 go_enter Try.func41, Try.ntmps41
 go_wp2_with (first | ((with_reducible refine gate_dst (N := 1) rfl ?_); refine Kd.R_lit (Kd.int .i64) _ 3 ?hg (N := 1) ?hd (xs := ([0, 6424, 12785, 19024, 25080, 30893, 36410, 41576, 46341, 50660, 54491, 57798, 60547, 62714, 64277, 65220, 65536] : List Int)) (inner := [.int .i64 0, .int .i64 6424, .int .i64 12785, .int .i64 19024, .int .i64 25080, .int .i64 30893, .int .i64 36410, .int .i64 41576, .int .i64 46341, .int .i64 50660, .int .i64 54491, .int .i64 57798, .int .i64 60547, .int .i64 62714, .int .i64 64277, .int .i64 65220, .int .i64 65536]) (ok := fun _ => True) (okp := fun _ => True) ?hr ?hp (fun _ hk => hk) trivial (Below.refl _ _) (Nat.le_refl _) (by simp) ?_; (case hd => rfl); (case hg => rfl); (case hr => exact sE); (case hp => exact (Reps.one (show Kd.M (Kd.int .i64) _ _ _ 0 [.int .i64 0] from rfl) (Reps.one (show Kd.M (Kd.int .i64) _ _ _ 6424 [.int .i64 6424] from rfl) (Reps.one (show Kd.M (Kd.int .i64) _ _ _ 12785 [.int .i64 12785] from rfl) (Reps.one (show Kd.M (Kd.int .i64) _ _ _ 19024 [.int .i64 19024] from rfl) (Reps.one (show Kd.M (Kd.int .i64) _ _ _ 25080 [.int .i64 25080] from rfl) (Reps.one (show Kd.M (Kd.int .i64) _ _ _ 30893 [.int .i64 30893] from rfl) (Reps.one (show Kd.M (Kd.int .i64) _ _ _ 36410 [.int .i64 36410] from rfl) (Reps.one (show Kd.M (Kd.int .i64) _ _ _ 41576 [.int .i64 41576] from rfl) (Reps.one (show Kd.M (Kd.int .i64) _ _ _ 46341 [.int .i64 46341] from rfl) (Reps.one (show Kd.M (Kd.int .i64) _ _ _ 50660 [.int .i64 50660] from rfl) (Reps.one (show Kd.M (Kd.int .i64) _ _ _ 54491 [.int .i64 54491] from rfl) (Reps.one (show Kd.M (Kd.int .i64) _ _ _ 57798 [.int .i64 57798] from rfl) (Reps.one (show Kd.M (Kd.int .i64) _ _ _ 60547 [.int .i64 60547] from rfl) (Reps.one (show Kd.M (Kd.int .i64) _ _ _ 62714 [.int .i64 62714] from rfl) (Reps.one (show Kd.M (Kd.int .i64) _ _ _ 64277 [.int .i64 64277] from rfl) (Reps.one (show Kd.M (Kd.int .i64) _ _ _ 65220 [.int .i64 65220] from rfl) (Reps.one (show Kd.M (Kd.int .i64) _ _ _ 65536 [.int .i64 65536] from rfl) (Reps.none _ _))))))))))))))))))); intro v153 w1 ho2 hb hg_ hnew_; clear hg_ hnew_; (first | rw [← Ny152.out] at ho2 | (simp only [Int.reduceToNat] at ho2; rw [← Ny152.out] at ho2)); have HO154 := Aside0.mk (Kd.R_lower ho2 (below_size (lU))); replace HB := bH (lU) hb; clear hb ho2))
 go_ret
 exact ⟨_, eE, by (with_reducible repeat (first | apply Kd.R_alloc | apply Kd.R_drewN | apply Kd.R_drew)); exact HO154.out, lU⟩
end Go.Proofs.Ythgfobcckoedaaa.PFnExactSparksAt
namespace Go.Proofs.Ythgfobcckoedaaa.PFnExactSparksAt
open Go.RowKit Go.Proofs.YthgfobcckoedaaaW.PrintWords Go.Proofs.YthgfobcckoedaaaW.PrintLast Go.Proofs.YthgfobcckoedaaaW.PrintMore
attribute [local go_sem] max2_int min2_int max_two min_two max_three min_three max_four min_four   -- for this text's walks alone
set_option linter.unusedVariables false
set_option linter.unusedSimpArgs false
def spec_SinOf.f : Nat → Int → Option (Int)
 | 0, _ => none
 | k + 1, a0 => (spec_l1Mod.f a0 4096).bind fun t155 => (if t155 ≥ 2048 then ((spec_SinOf.f k (wrap64 (t155 - 2048))).bind fun t156 => (some (wrap64 (-t156)))) else (if t155 > 1024 then ((spec_SinOf.f k (wrap64 (2048 - t155))).bind fun t157 => (some t157)) else (if t155 = 1024 then (some 65536) else ((spec_l1Table.f).bind fun t158 => (if 0 ≤ (wrap64 (Int.tdiv t155 64)) then (if (wrap64 (Int.tdiv t155 64)) < (t158.length : Int) then (if 0 ≤ (wrap64 ((wrap64 (Int.tdiv t155 64)) + 1)) then (if (wrap64 ((wrap64 (Int.tdiv t155 64)) + 1)) < (t158.length : Int) then (some (wrap64 (Int.tdiv (wrap64 ((wrap64 ((wrap64 ((rd t158 (wrap64 (Int.tdiv t155 64))) * (wrap64 (64 - (Int.tmod t155 64))))) + (wrap64 ((rd t158 (wrap64 ((wrap64 (Int.tdiv t155 64)) + 1))) * (Int.tmod t155 64))))) + 32)) 64))) else (none)) else (none)) else (none)) else (none))))))
theorem spec_SinOf.mono_l : ∀ k, (∀ y0, LeO (spec_SinOf.f k y0) (spec_SinOf.f (k + 1) y0))
 | 0 => fun _ r h => by simp [spec_SinOf.f] at h
 | k + 1 => by
  have ih0 := spec_SinOf.mono_l k
  ·intro y0
   unfold spec_SinOf.f
   repeat' first
   | (with_reducible exact ih0 _)
   | (with_reducible exact LeO.refl _)
   | (with_reducible exact LeO.none _)
   | (with_reducible refine LeO.ite ?_ ?_)
   | (with_reducible refine LeO.bind ?_ (fun _ => ?_))
   | exact ih0 _
   | exact LeO.none _
   | refine LeO.ite ?_ ?_
   | refine LeO.bind ?_ (fun _ => ?_)
theorem spec_SinOf.mono : ∀ a0 k, LeO (spec_SinOf.f k a0) (spec_SinOf.f (k + 1) a0) := by
 intro a0 k
 have ih0 := spec_SinOf.mono_l k
 exact ih0 a0
set_option maxHeartbeats 8000000 in
set_option maxRecDepth 100000 in
theorem spec_SinOf.calls (k : Nat) : ∀ (a0 : Int) (r : Int) (w : World) (h : spec_SinOf.f k a0 = some r),
  Calls Try.prog 24 #[.int .i64 a0] w fun e w' => e = .returned (.int .i64 r) ∧ Below w.heap.size w w' := by
 induction k using Nat.strongRecOn with
 | _ k ih =>
 intro a0 r w h
 cases k with
 | zero => exact absurd h (by simp [spec_SinOf.f])
 | succ k =>
 simp only [spec_SinOf.f] at h
 have HB := Aside0.mk (Below.refl w.heap.size w)
 have H : ((spec_l1Mod.f a0 4096).bind fun t155 => (if t155 ≥ 2048 then ((spec_SinOf.f k (wrap64 (t155 - 2048))).bind fun t156 => (some (wrap64 (-t156)))) else (if t155 > 1024 then ((spec_SinOf.f k (wrap64 (2048 - t155))).bind fun t157 => (some t157)) else (if t155 = 1024 then (some 65536) else ((spec_l1Table.f).bind fun t158 => (if 0 ≤ (wrap64 (Int.tdiv t155 64)) then (if (wrap64 (Int.tdiv t155 64)) < (t158.length : Int) then (if 0 ≤ (wrap64 ((wrap64 (Int.tdiv t155 64)) + 1)) then (if (wrap64 ((wrap64 (Int.tdiv t155 64)) + 1)) < (t158.length : Int) then (some (wrap64 (Int.tdiv (wrap64 ((wrap64 ((wrap64 ((rd t158 (wrap64 (Int.tdiv t155 64))) * (wrap64 (64 - (Int.tmod t155 64))))) + (wrap64 ((rd t158 (wrap64 ((wrap64 (Int.tdiv t155 64)) + 1))) * (Int.tmod t155 64))))) + 32)) 64))) else (none)) else (none)) else (none)) else (none))))))) = some r := h
 clear h
 replace H := Option.bind_eq_some_iff.mp H
 obtain ⟨t155, A20, H⟩ := H
 replace H : (if t155 ≥ 2048 then ((spec_SinOf.f k (wrap64 (t155 - 2048))).bind fun t156 => (some (wrap64 (-t156)))) else (if t155 > 1024 then ((spec_SinOf.f k (wrap64 (2048 - t155))).bind fun t157 => (some t157)) else (if t155 = 1024 then (some 65536) else ((spec_l1Table.f).bind fun t158 => (if 0 ≤ (wrap64 (Int.tdiv t155 64)) then (if (wrap64 (Int.tdiv t155 64)) < (t158.length : Int) then (if 0 ≤ (wrap64 ((wrap64 (Int.tdiv t155 64)) + 1)) then (if (wrap64 ((wrap64 (Int.tdiv t155 64)) + 1)) < (t158.length : Int) then (some (wrap64 (Int.tdiv (wrap64 ((wrap64 ((wrap64 ((rd t158 (wrap64 (Int.tdiv t155 64))) * (wrap64 (64 - (Int.tmod t155 64))))) + (wrap64 ((rd t158 (wrap64 ((wrap64 (Int.tdiv t155 64)) + 1))) * (Int.tmod t155 64))))) + 32)) 64))) else (none)) else (none)) else (none)) else (none)))))) = some r := H
 have A2 := Aside0.mk A20
 clear A20
 by_cases c3 : t155 ≥ 2048
 ·rw [if_pos c3] at H
  have c3b0 : decide (2048 ≤ t155) = true := decide_eq_true c3
  clear c3
  replace H := Option.bind_eq_some_iff.mp H
  obtain ⟨t156, A40, H⟩ := H
  replace H : (some (wrap64 (-t156))) = some r := H
  have A4 := Aside0.mk A40
  clear A40
  obtain rfl := Option.some.inj H
  go_enter Try.func24, Try.ntmps24
  go_wp2_with (first | (go_at_call 40; (with_reducible refine (spec_l1Mod.calls a0 4096 t155 _ A2.out).mono ?_); rintro e w' ⟨rfl, ⟨nd, rfl⟩⟩; (try first | exact ⟨rfl, _, World.drewN_drewN _ _ _⟩ | exact ⟨rfl, _, Eq.trans (World.drewN_drewN _ _ _) (congrArg (World.drewN _) (Nat.add_assoc _ _ _))⟩)) | (go_at_call 24; (with_reducible refine (ih k (by omega) (wrap64 (t155 - 2048)) t156 _ A4.out).mono ?_); rintro e w5 ⟨rfl, hb⟩; replace HB := bH (lU) hb; (try clear hb)))
  repeat (go_quiet (first | (go_at_call 40; (with_reducible refine (spec_l1Mod.calls a0 4096 t155 _ A2.out).mono ?_); rintro e w' ⟨rfl, ⟨nd, rfl⟩⟩; (try first | exact ⟨rfl, _, World.drewN_drewN _ _ _⟩ | exact ⟨rfl, _, Eq.trans (World.drewN_drewN _ _ _) (congrArg (World.drewN _) (Nat.add_assoc _ _ _))⟩)) | (go_at_call 24; (with_reducible refine (ih k (by omega) (wrap64 (t155 - 2048)) t156 _ A4.out).mono ?_); rintro e w5 ⟨rfl, hb⟩; replace HB := bH (lU) hb; (try clear hb))); try go_wp2_with (first | (go_at_call 40; (with_reducible refine (spec_l1Mod.calls a0 4096 t155 _ A2.out).mono ?_); rintro e w' ⟨rfl, ⟨nd, rfl⟩⟩; (try first | exact ⟨rfl, _, World.drewN_drewN _ _ _⟩ | exact ⟨rfl, _, Eq.trans (World.drewN_drewN _ _ _) (congrArg (World.drewN _) (Nat.add_assoc _ _ _))⟩)) | (go_at_call 24; (with_reducible refine (ih k (by omega) (wrap64 (t155 - 2048)) t156 _ A4.out).mono ?_); rintro e w5 ⟨rfl, hb⟩; replace HB := bH (lU) hb; (try clear hb))))
  go_ret
  exact ⟨eE, lU⟩
 ·rw [if_neg c3] at H
  have c3b0 : decide (2048 ≤ t155) = false := decide_eq_false c3
  clear c3
  by_cases c6 : t155 > 1024
  ·rw [if_pos c6] at H
   have c6b0 : decide (1024 < t155) = true := decide_eq_true c6
   clear c6
   replace H := Option.bind_eq_some_iff.mp H
   obtain ⟨t157, A70, H⟩ := H
   replace H : (some t157) = some r := H
   have A7 := Aside0.mk A70
   clear A70
   obtain rfl := Option.some.inj H
   go_enter Try.func24, Try.ntmps24
   go_wp2_with (first | (go_at_call 40; (with_reducible refine (spec_l1Mod.calls a0 4096 t155 _ A2.out).mono ?_); rintro e w' ⟨rfl, ⟨nd, rfl⟩⟩; (try first | exact ⟨rfl, _, World.drewN_drewN _ _ _⟩ | exact ⟨rfl, _, Eq.trans (World.drewN_drewN _ _ _) (congrArg (World.drewN _) (Nat.add_assoc _ _ _))⟩)) | (go_at_call 24; (with_reducible refine (ih k (by omega) (wrap64 (2048 - t155)) t157 _ A7.out).mono ?_); rintro e w8 ⟨rfl, hb⟩; replace HB := bH (lU) hb; (try clear hb)))
   repeat (go_quiet (first | (go_at_call 40; (with_reducible refine (spec_l1Mod.calls a0 4096 t155 _ A2.out).mono ?_); rintro e w' ⟨rfl, ⟨nd, rfl⟩⟩; (try first | exact ⟨rfl, _, World.drewN_drewN _ _ _⟩ | exact ⟨rfl, _, Eq.trans (World.drewN_drewN _ _ _) (congrArg (World.drewN _) (Nat.add_assoc _ _ _))⟩)) | (go_at_call 24; (with_reducible refine (ih k (by omega) (wrap64 (2048 - t155)) t157 _ A7.out).mono ?_); rintro e w8 ⟨rfl, hb⟩; replace HB := bH (lU) hb; (try clear hb))); try go_wp2_with (first | (go_at_call 40; (with_reducible refine (spec_l1Mod.calls a0 4096 t155 _ A2.out).mono ?_); rintro e w' ⟨rfl, ⟨nd, rfl⟩⟩; (try first | exact ⟨rfl, _, World.drewN_drewN _ _ _⟩ | exact ⟨rfl, _, Eq.trans (World.drewN_drewN _ _ _) (congrArg (World.drewN _) (Nat.add_assoc _ _ _))⟩)) | (go_at_call 24; (with_reducible refine (ih k (by omega) (wrap64 (2048 - t155)) t157 _ A7.out).mono ?_); rintro e w8 ⟨rfl, hb⟩; replace HB := bH (lU) hb; (try clear hb))))
   go_ret
   exact ⟨eE, lU⟩
  ·rw [if_neg c6] at H
   have c6b0 : decide (1024 < t155) = false := decide_eq_false c6
   clear c6
   by_cases c9 : t155 = 1024
   ·rw [if_pos c9] at H
    have c9b0 : (t155 == 1024) = true := beq_iff_eq.mpr c9
    have c9b1 : (t155 != 1024) = false := bne_eq_false_iff_eq.mpr c9
    clear c9
    obtain rfl := Option.some.inj H
    go_enter Try.func24, Try.ntmps24
    go_wp2_with (first | (go_at_call 40; (with_reducible refine (spec_l1Mod.calls a0 4096 t155 _ A2.out).mono ?_); rintro e w' ⟨rfl, ⟨nd, rfl⟩⟩; (try first | exact ⟨rfl, _, World.drewN_drewN _ _ _⟩ | exact ⟨rfl, _, Eq.trans (World.drewN_drewN _ _ _) (congrArg (World.drewN _) (Nat.add_assoc _ _ _))⟩)))
    repeat (go_quiet (first | (go_at_call 40; (with_reducible refine (spec_l1Mod.calls a0 4096 t155 _ A2.out).mono ?_); rintro e w' ⟨rfl, ⟨nd, rfl⟩⟩; (try first | exact ⟨rfl, _, World.drewN_drewN _ _ _⟩ | exact ⟨rfl, _, Eq.trans (World.drewN_drewN _ _ _) (congrArg (World.drewN _) (Nat.add_assoc _ _ _))⟩))); try go_wp2_with (first | (go_at_call 40; (with_reducible refine (spec_l1Mod.calls a0 4096 t155 _ A2.out).mono ?_); rintro e w' ⟨rfl, ⟨nd, rfl⟩⟩; (try first | exact ⟨rfl, _, World.drewN_drewN _ _ _⟩ | exact ⟨rfl, _, Eq.trans (World.drewN_drewN _ _ _) (congrArg (World.drewN _) (Nat.add_assoc _ _ _))⟩))))
    go_ret
    exact ⟨eE, lU⟩
   ·rw [if_neg c9] at H
    have c9b0 : (t155 == 1024) = false := beq_eq_false_iff_ne.mpr c9
    have c9b1 : (t155 != 1024) = true := bne_iff_ne.mpr c9
    replace H := Option.bind_eq_some_iff.mp H
    obtain ⟨t158, A100, H⟩ := H
    replace H : (if 0 ≤ (wrap64 (Int.tdiv t155 64)) then (if (wrap64 (Int.tdiv t155 64)) < (t158.length : Int) then (if 0 ≤ (wrap64 ((wrap64 (Int.tdiv t155 64)) + 1)) then (if (wrap64 ((wrap64 (Int.tdiv t155 64)) + 1)) < (t158.length : Int) then (some (wrap64 (Int.tdiv (wrap64 ((wrap64 ((wrap64 ((rd t158 (wrap64 (Int.tdiv t155 64))) * (wrap64 (64 - (Int.tmod t155 64))))) + (wrap64 ((rd t158 (wrap64 ((wrap64 (Int.tdiv t155 64)) + 1))) * (Int.tmod t155 64))))) + 32)) 64))) else (none)) else (none)) else (none)) else (none)) = some r := H
    have A10 := Aside0.mk A100
    clear A100
    obtain ⟨ji11, hji11⟩ : ∃ j_ : Int, (wrap64 (Int.tdiv t155 64)) = j_ := ⟨_, rfl⟩
    replace H : (if 0 ≤ (ji11) then (if (ji11) < (t158.length : Int) then (if 0 ≤ (wrap64 ((ji11) + 1)) then (if (wrap64 ((ji11) + 1)) < (t158.length : Int) then (some (wrap64 (Int.tdiv (wrap64 ((wrap64 ((wrap64 ((rd t158 (ji11)) * (wrap64 (64 - (Int.tmod t155 64))))) + (wrap64 ((rd t158 (wrap64 ((ji11) + 1))) * (Int.tmod t155 64))))) + 32)) 64))) else (none)) else (none)) else (none)) else (none)) = some r := by first | (rw [hji11] at H; exact H) | (simp only [hji11] at H ⊢; exact H)
    (try rw [hji11] at A2)
    (try rw [hji11] at A10)
    have hji11w : (IntKind.i64.wrap (Int.tdiv t155 64)) = ji11 := (i64_w _).trans hji11
    by_cases c12 : 0 ≤ (ji11)
    ·rw [if_pos c12] at H
     have c12b0 : decide (0 ≤ (ji11)) = true := decide_eq_true c12
     clear c12
     by_cases c13 : (ji11) < (t158.length : Int)
     ·rw [if_pos c13] at H
      have c13b0 : decide ((ji11) < (t158.length : Int)) = true := decide_eq_true c13
      clear c13
      obtain ⟨ji14, hji14⟩ : ∃ j_ : Int, (wrap64 ((ji11) + 1)) = j_ := ⟨_, rfl⟩
      replace H : (if 0 ≤ (ji14) then (if (ji14) < (t158.length : Int) then (some (wrap64 (Int.tdiv (wrap64 ((wrap64 ((wrap64 ((rd t158 (ji11)) * (wrap64 (64 - (Int.tmod t155 64))))) + (wrap64 ((rd t158 (ji14)) * (Int.tmod t155 64))))) + 32)) 64))) else (none)) else (none)) = some r := by first | (rw [hji14] at H; exact H) | (simp only [hji14] at H ⊢; exact H)
      (try rw [hji14] at A2)
      (try rw [hji14] at A10)
      have hji14w : (IntKind.i64.wrap ((ji11) + 1)) = ji14 := (i64_w _).trans hji14
      by_cases c15 : 0 ≤ (ji14)
      ·rw [if_pos c15] at H
       have c15b0 : decide (0 ≤ (ji14)) = true := decide_eq_true c15
       clear c15
       by_cases c16 : (ji14) < (t158.length : Int)
       ·rw [if_pos c16] at H
        have c16b0 : decide ((ji14) < (t158.length : Int)) = true := decide_eq_true c16
        clear c16
        obtain rfl := Option.some.inj H
        go_enter Try.func24, Try.ntmps24
        go_wp2_with (first | (go_at_call 40; (with_reducible refine (spec_l1Mod.calls a0 4096 t155 _ A2.out).mono ?_); rintro e w' ⟨rfl, ⟨nd, rfl⟩⟩; (try first | exact ⟨rfl, _, World.drewN_drewN _ _ _⟩ | exact ⟨rfl, _, Eq.trans (World.drewN_drewN _ _ _) (congrArg (World.drewN _) (Nat.add_assoc _ _ _))⟩)) | (go_at_call 41; (with_reducible refine (spec_l1Table.calls  t158 _ A10.out).mono ?_); rintro e w17 ⟨v159, rfl, ho0, hb⟩; have HO160 := Aside0.mk (Kd.R_lower ho0 (below_size (lU))); replace HB := bH (lU) hb; (try clear hb); (try clear ho0); obtain ⟨Ao18, co18, eo18⟩ := Kd.R_slice HO160.out; subst eo18; have p161 : 0 ≤ ((ji11) : Int) := of_decide_eq_true hE; have q161 : (ji11) < (t158.length : Int) := of_decide_eq_true hE; obtain ⟨ad161, e161, hx161_0⟩ := Kd.at_int (Kd.R_reads' HO160.out).2.2 (ji11) p161 q161; cases e161; replace p161 := eq_true p161; replace q161 := eq_true q161; have p162 : 0 ≤ ((ji14) : Int) := of_decide_eq_true hE; have q162 : (ji14) < (t158.length : Int) := of_decide_eq_true hE; obtain ⟨ad162, e162, hx162_0⟩ := Kd.at_int (Kd.R_reads' HO160.out).2.2 (ji14) p162 q162; obtain rfl : ad161 = ad162 := (by injection e162); replace p162 := eq_true p162; replace q162 := eq_true q162))
        repeat (go_quiet (first | (go_at_call 40; (with_reducible refine (spec_l1Mod.calls a0 4096 t155 _ A2.out).mono ?_); rintro e w' ⟨rfl, ⟨nd, rfl⟩⟩; (try first | exact ⟨rfl, _, World.drewN_drewN _ _ _⟩ | exact ⟨rfl, _, Eq.trans (World.drewN_drewN _ _ _) (congrArg (World.drewN _) (Nat.add_assoc _ _ _))⟩)) | (go_at_call 41; (with_reducible refine (spec_l1Table.calls  t158 _ A10.out).mono ?_); rintro e w17 ⟨v159, rfl, ho0, hb⟩; have HO160 := Aside0.mk (Kd.R_lower ho0 (below_size (lU))); replace HB := bH (lU) hb; (try clear hb); (try clear ho0); obtain ⟨Ao18, co18, eo18⟩ := Kd.R_slice HO160.out; subst eo18; have p161 : 0 ≤ ((ji11) : Int) := of_decide_eq_true hE; have q161 : (ji11) < (t158.length : Int) := of_decide_eq_true hE; obtain ⟨ad161, e161, hx161_0⟩ := Kd.at_int (Kd.R_reads' HO160.out).2.2 (ji11) p161 q161; cases e161; replace p161 := eq_true p161; replace q161 := eq_true q161; have p162 : 0 ≤ ((ji14) : Int) := of_decide_eq_true hE; have q162 : (ji14) < (t158.length : Int) := of_decide_eq_true hE; obtain ⟨ad162, e162, hx162_0⟩ := Kd.at_int (Kd.R_reads' HO160.out).2.2 (ji14) p162 q162; obtain rfl : ad161 = ad162 := (by injection e162); replace p162 := eq_true p162; replace q162 := eq_true q162)); try go_wp2_with (first | (go_at_call 40; (with_reducible refine (spec_l1Mod.calls a0 4096 t155 _ A2.out).mono ?_); rintro e w' ⟨rfl, ⟨nd, rfl⟩⟩; (try first | exact ⟨rfl, _, World.drewN_drewN _ _ _⟩ | exact ⟨rfl, _, Eq.trans (World.drewN_drewN _ _ _) (congrArg (World.drewN _) (Nat.add_assoc _ _ _))⟩)) | (go_at_call 41; (with_reducible refine (spec_l1Table.calls  t158 _ A10.out).mono ?_); rintro e w17 ⟨v159, rfl, ho0, hb⟩; have HO160 := Aside0.mk (Kd.R_lower ho0 (below_size (lU))); replace HB := bH (lU) hb; (try clear hb); (try clear ho0); obtain ⟨Ao18, co18, eo18⟩ := Kd.R_slice HO160.out; subst eo18; have p161 : 0 ≤ ((ji11) : Int) := of_decide_eq_true hE; have q161 : (ji11) < (t158.length : Int) := of_decide_eq_true hE; obtain ⟨ad161, e161, hx161_0⟩ := Kd.at_int (Kd.R_reads' HO160.out).2.2 (ji11) p161 q161; cases e161; replace p161 := eq_true p161; replace q161 := eq_true q161; have p162 : 0 ≤ ((ji14) : Int) := of_decide_eq_true hE; have q162 : (ji14) < (t158.length : Int) := of_decide_eq_true hE; obtain ⟨ad162, e162, hx162_0⟩ := Kd.at_int (Kd.R_reads' HO160.out).2.2 (ji14) p162 q162; obtain rfl : ad161 = ad162 := (by injection e162); replace p162 := eq_true p162; replace q162 := eq_true q162)))
        go_ret
        exact ⟨by first | rfl | (simp [errW_none, errW_some] <;> rfl) | (simp only [← hji11, ← hji14]; first | rfl | (simp [errW_none, errW_some] <;> rfl)) | (simp [*, errW_none, errW_some] <;> rfl), lU⟩
       ·rw [if_neg c16] at H
        exact absurd H (by simp)
      ·rw [if_neg c15] at H
       exact absurd H (by simp)
     ·rw [if_neg c13] at H
      exact absurd H (by simp)
    ·rw [if_neg c12] at H
     exact absurd H (by simp)
def spec_CosOf.f (k : Nat) (a0 : Int) : Option (Int) := (spec_l1Mod.f a0 4096).bind fun t163 => ((spec_SinOf.f k (wrap64 (t163 + 1024))).bind fun t164 => (some t164))
theorem spec_CosOf.mono : ∀ a0 k, LeO (spec_CosOf.f k a0) (spec_CosOf.f (k + 1) a0) := by
 intro a0 k
 unfold spec_CosOf.f
 repeat' first
   | (with_reducible exact spec_SinOf.mono _ _)
   | (with_reducible exact LeO.refl _)
   | (with_reducible exact LeO.none _)
   | (with_reducible refine LeO.ite ?_ ?_)
   | (with_reducible refine LeO.bind ?_ (fun _ => ?_))
   | exact spec_SinOf.mono _ _
   | exact LeO.none _
   | refine LeO.ite ?_ ?_
   | refine LeO.bind ?_ (fun _ => ?_)
set_option maxHeartbeats 8000000 in
set_option maxRecDepth 100000 in
theorem spec_CosOf.calls (k : Nat) (a0 : Int) (r : Int) (w : World) (h : spec_CosOf.f k a0 = some r) :
  Calls Try.prog 23 #[.int .i64 a0] w fun e w' => e = .returned (.int .i64 r) ∧ Below w.heap.size w w' := by
 have HB := Aside0.mk (Below.refl w.heap.size w)
 have H : ((spec_l1Mod.f a0 4096).bind fun t163 => ((spec_SinOf.f k (wrap64 (t163 + 1024))).bind fun t164 => (some t164))) = some r := h
 clear h
 replace H := Option.bind_eq_some_iff.mp H
 obtain ⟨t163, A20, H⟩ := H
 replace H : ((spec_SinOf.f k (wrap64 (t163 + 1024))).bind fun t164 => (some t164)) = some r := H
 have A2 := Aside0.mk A20
 clear A20
 replace H := Option.bind_eq_some_iff.mp H
 obtain ⟨t164, A30, H⟩ := H
 replace H : (some t164) = some r := H
 have A3 := Aside0.mk A30
 clear A30
 obtain rfl := Option.some.inj H
 go_enter Try.func23, Try.ntmps23
 go_wp2_with (first | ((with_reducible refine gate_callee (f := 40) rfl ?_); refine goesL_ (some 4) rfl rfl Try.func40 (by kernel_rfl) rfl #[.int .i64 a0, .int .i64 4096] rfl aE ?_; (with_reducible refine (spec_l1Mod.calls a0 4096 t163 _ A2.out).mono ?_); rintro e w' ⟨rfl, ⟨nd, rfl⟩⟩; refine ⟨_, rfl, ?_⟩) | ((with_reducible refine gate_callee (f := 24) rfl ?_); refine goesL_ (some 6) rfl rfl Try.func24 (by kernel_rfl) rfl #[.int .i64 (wrap64 (t163 + 1024))] rfl aE ?_; (with_reducible refine (spec_SinOf.calls k (wrap64 (t163 + 1024)) t164 _ A3.out).mono ?_); rintro e w4 ⟨rfl, hb⟩; refine ⟨_, rfl, ?_⟩; replace HB := bH (lU) hb; (try clear hb)))
 go_ret
 exact ⟨eE, lU⟩
end Go.Proofs.Ythgfobcckoedaaa.PFnExactSparksAt
