/- Texts of the row of the law FnExactDropTimer, laid together. -/
import Derived.Test.YtligkajfedkldaaZFnExactDropTimer0
import Derived.Deep.RegionLaw
import Derived.Lib.SliceRun
import Derived.Test.YtligkajfedkldaaProg
import Derived.Below
import Derived.Deep.Draws
import Derived.Deep.AppendLies
import Derived.Maps.AppendAt
import Derived.OwnWalk
import Derived.Laws.BytesArg
import Derived.Laws.MakeOwn
import Derived.Laws.OwnMore
import Derived.Deep.OwnRows
import Derived.Tactics
import Derived.Lib.ConvBytes
import Derived.Laws.Slices
import Derived.WalkKit
import Derived.KernelRfl
import Derived.RowKit3
import Derived.Deep.LoopGhost
import Derived.Deep.QuietTactic
import Derived.BigQuiet
import Derived.WideLaws
import Derived.Deep.DeepCutAuto
import Derived.Deep.CutBlock
import Derived.Deep.RegionHeld3
import Derived.Laws.Rows
import Derived.Lib.AppendStr
import Derived.ArgAppend
import Derived.Laws.IdiomCopy
import Derived.OrdersHeld
import Derived.Laws.BitsLemmas
import Derived.RowKit
import Derived.Laws.Cover1
namespace Go.Proofs.YtligkajfedkldaaW.PrintWords
open Go.RowKit
namespace Kd
section
variable {P : Program} {α : Type}
theorem zero_cells (z : Value) (sz m : Nat) (hz : z.cells.size = sz) (h1 : ∀ u ∈ z.cells.toList, u.oneCell' = true) : (Builtin.zeroCells z.cells m).toList.length = m * sz ∧ ∀ u ∈ (Builtin.zeroCells z.cells m).toList, u.oneCell' = true := by
  subst hz
  refine ⟨by simp [Builtin.zeroCells], fun u hu => ?_⟩
  simp only [Builtin.zeroCells, Array.toList_map, List.mem_map, Array.toList_range, List.mem_range] at hu
  obtain ⟨q, hq, rfl⟩ := hu
  have h0 : 0 < z.cells.size := by
    rcases Nat.eq_zero_or_pos z.cells.size with h | h
    · rw [h] at hq; omega
    · exact h
  have hlt : q % z.cells.size < z.cells.size := Nat.mod_lt _ h0
  rw [getElem!_pos z.cells _ hlt]
  exact h1 _ (Array.getElem_mem_toList hlt)
theorem R_clear_run (d : Kd α) {W : World} (base : Nat) (t ty e : TypeId) (i : TypeInfo) (z : Value) (ht : P.underlying t = some (.slice e)) (hi : P.info? e = some i) (hiz : i.zero = some z) (hz : z.cells.size = d.sz) (hz1 : ∀ u ∈ z.cells.toList, u.oneCell' = true)
    {g n c m cc : Nat} {xs : List α} {ok : Nat → Prop} (HO : d.R e W base ok (.slice (some ⟨g, 0, none⟩) n c) xs) (hm0 : 0 < m) (hm : n + m ≤ c) :
    ∃ w1, (Builtin.clear_ #[t] ty #[.slice (some ⟨g, n * d.sz, none⟩) m cc]).run P W = .ok (.tuple #[]) w1 ∧ d.R e w1 base ok (.slice (some ⟨g, 0, none⟩) n c) xs ∧ W.grownBy w1 (some g) := by
  obtain ⟨hn, hnc, _⟩ := R_reads' HO
  obtain ⟨hok, inner, hown, hr⟩ := HO
  have hin : inner.length = n * d.sz := by rw [hr.1, hn]
  rcases hown.2 with ⟨hv, _⟩ | ⟨g', cap', cur, hv, hb, hh, _, hcm, hcs, htake⟩
  · cases hv
  injection hv with ha _ hc
  injection ha with ha
  injection ha with hg
  subst hg; subst hc
  rw [← hn] at htake
  obtain ⟨zs, hzs⟩ : ∃ zs, zs = (Builtin.zeroCells z.cells m).toList := ⟨_, rfl⟩
  obtain ⟨hzl, hz2⟩ := zero_cells z d.sz m hz hz1
  rw [← hzs] at hzl hz2
  have hfit : n * d.sz + zs.length ≤ cur.size := by rw [hzl, hcs, ← Nat.add_mul]; exact Nat.mul_le_mul_right _ hm
  have hst := run_storeCells_cells (P := P) g (n * d.sz) zs 0 W (fun j hj => by rw [Nat.add_zero, cell_of_row W g _ cur e (0, 0) hh]; simp; omega) (fun j _ => blk_frozen hh _) hz2
  simp only [Nat.add_zero] at hst
  have hzv : (zeroValue e).run P W = .ok z W := by simp [zeroValue, typeInfo, hi, hiz]
  have hrun : (Builtin.clear_ #[t] ty #[.slice (some ⟨g, n * d.sz, none⟩) m cc]).run P W = .ok (.tuple #[]) (W.setCells g (n * d.sz) zs) := by
    rw [hzs] at hst ⊢
    obtain ⟨m', rfl⟩ : ∃ m', m = m' + 1 := ⟨m - 1, by omega⟩
    simp [Builtin.clear_, run_underlying ht, hzv, hst]
  obtain ⟨cur', h3, h4, h5⟩ := setCells_row zs (n * d.sz) W cur hh hfit
  obtain ⟨s1, s2, s3, s4⟩ := setCells_same g zs (n * d.sz) W
  have hfar : ∀ k', k' ≠ g → (W.setCells g (n * d.sz) zs).heap[k']? = W.heap[k']? := fun k' hk' => setCells_far zs _ k' hk'
  have hgo : ∀ m, some g = (Value.slice (some ⟨g, 0, none⟩) m c).ownBlock := fun m => by simp [Value.ownBlock]
  refine ⟨_, hrun, ⟨hok, inner, ⟨hown.1, .inr ⟨g, c, cur', by rw [hn], hb, h3, by rw [← hn]; exact hnc, hcm, by rw [h4, hcs], ?_⟩⟩, ?_⟩, ⟨s1, s2, s3, by rw [s4]; exact Nat.le_refl _, fun k' _ hk' => hfar k' (fun he => hk' (by rw [he]))⟩⟩
  · rw [← hn, h5]
    rw [List.append_assoc, List.take_append_of_le_length (by rw [List.length_take, Array.length_toList]; omega), List.take_take, Nat.min_self]
    exact htake
  · exact hr.imp_ fun p q hp => d.M_move (fun k' hk' => hfar k' (fun he => hk'.2 (by rw [he]; exact hgo _))) hp
end
end Kd
end Go.Proofs.YtligkajfedkldaaW.PrintWords
namespace Go.Proofs.YtligkajfedkldaaW.PrintLast
open Go.RowKit Go.Proofs.YtligkajfedkldaaW.PrintWords
def bz (n m : Nat) : Array Bool := ((List.range n).map fun i => m.testBit i).toArray
section
variable {P : Program} {ops : Array Oper} {Q : Exit → Act → World → Prop} {md : Region.Mode} {S : World → Prop} {ds : List Nat}
theorem pureA (i : Nat) (N : Tmp) {oi : Oper} {v : Value} {fuel : Nat} {l : Array Bool} {a : Act} {w : World} (l' : Array Bool) {a' : Act} (hi : ops[i]? = some oi) (hN : oi.dst = some N) (hc : anyB md ops l l' i = true) (h : wpAnyLast P md ops Q S ds fuel l' a' w)
    (hQ : ∀ c a w, Q (.panic c) (a.put oi.dst v) w → Q (.panic c) a w := by exact fun _ _ _ h => h) (hw : Region.wanted oi (yielded ops a.tmps) = true := by rfl)
    (hy : ∀ w, (execOp a.eval oi).run P w = .ok (.value v) w := by intro w'; go_simp; with_reducible rfl) (ha : a.put (some N) v = a' := by simp only [Act.put, List.setIfInBounds_toArray, List.set_cons_zero, List.set_cons_succ, i64_w, i32_w]; rfl) : wpAnyLast P md ops Q S ds (fuel + 1) l a w :=
  pure_ l' hi hN hc hQ (Or.inl ⟨hw, hy⟩) ha h
theorem pureU (i : Nat) (N : Tmp) {oi : Oper} {fuel : Nat} {l : Array Bool} {a : Act} {w : World} (l' : Array Bool) {a' : Act} (hi : ops[i]? = some oi) (hN : oi.dst = some N) (hc : anyB md ops l l' i = true) (h : wpAnyLast P md ops Q S ds fuel l' a' w)
    (hQ : ∀ c a w, Q (.panic c) (a.put oi.dst undef) w → Q (.panic c) a w := by exact fun _ _ _ h => h) (hw : Region.wanted oi (yielded ops a.tmps) = false := by rfl)
    (ha : a.put (some N) undef = a' := by simp only [Act.put, List.setIfInBounds_toArray, List.set_cons_zero, List.set_cons_succ, i64_w, i32_w]; rfl) : wpAnyLast P md ops Q S ds (fuel + 1) l a w :=
  pure_ l' hi hN hc hQ (Or.inr ⟨hw, rfl⟩) ha h
theorem takeA (i : Nat) (N : Tmp) {oi : Oper} {v : Value} {fuel : Nat} {l : Array Bool} {a : Act} {w : World} (l' : Array Bool) {a' : Act} (hi : ops[i]? = some oi) (hN : oi.dst = some N) (hc : takeB md ops ds l l' i = true) (hS : S w) (hy : ∀ w, S w → (execOp a.eval oi).run P w = .ok (.value v) w) (h : wpAnyLast P md ops Q S ds fuel l' a' w)
    (hQ : ∀ c a w, Q (.panic c) (a.put oi.dst v) w → Q (.panic c) a w := by exact fun _ _ _ h => h) (hw : Region.wanted oi (yielded ops a.tmps) = true := by rfl)
    (ha : a.put (some N) v = a' := by simp only [Act.put, List.setIfInBounds_toArray, List.set_cons_zero, List.set_cons_succ, i64_w, i32_w]; rfl) : wpAnyLast P md ops Q S ds (fuel + 1) l a w :=
  take_ l' hi hN hc hQ (Or.inl ⟨hw, hy⟩) hS ha h
end
end Go.Proofs.YtligkajfedkldaaW.PrintLast
namespace Go.Proofs.Ytligkajfedkldaa.PFnExactDropTimer
open Go.RowKit Go.Proofs.YtligkajfedkldaaW.PrintWords Go.Proofs.YtligkajfedkldaaW.PrintLast Go.Proofs.YtligkajfedkldaaW.PrintMore
attribute [local go_sem] max2_int min2_int max_two min_two max_three min_three max_four min_four   -- for this text's walks alone
set_option linter.unusedVariables false
set_option linter.unusedSimpArgs false
def errW : Option Int → Value
 | none => .nilIface
 | some c => .iface 0 (.int .i64 c)
theorem errW_none : errW none = .nilIface := rfl
theorem errW_some (c : Int) : errW (some c) = .iface 0 (.int .i64 c) := rfl
theorem info178 : (Try.prog.info? 178).map (fun i => (i.zero, i.size, i.bytes)) = some (some (.agg #[(.int .i64 0), (.int .i64 0), (.int .i64 0), (.int .i64 0)]), 4, 32) := by kernel_rfl
structure S254 where
 f0 : Int
 f1 : Int
 f2 : Int
 f3 : Int
def z254 : S254 := ⟨(0 : Int), (0 : Int), (0 : Int), (0 : Int)⟩
def k254 : Kd S254 := Kd.iso (Kd.pair (Kd.int .i64) (Kd.pair (Kd.int .i64) (Kd.pair (Kd.int .i64) (Kd.int .i64)))) (fun x : S254 => (x.f0, x.f1, x.f2, x.f3))
theorem k254_open {w : World} {x : S254} {cs : List Value} (h : k254.K w x cs) : cs = [.int .i64 x.f0, .int .i64 x.f1, .int .i64 x.f2, .int .i64 x.f3] := by
 obtain ⟨_, _, rfl, rfl, ⟨_, _, rfl, rfl, ⟨_, _, rfl, rfl, rfl⟩⟩⟩ := h
 exact rfl
def rd_T254 (xs : List S254) (i : Int) : S254 := xs.getD i.toNat z254
theorem at_T254 {w : World} {A : Option Addr} {n : Nat} {xs : List S254} (h : Kd.C k254 w A n xs) (i : Int) (h0 : 0 ≤ i) (h1 : i < n) : ∃ ad , A = some ad ∧ w.cell? (ad.add (i.toNat * 4)) = some (.int .i64 (rd_T254 xs i).f0) ∧ w.cell? ⟨(ad.add (i.toNat * 4)).block, (ad.add (i.toNat * 4)).off + 1, none⟩ = some (.int .i64 (rd_T254 xs i).f1) ∧ w.cell? ⟨(ad.add (i.toNat * 4)).block, (ad.add (i.toNat * 4)).off + 2, none⟩ = some (.int .i64 (rd_T254 xs i).f2) ∧ w.cell? ⟨(ad.add (i.toNat * 4)).block, (ad.add (i.toNat * 4)).off + 3, none⟩ = some (.int .i64 (rd_T254 xs i).f3) := by
 obtain ⟨ad, c, e, _, hK, hc0⟩ := Kd.C_get h z254 i h0 h1
 have hc : ∀ j u, c[j]? = some u → w.cell? (ad.add (i.toNat * 4 + j)) = some u := hc0
 obtain rfl := k254_open hK
 exact ⟨ad, e, hc 0 _ rfl, by rw [← add_field _ _ 1 (by omega)]; exact hc 1 _ rfl, by rw [← add_field _ _ 2 (by omega)]; exact hc 2 _ rfl, by rw [← add_field _ _ 3 (by omega)]; exact hc 3 _ rfl⟩
structure S178 where
 f0 : Int
 f1 : Int
 f2 : Int
 f3 : Int
def z178 : S178 := ⟨(0 : Int), (0 : Int), (0 : Int), (0 : Int)⟩
def k178 : Kd S178 := Kd.iso (Kd.pair (Kd.int .i64) (Kd.pair (Kd.int .i64) (Kd.pair (Kd.int .i64) (Kd.int .i64)))) (fun x : S178 => (x.f0, x.f1, x.f2, x.f3))
theorem k178_open {w : World} {x : S178} {cs : List Value} (h : k178.K w x cs) : cs = [.int .i64 x.f0, .int .i64 x.f1, .int .i64 x.f2, .int .i64 x.f3] := by
 obtain ⟨_, _, rfl, rfl, ⟨_, _, rfl, rfl, ⟨_, _, rfl, rfl, rfl⟩⟩⟩ := h
 exact rfl
theorem k178_openM {w : World} {base : Nat} {ok : Nat → Prop} {x : S178} {cs : List Value} (h : k178.M w base ok x cs) : cs = [.int .i64 x.f0, .int .i64 x.f1, .int .i64 x.f2, .int .i64 x.f3] := by
 obtain ⟨_, _, rfl, rfl, ⟨_, _, rfl, rfl, ⟨_, _, rfl, rfl, rfl⟩⟩⟩ := h
 exact rfl
theorem k178_mkM (w : World) (base : Nat) (ok : Nat → Prop) (x : S178)  : k178.M w base ok x [.int .i64 x.f0, .int .i64 x.f1, .int .i64 x.f2, .int .i64 x.f3] := ⟨[.int .i64 x.f0], [.int .i64 x.f1, .int .i64 x.f2, .int .i64 x.f3], rfl, rfl, ⟨[.int .i64 x.f1], [.int .i64 x.f2, .int .i64 x.f3], rfl, rfl, ⟨[.int .i64 x.f2], [.int .i64 x.f3], rfl, rfl, rfl⟩⟩⟩
def rd_T178 (xs : List S178) (i : Int) : S178 := xs.getD i.toNat z178
theorem at_T178 {w : World} {A : Option Addr} {n : Nat} {xs : List S178} (h : Kd.C k178 w A n xs) (i : Int) (h0 : 0 ≤ i) (h1 : i < n) : ∃ ad , A = some ad ∧ w.cell? (ad.add (i.toNat * 4)) = some (.int .i64 (rd_T178 xs i).f0) ∧ w.cell? ⟨(ad.add (i.toNat * 4)).block, (ad.add (i.toNat * 4)).off + 1, none⟩ = some (.int .i64 (rd_T178 xs i).f1) ∧ w.cell? ⟨(ad.add (i.toNat * 4)).block, (ad.add (i.toNat * 4)).off + 2, none⟩ = some (.int .i64 (rd_T178 xs i).f2) ∧ w.cell? ⟨(ad.add (i.toNat * 4)).block, (ad.add (i.toNat * 4)).off + 3, none⟩ = some (.int .i64 (rd_T178 xs i).f3) := by
 obtain ⟨ad, c, e, _, hK, hc0⟩ := Kd.C_get h z178 i h0 h1
 have hc : ∀ j u, c[j]? = some u → w.cell? (ad.add (i.toNat * 4 + j)) = some u := hc0
 obtain rfl := k178_open hK
 exact ⟨ad, e, hc 0 _ rfl, by rw [← add_field _ _ 1 (by omega)]; exact hc 1 _ rfl, by rw [← add_field _ _ 2 (by omega)]; exact hc 2 _ rfl, by rw [← add_field _ _ 3 (by omega)]; exact hc 3 _ rfl⟩
end Go.Proofs.Ytligkajfedkldaa.PFnExactDropTimer
namespace Go.Proofs.Ytligkajfedkldaa.PFnExactDropTimer
open Go.RowKit Go.Proofs.YtligkajfedkldaaW.PrintWords Go.Proofs.YtligkajfedkldaaW.PrintLast Go.Proofs.YtligkajfedkldaaW.PrintMore
attribute [local go_sem] max2_int min2_int max_two min_two max_three min_three max_four min_four   -- for this text's walks alone
set_option linter.unusedVariables false
set_option linter.unusedSimpArgs false
def laws_szTimerS.f (l0 : List (S254)) (a1 : Int) : Option (Int) := if (wrap64 (a1 - (l0.length : Int))) < 0 then (some (-1)) else (some (wrap64 (a1 - (l0.length : Int))))
set_option maxHeartbeats 8000000 in
set_option maxRecDepth 100000 in
theorem laws_szTimerS.calls (A0 : Option Addr) (c0 : Nat) (l0 : List (S254)) (a1 : Int) (r : Int) (w : World) (hr0 : Kd.C k254 w A0 l0.length l0) (hc0 : l0.length ≤ c0) (h : laws_szTimerS.f l0 a1 = some r) :
  Calls Try.prog 125 #[.slice A0 l0.length c0, .int .i64 a1] w fun e w' => e = .returned (.int .i64 r) ∧ Drawn0 w w' := by
 have HR0 := Aside0.mk hr0
 have HC0 := Aside0.mk hc0
 clear hr0 hc0
 have H : (if (wrap64 (a1 - (l0.length : Int))) < 0 then (some (-1)) else (some (wrap64 (a1 - (l0.length : Int))))) = some r := h
 clear h
 by_cases c3 : (wrap64 (a1 - (l0.length : Int))) < 0
 ·rw [if_pos c3] at H
  have c3b0 : decide ((wrap64 (a1 - (l0.length : Int))) < 0) = true := decide_eq_true c3
  clear c3
  obtain rfl := Option.some.inj H
  go_enter Try.func125, Try.ntmps125
  go_wp2
  go_ret
  exact ⟨by first | rfl | (simp; done) | (simp [*]; done) | exact not_isEmpty _ | exact (not_isEmpty _).symm | exact is_empty _ | exact (is_empty _).symm, by repeat (first | exact Drawn0.refl _ | apply Drawn0.step)⟩
 ·rw [if_neg c3] at H
  have c3b0 : decide ((wrap64 (a1 - (l0.length : Int))) < 0) = false := decide_eq_false c3
  clear c3
  obtain rfl := Option.some.inj H
  go_enter Try.func125, Try.ntmps125
  go_wp2
  go_ret
  exact ⟨by first | rfl | (simp; done) | (simp [*]; done) | exact not_isEmpty _ | exact (not_isEmpty _).symm | exact is_empty _ | exact (is_empty _).symm, by repeat (first | exact Drawn0.refl _ | apply Drawn0.step)⟩
def laws_szClock.f (a0_0 : Int) (l0_1 : List (S254)) (a1 : Int) : Option (Int) := (laws_szTimerS.f l0_1 a1).bind fun t102 => (if t102 < 0 then (some (-1)) else (some t102))
set_option maxHeartbeats 8000000 in
set_option maxRecDepth 100000 in
theorem laws_szClock.calls (a0_0 : Int) (A0_1 : Option Addr) (c0_1 : Nat) (l0_1 : List (S254)) (a1 : Int) (r : Int) (w : World) (hr0_1 : Kd.C k254 w A0_1 l0_1.length l0_1) (hc0_1 : l0_1.length ≤ c0_1) (h : laws_szClock.f a0_0 l0_1 a1 = some r) :
  Calls Try.prog 44 #[.agg #[.int .i64 a0_0, .slice A0_1 l0_1.length c0_1], .int .i64 a1] w fun e w' => e = .returned (.int .i64 r) ∧ Below w.heap.size w w' := by
 have hu79 := Try.underlying79
 have HR0_1 := Aside0.mk hr0_1
 have HC0_1 := Aside0.mk hc0_1
 clear hr0_1 hc0_1
 have HB := Aside0.mk (Below.refl w.heap.size w)
 have H : ((laws_szTimerS.f l0_1 a1).bind fun t102 => (if t102 < 0 then (some (-1)) else (some t102))) = some r := h
 clear h
 replace H := Option.bind_eq_some_iff.mp H
 obtain ⟨t102, A30, H⟩ := H
 replace H : (if t102 < 0 then (some (-1)) else (some t102)) = some r := H
 have A3 := Aside0.mk A30
 clear A30
 by_cases c4 : t102 < 0
 ·rw [if_pos c4] at H
  have c4b0 : decide (t102 < 0) = true := decide_eq_true c4
  clear c4
  obtain rfl := Option.some.inj H
  go_enter Try.func44, Try.ntmps44
  go_wp2_with (first | ((with_reducible refine gate_dst (N := 2) rfl ?_); refine box_event ?hg (N := 2) ?hd (cs := #[.int .i64 a0_0, .slice A0_1 l0_1.length c0_1]) (t := 79) ?hr ?_; (case hd => rfl); (case hg => rfl); (case hr => first | (go_simp; done) | (go_simp; rfl)); intro gb101 hg w5 hbox hb; have n0_ := Aside0.mk (below_step (by repeat (first | (with_reducible first | exact HB.out | apply below_alloc | apply pw_below_drewN | apply below_drew1) | exact HB.out)) hb); have n1_ := Aside0.mk (hbox); have n2_ := Aside0.mk ((by rw [hg]; exact (below_size (by repeat (first | (with_reducible first | exact HB.out | apply below_alloc | apply pw_below_drewN | apply below_drew1) | exact HB.out))) : w.heap.size ≤ gb101)); have n3_ := Aside0.mk ((by rw [hg]; exact (below_size (by repeat (first | (with_reducible first | exact HB.out | apply below_alloc | apply pw_below_drewN | apply below_drew1) | exact HB.out))) : w.heap.size ≤ gb101)); clear HB; have HB := n0_; have BK101 := n1_; have GW101 := n2_; have GE101 := n3_; clear n0_ n1_ n2_ n3_; clear hb hbox hg; have hcz6_0 : w5.cell? ⟨gb101, 0, none⟩ = some (.int .i64 a0_0) := (blk_cell BK101.out 0).trans rfl; have hcz6_1 : w5.cell? ⟨gb101, 1, none⟩ = some (.slice A0_1 l0_1.length c0_1) := (blk_cell BK101.out 1).trans rfl; have hfz6_0 := blk_frozen BK101.out 0; have hfz6_1 := blk_frozen BK101.out 1) | ((with_reducible refine gate_callee (f := 125) rfl ?_); refine goesL_ (some 8) rfl rfl Try.func125 (by kernel_rfl) rfl #[.slice A0_1 l0_1.length c0_1, .int .i64 a1] rfl (by (try simp only [List.map_toArray, List.map_cons, List.map_nil]); first | done | rfl | (simp only [List.length_drop, List.length_take]; rfl)) ?_; (with_reducible refine (laws_szTimerS.calls _ _ l0_1 a1 t102 _ ?side1 ?side2 A3.out).mono ?_); (case side1 => repeat (first | exact (Kd.C_below HR0_1.out HB.out) | (with_reducible refine Kd.C_alloc ?_ _) | (with_reducible refine Kd.C_drewN ?_ _) | (with_reducible refine Kd.C_drew ?_))); (case side2 => exact HC0_1.out); rintro e w' ⟨rfl, ⟨nd, rfl⟩⟩; refine ⟨_, rfl, ?_⟩))
  go_ret
  exact ⟨by first | rfl | (simp [errW_none, errW_some] <;> rfl) | (simp [*, errW_none, errW_some] <;> rfl), by repeat (first | (with_reducible first | exact HB.out | apply below_alloc | apply pw_below_drewN | apply below_drew1 | refine below_set ?_ GE101.out) | exact HB.out)⟩
 ·rw [if_neg c4] at H
  have c4b0 : decide (t102 < 0) = false := decide_eq_false c4
  clear c4
  obtain rfl := Option.some.inj H
  go_enter Try.func44, Try.ntmps44
  go_wp2_with (first | ((with_reducible refine gate_dst (N := 2) rfl ?_); refine box_event ?hg (N := 2) ?hd (cs := #[.int .i64 a0_0, .slice A0_1 l0_1.length c0_1]) (t := 79) ?hr ?_; (case hd => rfl); (case hg => rfl); (case hr => first | (go_simp; done) | (go_simp; rfl)); intro gb101 hg w7 hbox hb; have n0_ := Aside0.mk (below_step (by repeat (first | (with_reducible first | exact HB.out | apply below_alloc | apply pw_below_drewN | apply below_drew1) | exact HB.out)) hb); have n1_ := Aside0.mk (hbox); have n2_ := Aside0.mk ((by rw [hg]; exact (below_size (by repeat (first | (with_reducible first | exact HB.out | apply below_alloc | apply pw_below_drewN | apply below_drew1) | exact HB.out))) : w.heap.size ≤ gb101)); have n3_ := Aside0.mk ((by rw [hg]; exact (below_size (by repeat (first | (with_reducible first | exact HB.out | apply below_alloc | apply pw_below_drewN | apply below_drew1) | exact HB.out))) : w.heap.size ≤ gb101)); clear HB; have HB := n0_; have BK101 := n1_; have GW101 := n2_; have GE101 := n3_; clear n0_ n1_ n2_ n3_; clear hb hbox hg; have hcz8_0 : w7.cell? ⟨gb101, 0, none⟩ = some (.int .i64 a0_0) := (blk_cell BK101.out 0).trans rfl; have hcz8_1 : w7.cell? ⟨gb101, 1, none⟩ = some (.slice A0_1 l0_1.length c0_1) := (blk_cell BK101.out 1).trans rfl; have hfz8_0 := blk_frozen BK101.out 0; have hfz8_1 := blk_frozen BK101.out 1) | ((with_reducible refine gate_callee (f := 125) rfl ?_); refine goesL_ (some 8) rfl rfl Try.func125 (by kernel_rfl) rfl #[.slice A0_1 l0_1.length c0_1, .int .i64 a1] rfl (by (try simp only [List.map_toArray, List.map_cons, List.map_nil]); first | done | rfl | (simp only [List.length_drop, List.length_take]; rfl)) ?_; (with_reducible refine (laws_szTimerS.calls _ _ l0_1 a1 t102 _ ?side1 ?side2 A3.out).mono ?_); (case side1 => repeat (first | exact (Kd.C_below HR0_1.out HB.out) | (with_reducible refine Kd.C_alloc ?_ _) | (with_reducible refine Kd.C_drewN ?_ _) | (with_reducible refine Kd.C_drew ?_))); (case side2 => exact HC0_1.out); rintro e w' ⟨rfl, ⟨nd, rfl⟩⟩; refine ⟨_, rfl, ?_⟩))
  go_ret
  exact ⟨by first | rfl | (simp [errW_none, errW_some] <;> rfl) | (simp [*, errW_none, errW_some] <;> rfl), by repeat (first | (with_reducible first | exact HB.out | apply below_alloc | apply pw_below_drewN | apply below_drew1 | refine below_set ?_ GE101.out) | exact HB.out)⟩
def spec_l1In.f (a0 : Int) (a1 : Int) (a2 : Int) : Option (Bool) := if a0 ≥ a1 then (some (decide (a0 ≤ a2))) else (some false)
set_option maxHeartbeats 8000000 in
set_option maxRecDepth 100000 in
theorem spec_l1In.calls (a0 : Int) (a1 : Int) (a2 : Int) (r : Bool) (w : World) (h : spec_l1In.f a0 a1 a2 = some r) :
  Calls Try.prog 87 #[.int .i64 a0, .int .i64 a1, .int .i64 a2] w fun e w' => e = .returned (.bool r) ∧ Drawn0 w w' := by
 have H : (if a0 ≥ a1 then (some (decide (a0 ≤ a2))) else (some false)) = some r := h
 clear h
 by_cases c4 : a0 ≥ a1
 ·rw [if_pos c4] at H
  have c4b0 : decide (a1 ≤ a0) = true := decide_eq_true c4
  clear c4
  obtain rfl := Option.some.inj H
  go_enter Try.func87, Try.ntmps87
  go_wp2
  go_ret
  exact ⟨by first | rfl | (simp; done) | (simp [*]; done) | exact not_isEmpty _ | exact (not_isEmpty _).symm | exact is_empty _ | exact (is_empty _).symm, by repeat (first | exact Drawn0.refl _ | apply Drawn0.step)⟩
 ·rw [if_neg c4] at H
  have c4b0 : decide (a1 ≤ a0) = false := decide_eq_false c4
  clear c4
  obtain rfl := Option.some.inj H
  go_enter Try.func87, Try.ntmps87
  go_wp2
  go_ret
  exact ⟨by first | rfl | (simp; done) | (simp [*]; done) | exact not_isEmpty _ | exact (not_isEmpty _).symm | exact is_empty _ | exact (is_empty _).symm, by repeat (first | exact Drawn0.refl _ | apply Drawn0.step)⟩
end Go.Proofs.Ytligkajfedkldaa.PFnExactDropTimer
namespace Go.Proofs.Ytligkajfedkldaa.PFnExactDropTimer
open Go.RowKit Go.Proofs.YtligkajfedkldaaW.PrintWords Go.Proofs.YtligkajfedkldaaW.PrintLast Go.Proofs.YtligkajfedkldaaW.PrintMore
attribute [local go_sem] max2_int min2_int max_two min_two max_three min_three max_four min_four   -- for this text's walks alone
set_option linter.unusedVariables false
set_option linter.unusedSimpArgs false
mutual
def spec_GoodClock.j0 : Nat → Bool → Int → List (S178) → Option (Bool)
 | 0, _, _, _ => none
 | k + 1, x14, x104000, x104001 => if x14 = true then (some false) else (spec_GoodClock.l0 k x104001 (x104001.length : Int) 0 x104000 x104001)
def spec_GoodClock.l0 : Nat → List (S178) → Int → Int → Int → List (S178) → Option (Bool)
 | 0, _, _, _, _, _ => none
 | k + 1, x16, x17, x18, x104000, x104001 => if x18 < x17 then (if 0 ≤ x18 then (if x18 < (x16.length : Int) then ((spec_l1In.f ((rd_T178 x16 x18).f0) 0 999).bind fun t107 => (if t107 = true then (if x18 > 0 then (if 0 ≤ (wrap64 (x18 - 1)) then (if (wrap64 (x18 - 1)) < (x104001.length : Int) then (if ((rd_T178 x104001 (wrap64 (x18 - 1))).f0) ≥ ((rd_T178 x16 x18).f0) then (spec_GoodClock.j2 k x16 x17 x18 true x104000 x104001) else ((spec_l1In.f ((rd_T178 x16 x18).f1) (wrap64 (x104000 + 1)) 200000).bind fun t109 => (if t109 = true then ((spec_l1In.f ((rd_T178 x16 x18).f2) 0 100000).bind fun t110 => (if t110 = true then ((spec_l1In.f ((rd_T178 x16 x18).f3) 1 1000).bind fun t111 => (if t111 = true then (if ((rd_T178 x16 x18).f2) = 0 then (spec_GoodClock.j2 k x16 x17 x18 (((rd_T178 x16 x18).f3) != 1) x104000 x104001) else (spec_GoodClock.j2 k x16 x17 x18 false x104000 x104001)) else (spec_GoodClock.j2 k x16 x17 x18 true x104000 x104001))) else (spec_GoodClock.j2 k x16 x17 x18 true x104000 x104001))) else (spec_GoodClock.j2 k x16 x17 x18 true x104000 x104001)))) else (none)) else (none)) else ((spec_l1In.f ((rd_T178 x16 x18).f1) (wrap64 (x104000 + 1)) 200000).bind fun t112 => (if t112 = true then ((spec_l1In.f ((rd_T178 x16 x18).f2) 0 100000).bind fun t113 => (if t113 = true then ((spec_l1In.f ((rd_T178 x16 x18).f3) 1 1000).bind fun t114 => (if t114 = true then (if ((rd_T178 x16 x18).f2) = 0 then (spec_GoodClock.j2 k x16 x17 x18 (((rd_T178 x16 x18).f3) != 1) x104000 x104001) else (spec_GoodClock.j2 k x16 x17 x18 false x104000 x104001)) else (spec_GoodClock.j2 k x16 x17 x18 true x104000 x104001))) else (spec_GoodClock.j2 k x16 x17 x18 true x104000 x104001))) else (spec_GoodClock.j2 k x16 x17 x18 true x104000 x104001)))) else (spec_GoodClock.j2 k x16 x17 x18 true x104000 x104001))) else (none)) else (none)) else (some true)
def spec_GoodClock.j2 : Nat → List (S178) → Int → Int → Bool → Int → List (S178) → Option (Bool)
 | 0, _, _, _, _, _, _ => none
 | k + 1, x16, x17, x18, x73, x104000, x104001 => if x73 = true then (some false) else (spec_GoodClock.l0 k x16 x17 (wrap64 (x18 + 1)) x104000 x104001)
end
def spec_GoodClock.f (k : Nat) (a0_0 : Int) (l0_1 : List (S178)) : Option (Bool) := (spec_l1In.f a0_0 0 100000).bind fun t104 => (if t104 = true then (spec_GoodClock.j0 k (decide ((l0_1.length : Int) > 20)) a0_0 l0_1) else (spec_GoodClock.j0 k true a0_0 l0_1))
theorem spec_GoodClock.mono_l : ∀ k, (∀ y0 y1 y2, LeO (spec_GoodClock.j0 k y0 y1 y2) (spec_GoodClock.j0 (k + 1) y0 y1 y2)) ∧ (∀ y0 y1 y2 y3 y4, LeO (spec_GoodClock.l0 k y0 y1 y2 y3 y4) (spec_GoodClock.l0 (k + 1) y0 y1 y2 y3 y4)) ∧ (∀ y0 y1 y2 y3 y4 y5, LeO (spec_GoodClock.j2 k y0 y1 y2 y3 y4 y5) (spec_GoodClock.j2 (k + 1) y0 y1 y2 y3 y4 y5))
 | 0 => ⟨fun _ _ _ r h => by simp [spec_GoodClock.j0] at h, fun _ _ _ _ _ r h => by simp [spec_GoodClock.l0] at h, fun _ _ _ _ _ _ r h => by simp [spec_GoodClock.j2] at h⟩
 | k + 1 => by
  obtain ⟨ih0, ih1, ih2⟩ := spec_GoodClock.mono_l k
  refine ⟨?_, ?_, ?_⟩
  ·intro y0 y1 y2
   unfold spec_GoodClock.j0
   repeat' first
   | (with_reducible exact ih0 _ _ _)
   | (with_reducible exact ih1 _ _ _ _ _)
   | (with_reducible exact ih2 _ _ _ _ _ _)
   | (with_reducible exact LeO.refl _)
   | (with_reducible exact LeO.none _)
   | (with_reducible refine LeO.ite ?_ ?_)
   | (with_reducible refine LeO.bind ?_ (fun _ => ?_))
   | exact ih0 _ _ _
   | exact ih1 _ _ _ _ _
   | exact ih2 _ _ _ _ _ _
   | exact LeO.none _
   | refine LeO.ite ?_ ?_
   | refine LeO.bind ?_ (fun _ => ?_)
  ·intro y0 y1 y2 y3 y4
   unfold spec_GoodClock.l0
   repeat' first
   | (with_reducible exact ih0 _ _ _)
   | (with_reducible exact ih1 _ _ _ _ _)
   | (with_reducible exact ih2 _ _ _ _ _ _)
   | (with_reducible exact LeO.refl _)
   | (with_reducible exact LeO.none _)
   | (with_reducible refine LeO.ite ?_ ?_)
   | (with_reducible refine LeO.bind ?_ (fun _ => ?_))
   | exact ih0 _ _ _
   | exact ih1 _ _ _ _ _
   | exact ih2 _ _ _ _ _ _
   | exact LeO.none _
   | refine LeO.ite ?_ ?_
   | refine LeO.bind ?_ (fun _ => ?_)
  ·intro y0 y1 y2 y3 y4 y5
   unfold spec_GoodClock.j2
   repeat' first
   | (with_reducible exact ih0 _ _ _)
   | (with_reducible exact ih1 _ _ _ _ _)
   | (with_reducible exact ih2 _ _ _ _ _ _)
   | (with_reducible exact LeO.refl _)
   | (with_reducible exact LeO.none _)
   | (with_reducible refine LeO.ite ?_ ?_)
   | (with_reducible refine LeO.bind ?_ (fun _ => ?_))
   | exact ih0 _ _ _
   | exact ih1 _ _ _ _ _
   | exact ih2 _ _ _ _ _ _
   | exact LeO.none _
   | refine LeO.ite ?_ ?_
   | refine LeO.bind ?_ (fun _ => ?_)
theorem spec_GoodClock.mono : ∀ a0 a1 k, LeO (spec_GoodClock.f k a0 a1) (spec_GoodClock.f (k + 1) a0 a1) := by
 intro a0 a1 k
 obtain ⟨ih0, ih1, ih2⟩ := spec_GoodClock.mono_l k
 unfold spec_GoodClock.f
 repeat' first
   | (with_reducible exact ih0 _ _ _)
   | (with_reducible exact ih1 _ _ _ _ _)
   | (with_reducible exact ih2 _ _ _ _ _ _)
   | (with_reducible exact LeO.refl _)
   | (with_reducible exact LeO.none _)
   | (with_reducible refine LeO.ite ?_ ?_)
   | (with_reducible refine LeO.bind ?_ (fun _ => ?_))
   | exact ih0 _ _ _
   | exact ih1 _ _ _ _ _
   | exact ih2 _ _ _ _ _ _
   | exact LeO.none _
   | refine LeO.ite ?_ ?_
   | refine LeO.bind ?_ (fun _ => ?_)
def spec_GoodClock.T6 : Bool × List (List Nat × List Nat) := (true, [([], []), ([0], [0]), ([1], [1]), ([2], [2]), ([3, 2], [3]), ([4], [4]), ([5, 4], [4, 5]), ([6, 4, 4], [4, 6]), ([7], [7]), ([8, 7], [7, 8]), ([7], [7]), ([10, 7], [7, 10]), ([9, 11, 7], [7, 9, 11]), ([12, 7], [7, 12]), ([13, 7], [7, 13]), ([7], [7]), ([15, 7], [7, 15]), ([14, 16, 7], [7, 14, 16]), ([7, 17, 4], [4, 7, 17]), ([4, 18], [4, 18]), ([19, 7], [19]), ([20], [20]), ([21, 20], [20, 21]), ([20], [20]), ([23, 20], [20, 23]), ([24, 20], [20, 24]), ([22, 25, 20, 20], [20, 22, 25]), ([26, 20], [20, 26]), ([20, 27], [20, 27]), ([28, 26], [28]), ([29], [29]), ([30, 29], [29, 30]), ([31, 29, 29], [29, 31]), ([32, 29], [29, 32]), ([29, 33], [29, 33]), ([34, 32], [34]), ([35], [35]), ([36, 35], [35, 36]), ([37, 35, 35], [35, 37]), ([38, 35], [35, 38]), ([35, 39], [35, 39]), ([40, 38], [40]), ([41], [41]), ([42, 41], [41, 42]), ([43, 41], [41, 43]), ([44, 41, 41], [41, 44]), ([45], [45]), ([46, 45], [45, 46]), ([47, 45], [45, 47]), ([45, 48, 41], [41, 45, 48]), ([41, 49], [41, 49])])
def spec_GoodClock.B6 : List Nat := [0, 1, 3, 7, 15, 31, 63, 127, 255, 511, 255, 1279, 4095, 8191, 16383, 255, 33023, 131071, 262143, 524287, 1048575, 2097151, 4194303, 2097151, 10485759, 27262975, 67108863, 134217727, 268435455, 536870911, 1073741823, 2147483647, 4294967295, 8589934591, 17179869183, 34359738367, 68719476735, 137438953471, 274877906943, 549755813887, 1099511627775, 2199023255551, 4398046511103, 8796093022207, 17592186044415, 35184372088831, 70368744177663, 140737488355327, 281474976710655, 562949953421311, 1125899906842623]
theorem spec_GoodClock.tab6 : rtab .any (opsOf Try.f126 6) = spec_GoodClock.T6 := by kernel_rfl
theorem spec_GoodClock.bits6 : waitsOk spec_GoodClock.T6.2 spec_GoodClock.B6 = true := by kernel_rfl
set_option maxHeartbeats 8000000 in
set_option maxRecDepth 100000 in
theorem spec_GoodClock.calls (k : Nat) (a0_0 : Int) (A0_1 : Option Addr) (c0_1 : Nat) (l0_1 : List (S178)) (r : Bool) (w : World) (hr0_1 : Kd.C k178 w A0_1 l0_1.length l0_1) (hc0_1 : l0_1.length ≤ c0_1) (h : spec_GoodClock.f k a0_0 l0_1 = some r) :
  Calls Try.prog 126 #[.agg #[.int .i64 a0_0, .slice A0_1 l0_1.length c0_1]] w fun e w' => e = .returned (.bool r) ∧ Below w.heap.size w w' := by
 have hu83 := Try.underlying83
 have hu178 := Try.underlying178
 have HR0_1 := Aside0.mk hr0_1
 have HC0_1 := Aside0.mk hc0_1
 clear hr0_1 hc0_1
 have HB := Aside0.mk (Below.refl w.heap.size w)
 have H : ((spec_l1In.f a0_0 0 100000).bind fun t104 => (if t104 = true then (spec_GoodClock.j0 k (decide ((l0_1.length : Int) > 20)) a0_0 l0_1) else (spec_GoodClock.j0 k true a0_0 l0_1))) = some r := h
 clear h
 have HC2 := Aside0.mk H
 clear H
 go_enter Try.func126, Try.ntmps126
 go_upto_region 1 with (first | ((with_reducible refine gate_dst (N := 1) rfl ?_); (try (refine gate_guard (by rfl) ?_; dsimp only)); refine box_event ?hg (N := 1) ?hd (cs := #[.int .i64 a0_0, .slice A0_1 l0_1.length c0_1]) (t := 83) ?hr ?_; (case hd => rfl); (case hg => rfl); (case hr => first | (go_simp; done) | (go_simp; rfl)); intro gb103 hg w3 hbox hb; have n0_ := Aside0.mk (below_step (by repeat (first | (with_reducible first | exact HB.out | apply below_alloc | apply pw_below_drewN | apply below_drew1) | exact HB.out)) hb); have n1_ := Aside0.mk (hbox); have n2_ := Aside0.mk ((by rw [hg]; exact (below_size (by repeat (first | (with_reducible first | exact HB.out | apply below_alloc | apply pw_below_drewN | apply below_drew1) | exact HB.out))) : w.heap.size ≤ gb103)); have n3_ := Aside0.mk ((by rw [hg]; exact (below_size (by repeat (first | (with_reducible first | exact HB.out | apply below_alloc | apply pw_below_drewN | apply below_drew1) | exact HB.out))) : w.heap.size ≤ gb103)); clear HB; have HB := n0_; have BK103 := n1_; have GW103 := n2_; have GE103 := n3_; clear n0_ n1_ n2_ n3_; clear hb hbox hg))
 (try simp only [Act.put, List.setIfInBounds_toArray, List.set_cons_zero, List.set_cons_succ])
 go_cut [14] (fun v14 wc => ∃ (kq : Nat) (x14_1 : Bool), v14 = .bool x14_1 ∧ Aside0 (spec_GoodClock.j0 kq x14_1 a0_0 l0_1 = some r) ∧ Aside0 (kq ≤ k) ∧ Aside0 (wc.heap[gb103]? = some (.cells #[.int .i64 a0_0, (.slice A0_1 l0_1.length c0_1)] 83 (0, 0))) ∧ Aside0 (Below w.heap.size w wc))
 case first =>
  have H := HC2.out
  clear HC2
  replace H := Option.bind_eq_some_iff.mp H
  obtain ⟨t104, A40, H⟩ := H
  replace H : (if t104 = true then (spec_GoodClock.j0 k (decide ((l0_1.length : Int) > 20)) a0_0 l0_1) else (spec_GoodClock.j0 k true a0_0 l0_1)) = some r := H
  have A4 := Aside0.mk A40
  clear A40
  by_cases c5 : t104 = true
  ·subst c5
   have H1 : (spec_GoodClock.j0 k (decide ((l0_1.length : Int) > 20)) a0_0 l0_1) = some r := by rw [if_pos rfl] at H; exact H
   clear H
   have H := H1
   clear H1
   have H' := Aside0.mk H
   clear H
   have hcz6_0 : w3.cell? ⟨gb103, 0, none⟩ = some (.int .i64 a0_0) := (blk_cell BK103.out 0).trans rfl
   have hcz6_1 : w3.cell? ⟨gb103, 1, none⟩ = some (.slice A0_1 l0_1.length c0_1) := (blk_cell BK103.out 1).trans rfl
   have hfz6_0 := blk_frozen BK103.out 0
   have hfz6_1 := blk_frozen BK103.out 1
   go_wp2_with (first | ((with_reducible refine gate_callee (f := 87) rfl ?_); refine goesL_ (some 7) rfl rfl Try.func87 (by kernel_rfl) rfl #[.int .i64 a0_0, .int .i64 0, .int .i64 100000] rfl (by (try simp only [List.map_toArray, List.map_cons, List.map_nil]); first | done | rfl | (simp only [List.length_drop, List.length_take]; rfl)) ?_; (with_reducible refine (spec_l1In.calls a0_0 0 100000 true _ A4.out).mono ?_); rintro e w' ⟨rfl, ⟨nd, rfl⟩⟩; refine ⟨_, rfl, ?_⟩))
   go_meet
   case rel => exact ⟨_, (decide ((l0_1.length : Int) > 20)), (by first | rfl | (simp; done) | (simp [*]; done) | exact not_isEmpty _ | exact (not_isEmpty _).symm | exact is_empty _ | exact (is_empty _).symm), H', ⟨by first | omega | exact Nat.le_refl _⟩, ⟨by (with_reducible repeat (first | refine blk_drewN ?_ _ | refine blk_drew ?_ | refine blk_alloc ?_ _)); exact BK103.out⟩, ⟨by repeat (first | (with_reducible first | exact HB.out | apply below_alloc | apply pw_below_drewN | apply below_drew1 | refine below_set ?_ GE103.out) | exact HB.out)⟩⟩
  ·replace c5 := Bool.eq_false_iff.mpr c5
   subst c5
   have H1 : (spec_GoodClock.j0 k true a0_0 l0_1) = some r := by rw [if_neg (show ¬ (false = true) by decide)] at H; exact H
   clear H
   have H := H1
   clear H1
   have H' := Aside0.mk H
   clear H
   have hcz7_0 : w3.cell? ⟨gb103, 0, none⟩ = some (.int .i64 a0_0) := (blk_cell BK103.out 0).trans rfl
   have hcz7_1 : w3.cell? ⟨gb103, 1, none⟩ = some (.slice A0_1 l0_1.length c0_1) := (blk_cell BK103.out 1).trans rfl
   have hfz7_0 := blk_frozen BK103.out 0
   have hfz7_1 := blk_frozen BK103.out 1
   go_wp2_with (first | ((with_reducible refine gate_callee (f := 87) rfl ?_); refine goesL_ (some 7) rfl rfl Try.func87 (by kernel_rfl) rfl #[.int .i64 a0_0, .int .i64 0, .int .i64 100000] rfl (by (try simp only [List.map_toArray, List.map_cons, List.map_nil]); first | done | rfl | (simp only [List.length_drop, List.length_take]; rfl)) ?_; (with_reducible refine (spec_l1In.calls a0_0 0 100000 false _ A4.out).mono ?_); rintro e w' ⟨rfl, ⟨nd, rfl⟩⟩; refine ⟨_, rfl, ?_⟩))
   go_meet
   case rel => exact ⟨_, (true), (by first | rfl | (simp; done) | (simp [*]; done) | exact not_isEmpty _ | exact (not_isEmpty _).symm | exact is_empty _ | exact (is_empty _).symm), H', ⟨by first | omega | exact Nat.le_refl _⟩, ⟨by (with_reducible repeat (first | refine blk_drewN ?_ _ | refine blk_drew ?_ | refine blk_alloc ?_ _)); exact BK103.out⟩, ⟨by repeat (first | (with_reducible first | exact HB.out | apply below_alloc | apply pw_below_drewN | apply below_drew1 | refine below_set ?_ GE103.out) | exact HB.out)⟩⟩
 case rest =>
  clear HC2
  try clear c1
  try clear p2
  try clear c5
  try clear hcz6_0
  try clear hcz6_1
  try clear hcz7_0
  try clear hcz7_1
  try clear hfz6_0
  try clear hfz6_1
  try clear hfz7_0
  try clear hfz7_1
  obtain ⟨kq, x14_1, rfl, HA, HJ1, BK103, HB⟩ := hcut
  cases kq with
  | zero => exact absurd HA.out (by simp [spec_GoodClock.j0])
  | succ kj1 =>
   have H := HA.out
   clear HA
   simp only [spec_GoodClock.j0] at H
   by_cases c8 : x14_1 = true
   ·subst c8
    have H1 : (some false) = some r := by rw [if_pos rfl] at H; exact H
    clear H
    have H := H1
    clear H1
    obtain rfl := Option.some.inj H
    go_wp2
    go_ret
    exact ⟨by first | rfl | (simp [errW_none, errW_some] <;> rfl) | (simp [*, errW_none, errW_some] <;> rfl), by repeat (first | (with_reducible first | exact HB.out | apply below_alloc | apply pw_below_drewN | apply below_drew1 | refine below_set ?_ GE103.out) | exact HB.out)⟩
   ·replace c8 := Bool.eq_false_iff.mpr c8
    subst c8
    have H1 : (spec_GoodClock.l0 kj1 l0_1 (l0_1.length : Int) 0 a0_0 l0_1) = some r := by rw [if_neg (show ¬ (false = true) by decide)] at H; exact H
    clear H
    have H := H1
    clear H1
    have H' := Aside0.mk H
    clear H
    have hcz9_0 : wc.cell? ⟨gb103, 0, none⟩ = some (.int .i64 a0_0) := (blk_cell BK103.out 0).trans rfl
    have hcz9_1 : wc.cell? ⟨gb103, 1, none⟩ = some (.slice A0_1 l0_1.length c0_1) := (blk_cell BK103.out 1).trans rfl
    have hfz9_0 := blk_frozen BK103.out 0
    have hfz9_1 := blk_frozen BK103.out 1
    go_wp2
    go_loopg [18] kj1 (fun kq v18 w' => ∃ (x18_2 : Int), v18 = .int .i64 x18_2 ∧ Aside0 (spec_GoodClock.l0 kq l0_1 (l0_1.length : Int) x18_2 a0_0 l0_1 = some r) ∧ Aside0 (kq ≤ kj1) ∧ Aside0 (w'.heap[gb103]? = some (.cells #[.int .i64 a0_0, (.slice A0_1 l0_1.length c0_1)] 83 (0, 0))) ∧ Aside0 (Below w.heap.size w w'))
    case atStart => exact ⟨(0), (by first | rfl | (simp; done) | (simp [*]; done) | exact not_isEmpty _ | exact (not_isEmpty _).symm | exact is_empty _ | exact (is_empty _).symm), H', ⟨Nat.le_refl _⟩, ⟨by (with_reducible repeat (first | refine blk_drewN ?_ _ | refine blk_drew ?_ | refine blk_alloc ?_ _)); exact BK103.out⟩, ⟨by repeat (first | (with_reducible first | exact HB.out | apply below_alloc | apply pw_below_drewN | apply below_drew1 | refine below_set ?_ GE103.out) | exact HB.out)⟩⟩
    case round =>
     clear H'
     try clear c1
     try clear p2
     try clear c5
     try clear c8
     try clear hcz6_0
     try clear hcz6_1
     try clear hcz7_0
     try clear hcz7_1
     try clear hcz9_0
     try clear hcz9_1
     try clear hfz6_0
     try clear hfz6_1
     try clear hfz7_0
     try clear hfz7_1
     try clear hfz9_0
     try clear hfz9_1
     try clear p2
     obtain ⟨x18_2, rfl, HA, HK2, BK103, HB⟩ := hrel
     cases gk with
     | zero => exact absurd HA.out (by simp [spec_GoodClock.l0])
     | succ k2 =>
      have H := HA.out
      clear HA
      simp only [spec_GoodClock.l0] at H
      by_cases c10 : x18_2 < (l0_1.length : Int)
      ·rw [if_pos c10] at H
       have c10b0 : decide (x18_2 < (l0_1.length : Int)) = true := decide_eq_true c10
       clear c10
       by_cases c11 : 0 ≤ x18_2
       ·rw [if_pos c11] at H
        have c11b0 : decide (0 ≤ x18_2) = true := decide_eq_true c11
        clear c11
        by_cases c12 : x18_2 < (l0_1.length : Int)
        ·rw [if_pos c12] at H
         have c12b0 : decide (x18_2 < (l0_1.length : Int)) = true := decide_eq_true c12
         clear c12
         have HC13 := Aside0.mk H
         clear H
         have p105 : 0 ≤ (x18_2 : Int) := of_decide_eq_true (by first | (with_reducible assumption) | assumption)
         have q105 : x18_2 < (l0_1.length : Int) := of_decide_eq_true (by first | (with_reducible assumption) | assumption)
         obtain ⟨ad105, e105, hx105_0, hx105_1, hx105_2, hx105_3⟩ := at_T178 HR0_1.out x18_2 p105 q105
         cases e105
         replace hx105_0 := (HB.out.cell (World.block_lt_of_cell? w _ hx105_0)).trans hx105_0
         replace hx105_1 := (HB.out.cell (World.block_lt_of_cell? w _ hx105_1)).trans hx105_1
         replace hx105_2 := (HB.out.cell (World.block_lt_of_cell? w _ hx105_2)).trans hx105_2
         replace hx105_3 := (HB.out.cell (World.block_lt_of_cell? w _ hx105_3)).trans hx105_3
         replace p105 := eq_true p105
         replace q105 := eq_true q105
         go_upto_region 6 with (first | ((with_reducible refine gate_dst (N := 4) rfl ?_); (try (refine gate_guard (by rfl) ?_; dsimp only)); refine box_event ?hg (N := 4) ?hd (cs := #[.int .i64 0, .int .i64 0, .int .i64 0, .int .i64 0]) (t := 178) ?hr ?_; (case hd => rfl); (case hg => rfl); (case hr => first | (go_simp; done) | (go_simp; rfl)); intro gb106 hg w14 hbox hb; have n0_ := Aside0.mk (blk_below (g := gb103) (o := .cells #[.int .i64 a0_0, .slice (some ad105) l0_1.length c0_1] 83 (0, 0)) (by (with_reducible repeat (first | refine blk_drewN ?_ _ | refine blk_drew ?_ | refine blk_alloc ?_ _)); exact BK103.out) hb); have n1_ := Aside0.mk (below_step (by repeat (first | (with_reducible first | exact HB.out | apply below_alloc | apply pw_below_drewN | apply below_drew1 | refine below_set ?_ GE103.out) | exact HB.out)) hb); have n2_ := Aside0.mk (hbox); have n3_ := Aside0.mk ((by rw [hg]; exact (below_size (by repeat (first | (with_reducible first | exact HB.out | apply below_alloc | apply pw_below_drewN | apply below_drew1 | refine below_set ?_ GE103.out) | exact HB.out))) : w.heap.size ≤ gb106)); have n4_ := Aside0.mk ((by rw [hg]; exact (below_size (by repeat (first | (with_reducible first | exact HB.out | apply below_alloc | apply pw_below_drewN | apply below_drew1 | refine below_set ?_ GE103.out) | exact HB.out))) : w.heap.size ≤ gb106)); have n5_ := Aside0.mk ((by rw [hg]; exact Nat.ne_of_lt (blk_lt (g := gb103) (o := .cells #[.int .i64 a0_0, .slice (some ad105) l0_1.length c0_1] 83 (0, 0)) (by (with_reducible repeat (first | refine blk_drewN ?_ _ | refine blk_drew ?_ | refine blk_alloc ?_ _)); exact BK103.out)) : gb103 ≠ gb106)); have n6_ := Aside0.mk ((by rw [hg]; exact Nat.ne_of_gt (blk_lt (g := gb103) (o := .cells #[.int .i64 a0_0, .slice (some ad105) l0_1.length c0_1] 83 (0, 0)) (by (with_reducible repeat (first | refine blk_drewN ?_ _ | refine blk_drew ?_ | refine blk_alloc ?_ _)); exact BK103.out)) : gb106 ≠ gb103)); clear BK103; clear HB; have BK103 := n0_; have HB := n1_; have BK106 := n2_; have GW106 := n3_; have GE106 := n4_; have NB103_106 := n5_; have NB106_103 := n6_; clear n0_ n1_ n2_ n3_ n4_ n5_ n6_; clear hb hbox hg; have hnb15 := NB106_103.out; have hnc15 := NB103_106.out; have hcz16_0 : w14.cell? ⟨gb106, 0, none⟩ = some (.int .i64 0) := (blk_cell BK106.out 0).trans rfl; have hcz16_1 : w14.cell? ⟨gb106, 1, none⟩ = some (.int .i64 0) := (blk_cell BK106.out 1).trans rfl; have hcz16_2 : w14.cell? ⟨gb106, 2, none⟩ = some (.int .i64 0) := (blk_cell BK106.out 2).trans rfl; have hcz16_3 : w14.cell? ⟨gb106, 3, none⟩ = some (.int .i64 0) := (blk_cell BK106.out 3).trans rfl; have hfz16_0 := blk_frozen BK106.out 0; have hfz16_1 := blk_frozen BK106.out 1; have hfz16_2 := blk_frozen BK106.out 2; have hfz16_3 := blk_frozen BK106.out 3))
         (try simp only [Act.put, List.setIfInBounds_toArray, List.set_cons_zero, List.set_cons_succ])
         go_cut [73] (fun v73 wc => ∃ (kq : Nat) (x73_12 : Bool), v73 = .bool x73_12 ∧ Aside0 (spec_GoodClock.j2 kq l0_1 (l0_1.length : Int) x18_2 x73_12 a0_0 l0_1 = some r) ∧ Aside0 (kq ≤ k2) ∧ Aside0 (wc.heap[gb103]? = some (.cells #[.int .i64 a0_0, (.slice (some ad105) l0_1.length c0_1)] 83 (0, 0))) ∧ Aside0 (wc.heap[gb106]? = some (.cells #[.int .i64 ((rd_T178 l0_1 x18_2).f0), .int .i64 ((rd_T178 l0_1 x18_2).f1), .int .i64 ((rd_T178 l0_1 x18_2).f2), .int .i64 ((rd_T178 l0_1 x18_2).f3)] 178 (0, 0))) ∧ Aside0 (Below w.heap.size w wc))
         case first =>
          have H := HC13.out
          clear HC13
          replace H := Option.bind_eq_some_iff.mp H
          obtain ⟨t107, A170, H⟩ := H
          replace H : (if t107 = true then (if x18_2 > 0 then (if 0 ≤ (wrap64 (x18_2 - 1)) then (if (wrap64 (x18_2 - 1)) < (l0_1.length : Int) then (if ((rd_T178 l0_1 (wrap64 (x18_2 - 1))).f0) ≥ ((rd_T178 l0_1 x18_2).f0) then (spec_GoodClock.j2 k2 l0_1 (l0_1.length : Int) x18_2 true a0_0 l0_1) else ((spec_l1In.f ((rd_T178 l0_1 x18_2).f1) (wrap64 (a0_0 + 1)) 200000).bind fun t109 => (if t109 = true then ((spec_l1In.f ((rd_T178 l0_1 x18_2).f2) 0 100000).bind fun t110 => (if t110 = true then ((spec_l1In.f ((rd_T178 l0_1 x18_2).f3) 1 1000).bind fun t111 => (if t111 = true then (if ((rd_T178 l0_1 x18_2).f2) = 0 then (spec_GoodClock.j2 k2 l0_1 (l0_1.length : Int) x18_2 (((rd_T178 l0_1 x18_2).f3) != 1) a0_0 l0_1) else (spec_GoodClock.j2 k2 l0_1 (l0_1.length : Int) x18_2 false a0_0 l0_1)) else (spec_GoodClock.j2 k2 l0_1 (l0_1.length : Int) x18_2 true a0_0 l0_1))) else (spec_GoodClock.j2 k2 l0_1 (l0_1.length : Int) x18_2 true a0_0 l0_1))) else (spec_GoodClock.j2 k2 l0_1 (l0_1.length : Int) x18_2 true a0_0 l0_1)))) else (none)) else (none)) else ((spec_l1In.f ((rd_T178 l0_1 x18_2).f1) (wrap64 (a0_0 + 1)) 200000).bind fun t112 => (if t112 = true then ((spec_l1In.f ((rd_T178 l0_1 x18_2).f2) 0 100000).bind fun t113 => (if t113 = true then ((spec_l1In.f ((rd_T178 l0_1 x18_2).f3) 1 1000).bind fun t114 => (if t114 = true then (if ((rd_T178 l0_1 x18_2).f2) = 0 then (spec_GoodClock.j2 k2 l0_1 (l0_1.length : Int) x18_2 (((rd_T178 l0_1 x18_2).f3) != 1) a0_0 l0_1) else (spec_GoodClock.j2 k2 l0_1 (l0_1.length : Int) x18_2 false a0_0 l0_1)) else (spec_GoodClock.j2 k2 l0_1 (l0_1.length : Int) x18_2 true a0_0 l0_1))) else (spec_GoodClock.j2 k2 l0_1 (l0_1.length : Int) x18_2 true a0_0 l0_1))) else (spec_GoodClock.j2 k2 l0_1 (l0_1.length : Int) x18_2 true a0_0 l0_1)))) else (spec_GoodClock.j2 k2 l0_1 (l0_1.length : Int) x18_2 true a0_0 l0_1)) = some r := H
          have A17 := Aside0.mk A170
          clear A170
          by_cases c18 : t107 = true
          ·subst c18
           have H1 : (if x18_2 > 0 then (if 0 ≤ (wrap64 (x18_2 - 1)) then (if (wrap64 (x18_2 - 1)) < (l0_1.length : Int) then (if ((rd_T178 l0_1 (wrap64 (x18_2 - 1))).f0) ≥ ((rd_T178 l0_1 x18_2).f0) then (spec_GoodClock.j2 k2 l0_1 (l0_1.length : Int) x18_2 true a0_0 l0_1) else ((spec_l1In.f ((rd_T178 l0_1 x18_2).f1) (wrap64 (a0_0 + 1)) 200000).bind fun t109 => (if t109 = true then ((spec_l1In.f ((rd_T178 l0_1 x18_2).f2) 0 100000).bind fun t110 => (if t110 = true then ((spec_l1In.f ((rd_T178 l0_1 x18_2).f3) 1 1000).bind fun t111 => (if t111 = true then (if ((rd_T178 l0_1 x18_2).f2) = 0 then (spec_GoodClock.j2 k2 l0_1 (l0_1.length : Int) x18_2 (((rd_T178 l0_1 x18_2).f3) != 1) a0_0 l0_1) else (spec_GoodClock.j2 k2 l0_1 (l0_1.length : Int) x18_2 false a0_0 l0_1)) else (spec_GoodClock.j2 k2 l0_1 (l0_1.length : Int) x18_2 true a0_0 l0_1))) else (spec_GoodClock.j2 k2 l0_1 (l0_1.length : Int) x18_2 true a0_0 l0_1))) else (spec_GoodClock.j2 k2 l0_1 (l0_1.length : Int) x18_2 true a0_0 l0_1)))) else (none)) else (none)) else ((spec_l1In.f ((rd_T178 l0_1 x18_2).f1) (wrap64 (a0_0 + 1)) 200000).bind fun t112 => (if t112 = true then ((spec_l1In.f ((rd_T178 l0_1 x18_2).f2) 0 100000).bind fun t113 => (if t113 = true then ((spec_l1In.f ((rd_T178 l0_1 x18_2).f3) 1 1000).bind fun t114 => (if t114 = true then (if ((rd_T178 l0_1 x18_2).f2) = 0 then (spec_GoodClock.j2 k2 l0_1 (l0_1.length : Int) x18_2 (((rd_T178 l0_1 x18_2).f3) != 1) a0_0 l0_1) else (spec_GoodClock.j2 k2 l0_1 (l0_1.length : Int) x18_2 false a0_0 l0_1)) else (spec_GoodClock.j2 k2 l0_1 (l0_1.length : Int) x18_2 true a0_0 l0_1))) else (spec_GoodClock.j2 k2 l0_1 (l0_1.length : Int) x18_2 true a0_0 l0_1))) else (spec_GoodClock.j2 k2 l0_1 (l0_1.length : Int) x18_2 true a0_0 l0_1)))) = some r := by rw [if_pos rfl] at H; exact H
           clear H
           have H := H1
           clear H1
           by_cases c19 : x18_2 > 0
           ·rw [if_pos c19] at H
            have c19b0 : decide (0 < x18_2) = true := decide_eq_true c19
            clear c19
            (first | rw [c19b0] | (simp only [i64_w, i32_w]; rw [c19b0]) | skip)
            obtain ⟨ji20, hji20⟩ : ∃ j_ : Int, (wrap64 (x18_2 - 1)) = j_ := ⟨_, rfl⟩
            replace H : (if 0 ≤ (ji20) then (if (ji20) < (l0_1.length : Int) then (if ((rd_T178 l0_1 (ji20)).f0) ≥ ((rd_T178 l0_1 x18_2).f0) then (spec_GoodClock.j2 k2 l0_1 (l0_1.length : Int) x18_2 true a0_0 l0_1) else ((spec_l1In.f ((rd_T178 l0_1 x18_2).f1) (wrap64 (a0_0 + 1)) 200000).bind fun t109 => (if t109 = true then ((spec_l1In.f ((rd_T178 l0_1 x18_2).f2) 0 100000).bind fun t110 => (if t110 = true then ((spec_l1In.f ((rd_T178 l0_1 x18_2).f3) 1 1000).bind fun t111 => (if t111 = true then (if ((rd_T178 l0_1 x18_2).f2) = 0 then (spec_GoodClock.j2 k2 l0_1 (l0_1.length : Int) x18_2 (((rd_T178 l0_1 x18_2).f3) != 1) a0_0 l0_1) else (spec_GoodClock.j2 k2 l0_1 (l0_1.length : Int) x18_2 false a0_0 l0_1)) else (spec_GoodClock.j2 k2 l0_1 (l0_1.length : Int) x18_2 true a0_0 l0_1))) else (spec_GoodClock.j2 k2 l0_1 (l0_1.length : Int) x18_2 true a0_0 l0_1))) else (spec_GoodClock.j2 k2 l0_1 (l0_1.length : Int) x18_2 true a0_0 l0_1)))) else (none)) else (none)) = some r := by first | (rw [hji20] at H; exact H) | (simp only [hji20] at H ⊢; exact H)
            (try rw [hji20] at A17)
            have hji20w : (IntKind.i64.wrap (x18_2 - 1)) = ji20 := (i64_w _).trans hji20
            by_cases c21 : 0 ≤ (ji20)
            ·rw [if_pos c21] at H
             have c21b0 : decide (0 ≤ (ji20)) = true := decide_eq_true c21
             clear c21
             by_cases c22 : (ji20) < (l0_1.length : Int)
             ·rw [if_pos c22] at H
              have c22b0 : decide ((ji20) < (l0_1.length : Int)) = true := decide_eq_true c22
              clear c22
              by_cases c23 : ((rd_T178 l0_1 (ji20)).f0) ≥ ((rd_T178 l0_1 x18_2).f0)
              ·rw [if_pos c23] at H
               have c23b0 : decide (((rd_T178 l0_1 x18_2).f0) ≤ ((rd_T178 l0_1 (ji20)).f0)) = true := decide_eq_true c23
               clear c23
               have H' := Aside0.mk H
               clear H
               try go_wp2
               have n0_ : Aside0 (((((w14.setCell ⟨gb106, 0, none⟩ (.int .i64 ((rd_T178 l0_1 x18_2).f0))).setCell ⟨gb106, 1, none⟩ (.int .i64 ((rd_T178 l0_1 x18_2).f1))).setCell ⟨gb106, 2, none⟩ (.int .i64 ((rd_T178 l0_1 x18_2).f2))).setCell ⟨gb106, 3, none⟩ (.int .i64 ((rd_T178 l0_1 x18_2).f3))).heap[gb103]? = some (.cells #[.int .i64 a0_0, .slice (some ad105) l0_1.length c0_1] 83 (0, 0))) := ⟨by (with_reducible repeat (first | refine blk_drewN ?_ _ | refine blk_drew ?_ | refine blk_alloc ?_ _)); refine blk_far ?_ NB103_106.out _; (with_reducible repeat (first | refine blk_drewN ?_ _ | refine blk_drew ?_ | refine blk_alloc ?_ _)); refine blk_far ?_ NB103_106.out _; (with_reducible repeat (first | refine blk_drewN ?_ _ | refine blk_drew ?_ | refine blk_alloc ?_ _)); refine blk_far ?_ NB103_106.out _; (with_reducible repeat (first | refine blk_drewN ?_ _ | refine blk_drew ?_ | refine blk_alloc ?_ _)); refine blk_far ?_ NB103_106.out _; (with_reducible repeat (first | refine blk_drewN ?_ _ | refine blk_drew ?_ | refine blk_alloc ?_ _)); exact BK103.out⟩
               have n1_ : Aside0 (((((w14.setCell ⟨gb106, 0, none⟩ (.int .i64 ((rd_T178 l0_1 x18_2).f0))).setCell ⟨gb106, 1, none⟩ (.int .i64 ((rd_T178 l0_1 x18_2).f1))).setCell ⟨gb106, 2, none⟩ (.int .i64 ((rd_T178 l0_1 x18_2).f2))).setCell ⟨gb106, 3, none⟩ (.int .i64 ((rd_T178 l0_1 x18_2).f3))).heap[gb106]? = some (.cells #[.int .i64 ((rd_T178 l0_1 x18_2).f0), .int .i64 ((rd_T178 l0_1 x18_2).f1), .int .i64 ((rd_T178 l0_1 x18_2).f2), .int .i64 ((rd_T178 l0_1 x18_2).f3)] 178 (0, 0))) := ⟨by (with_reducible repeat (first | refine blk_drewN ?_ _ | refine blk_drew ?_ | refine blk_alloc ?_ _)); refine blk_put (cs := #[.int .i64 ((rd_T178 l0_1 x18_2).f0), .int .i64 ((rd_T178 l0_1 x18_2).f1), .int .i64 ((rd_T178 l0_1 x18_2).f2), .int .i64 0]) ?_ 3 _ rfl; (with_reducible repeat (first | refine blk_drewN ?_ _ | refine blk_drew ?_ | refine blk_alloc ?_ _)); refine blk_put (cs := #[.int .i64 ((rd_T178 l0_1 x18_2).f0), .int .i64 ((rd_T178 l0_1 x18_2).f1), .int .i64 0, .int .i64 0]) ?_ 2 _ rfl; (with_reducible repeat (first | refine blk_drewN ?_ _ | refine blk_drew ?_ | refine blk_alloc ?_ _)); refine blk_put (cs := #[.int .i64 ((rd_T178 l0_1 x18_2).f0), .int .i64 0, .int .i64 0, .int .i64 0]) ?_ 1 _ rfl; (with_reducible repeat (first | refine blk_drewN ?_ _ | refine blk_drew ?_ | refine blk_alloc ?_ _)); refine blk_put (cs := #[.int .i64 0, .int .i64 0, .int .i64 0, .int .i64 0]) ?_ 0 _ rfl; (with_reducible repeat (first | refine blk_drewN ?_ _ | refine blk_drew ?_ | refine blk_alloc ?_ _)); exact BK106.out⟩
               have n2_ : Aside0 (Below w.heap.size w ((((w14.setCell ⟨gb106, 0, none⟩ (.int .i64 ((rd_T178 l0_1 x18_2).f0))).setCell ⟨gb106, 1, none⟩ (.int .i64 ((rd_T178 l0_1 x18_2).f1))).setCell ⟨gb106, 2, none⟩ (.int .i64 ((rd_T178 l0_1 x18_2).f2))).setCell ⟨gb106, 3, none⟩ (.int .i64 ((rd_T178 l0_1 x18_2).f3)))) := ⟨by repeat (first | (with_reducible first | exact HB.out | apply below_alloc | apply pw_below_drewN | apply below_drew1 | refine below_set ?_ GE103.out | refine below_set ?_ GE106.out) | exact HB.out)⟩
               (try clear BK103)
               (try clear BK106)
               (try clear HB)
               generalize ((((w14.setCell ⟨gb106, 0, none⟩ (.int .i64 ((rd_T178 l0_1 x18_2).f0))).setCell ⟨gb106, 1, none⟩ (.int .i64 ((rd_T178 l0_1 x18_2).f1))).setCell ⟨gb106, 2, none⟩ (.int .i64 ((rd_T178 l0_1 x18_2).f2))).setCell ⟨gb106, 3, none⟩ (.int .i64 ((rd_T178 l0_1 x18_2).f3))) = w24 at n0_ n1_ n2_ ⊢
               have BK103 := n0_
               have BK106 := n1_
               have HB := n2_
               clear n0_ n1_ n2_
               have n0_ := Aside0.mk (blk_drew BK103.out)
               have n1_ := Aside0.mk (blk_drew BK106.out)
               have n2_ := Aside0.mk (below_drew1 HB.out)
               clear BK103
               clear BK106
               clear HB
               have BK103 := n0_
               have BK106 := n1_
               have HB := n2_
               clear n0_ n1_ n2_
               have p108 : 0 ≤ ((ji20) : Int) := of_decide_eq_true (by first | (with_reducible assumption) | assumption)
               have q108 : (ji20) < (l0_1.length : Int) := of_decide_eq_true (by first | (with_reducible assumption) | assumption)
               obtain ⟨ad108, e108, hx108_0, hx108_1, hx108_2, hx108_3⟩ := at_T178 HR0_1.out (ji20) p108 q108
               have hw108_3 := hx108_3
               have hw108_2 := hx108_2
               have hw108_1 := hx108_1
               have hw108_0 := hx108_0
               obtain rfl : ad105 = ad108 := (by injection e108)
               replace hx108_0 := (HB.out.cell (World.block_lt_of_cell? w _ hx108_0)).trans hx108_0
               replace hx108_1 := (HB.out.cell (World.block_lt_of_cell? w _ hx108_1)).trans hx108_1
               replace hx108_2 := (HB.out.cell (World.block_lt_of_cell? w _ hx108_2)).trans hx108_2
               replace hx108_3 := (HB.out.cell (World.block_lt_of_cell? w _ hx108_3)).trans hx108_3
               replace p108 := eq_true p108
               replace q108 := eq_true q108
               refine start_ (n := 51) (S := fun w' => w'.cell? ⟨gb106, 0, none⟩ = some (.int .i64 ((rd_T178 l0_1 x18_2).f0)) ∧ w'.cell? ⟨gb106, 1, none⟩ = some (.int .i64 ((rd_T178 l0_1 x18_2).f1)) ∧ w'.cell? ⟨gb106, 2, none⟩ = some (.int .i64 ((rd_T178 l0_1 x18_2).f2)) ∧ w'.cell? ⟨gb106, 3, none⟩ = some (.int .i64 ((rd_T178 l0_1 x18_2).f3)) ∧ w'.cell? ⟨gb103, 0, none⟩ = some (.int .i64 a0_0) ∧ w'.cell? ⟨gb103, 1, none⟩ = some (.slice (some ad105) l0_1.length c0_1) ∧ w'.cell? (ad105.add (((ji20)).toNat * 4)) = some (.int .i64 ((rd_T178 l0_1 (ji20)).f0)) ∧ w'.cell? ⟨(ad105.add (((ji20)).toNat * 4)).block, (ad105.add (((ji20)).toNat * 4)).off + 1, none⟩ = some (.int .i64 ((rd_T178 l0_1 (ji20)).f1)) ∧ w'.cell? ⟨(ad105.add (((ji20)).toNat * 4)).block, (ad105.add (((ji20)).toNat * 4)).off + 2, none⟩ = some (.int .i64 ((rd_T178 l0_1 (ji20)).f2)) ∧ w'.cell? ⟨(ad105.add (((ji20)).toNat * 4)).block, (ad105.add (((ji20)).toNat * 4)).off + 3, none⟩ = some (.int .i64 ((rd_T178 l0_1 (ji20)).f3))) (ds := []) #[false, false, false, false, false, false, false, false, false, false, false, false, false, false, false, false, false, false, false, false, false, false, false, false, false, false, false, false, false, false, false, false, false, false, false, false, false, false, false, false, false, false, false, false, false, false, false, false, false, false, false] (by kernel_rfl) rfl rfl ⟨(blk_cell BK106.out 0).trans rfl, (blk_cell BK106.out 1).trans rfl, (blk_cell BK106.out 2).trans rfl, (blk_cell BK106.out 3).trans rfl, (blk_cell BK103.out 0).trans rfl, (blk_cell BK103.out 1).trans rfl, ((HB.out.cell (World.block_lt_of_cell? w _ hw108_0)).trans hw108_0), ((HB.out.cell (World.block_lt_of_cell? w _ hw108_1)).trans hw108_1), ((HB.out.cell (World.block_lt_of_cell? w _ hw108_2)).trans hw108_2), ((HB.out.cell (World.block_lt_of_cell? w _ hw108_3)).trans hw108_3)⟩ (fun hHeld => ?_); refine with_tabW spec_GoodClock.tab6 spec_GoodClock.bits6 (fun HT_ HW_ => ?_)
               generalize w24.drew = w25 at BK103 BK106 HB hx108_0 hx108_1 hx108_2 hx108_3 hHeld ⊢
               refine pureA 0 23 (bz 51 1) rfl rfl (any_of HT_.out (by kernel_rfl)) ?_
               refine takeA 1 24 (bz 51 3) rfl rfl (take_ofW HT_.out HW_.out (by kernel_rfl)) hHeld (by rintro w' ⟨s0, s1, s2, s3, s4, s5, s6, s7, s8, s9⟩; go_simp; with_reducible rfl) ?_
               refine one_ (i := 2) (N := some 25) (bz 51 7) rfl rfl (one_of HT_.out (by kernel_rfl)) (by decide) (fun K hK => ?_)
               refine goes_ Try.func87 (by kernel_rfl) rfl #[.int .i64 ((rd_T178 l0_1 x18_2).f0), .int .i64 0, .int .i64 999] (by rfl) rfl rfl (by (try simp only [List.map_toArray, List.map_cons, List.map_nil]); first | done | rfl | (simp only [List.length_drop, List.length_take]; rfl)) ?_
               with_reducible refine (spec_l1In.calls ((rd_T178 l0_1 x18_2).f0) 0 999 true _ A17.out).mono ?_
               rintro e w' ⟨rfl, ⟨nd, rfl⟩⟩
               refine ⟨_, rfl, ?_⟩
               refine hK.out _ _ ⟨(blk_cell BK106.out 0).trans rfl, (blk_cell BK106.out 1).trans rfl, (blk_cell BK106.out 2).trans rfl, (blk_cell BK106.out 3).trans rfl, (blk_cell BK103.out 0).trans rfl, (blk_cell BK103.out 1).trans rfl, ((HB.out.cell (World.block_lt_of_cell? w _ hw108_0)).trans hw108_0), ((HB.out.cell (World.block_lt_of_cell? w _ hw108_1)).trans hw108_1), ((HB.out.cell (World.block_lt_of_cell? w _ hw108_2)).trans hw108_2), ((HB.out.cell (World.block_lt_of_cell? w _ hw108_3)).trans hw108_3)⟩ (fun hHeld => ?_)
               clear hK K
               refine norm_ (a' := ?_) ?_ ?_
               rotate_left
               ·show Act.put _ (some 25) _ = _
                simp only [Act.put, List.setIfInBounds_toArray, List.set_cons_zero, List.set_cons_succ, i64_w, i32_w]
                rfl
               refine pureA 3 26 (bz 51 15) rfl rfl (any_of HT_.out (by kernel_rfl)) ?_
               refine pureA 4 27 (bz 51 31) rfl rfl (any_of HT_.out (by kernel_rfl)) ?_
               refine pureA 5 28 (bz 51 63) rfl rfl (any_of HT_.out (by kernel_rfl)) ?_
               refine pureA 6 29 (bz 51 127) rfl rfl (any_of HT_.out (by kernel_rfl)) ?_
               refine pureA 7 30 (bz 51 255) rfl rfl (any_of HT_.out (by kernel_rfl)) ?_
               refine pureA 8 31 (bz 51 511) rfl rfl (any_of HT_.out (by kernel_rfl)) ?_
               refine pureA 10 33 (bz 51 1535) rfl rfl (any_of HT_.out (by kernel_rfl)) ?_
               refine pureA 11 34 (bz 51 3583) rfl rfl (any_of HT_.out (by kernel_rfl)) ?_
               refine pureA 15 38 (bz 51 36351) rfl rfl (any_of HT_.out (by kernel_rfl)) ?_
               refine takeA 9 32 (bz 51 36863) rfl rfl (take_ofW HT_.out HW_.out (by kernel_rfl)) hHeld (by rintro w' ⟨s0, s1, s2, s3, s4, s5, s6, s7, s8, s9⟩; go_simp; with_reducible rfl) ?_
               refine pureA 12 35 (bz 51 40959) rfl rfl (any_of HT_.out (by kernel_rfl)) ?_
               refine pureA 13 36 (bz 51 49151) rfl rfl (any_of HT_.out (by kernel_rfl)) ?_
               refine takeA 14 37 (bz 51 65535) rfl rfl (take_ofW HT_.out HW_.out (by kernel_rfl)) hHeld (by rintro w' ⟨s0, s1, s2, s3, s4, s5, s6, s7, s8, s9⟩; go_simp; with_reducible rfl) ?_
               refine takeA 16 39 (bz 51 131071) rfl rfl (take_ofW HT_.out HW_.out (by kernel_rfl)) hHeld (by rintro w' ⟨s0, s1, s2, s3, s4, s5, s6, s7, s8, s9⟩; go_simp; with_reducible rfl) ?_
               refine pureA 17 40 (bz 51 262143) rfl rfl (any_of HT_.out (by kernel_rfl)) ?_
               refine pureA 18 41 (bz 51 524287) rfl rfl (any_of HT_.out (by kernel_rfl)) ?_
               refine pureA 19 42 (bz 51 1048575) rfl rfl (any_of HT_.out (by kernel_rfl)) ?_
               refine pureA 20 43 (bz 51 2097151) rfl rfl (any_of HT_.out (by kernel_rfl)) ?_
               refine pureU 21 44 (bz 51 4194303) rfl rfl (any_of HT_.out (by kernel_rfl)) ?_
               refine pureU 22 45 (bz 51 8388607) rfl rfl (any_of HT_.out (by kernel_rfl)) ?_
               refine pureU 23 46 (bz 51 16777215) rfl rfl (any_of HT_.out (by kernel_rfl)) ?_
               refine pureU 24 47 (bz 51 33554431) rfl rfl (any_of HT_.out (by kernel_rfl)) ?_
               refine pureU 25 48 (bz 51 67108863) rfl rfl (any_of HT_.out (by kernel_rfl)) ?_
               refine pureU 26 49 (bz 51 134217727) rfl rfl (any_of HT_.out (by kernel_rfl)) ?_
               refine pureU 27 50 (bz 51 268435455) rfl rfl (any_of HT_.out (by kernel_rfl)) ?_
               refine pureA 28 51 (bz 51 536870911) rfl rfl (any_of HT_.out (by kernel_rfl)) ?_
               refine pureA 29 52 (bz 51 1073741823) rfl rfl (any_of HT_.out (by kernel_rfl)) ?_
               refine pureU 30 53 (bz 51 2147483647) rfl rfl (any_of HT_.out (by kernel_rfl)) ?_
               refine pureU 31 54 (bz 51 4294967295) rfl rfl (any_of HT_.out (by kernel_rfl)) ?_
               refine pureU 32 55 (bz 51 8589934591) rfl rfl (any_of HT_.out (by kernel_rfl)) ?_
               refine pureU 33 56 (bz 51 17179869183) rfl rfl (any_of HT_.out (by kernel_rfl)) ?_
               refine pureA 34 57 (bz 51 34359738367) rfl rfl (any_of HT_.out (by kernel_rfl)) ?_
               refine pureA 35 58 (bz 51 68719476735) rfl rfl (any_of HT_.out (by kernel_rfl)) ?_
               refine pureU 36 59 (bz 51 137438953471) rfl rfl (any_of HT_.out (by kernel_rfl)) ?_
               refine pureU 37 60 (bz 51 274877906943) rfl rfl (any_of HT_.out (by kernel_rfl)) ?_
               refine pureU 38 61 (bz 51 549755813887) rfl rfl (any_of HT_.out (by kernel_rfl)) ?_
               refine pureU 39 62 (bz 51 1099511627775) rfl rfl (any_of HT_.out (by kernel_rfl)) ?_
               refine pureA 40 63 (bz 51 2199023255551) rfl rfl (any_of HT_.out (by kernel_rfl)) ?_
               refine pureA 41 64 (bz 51 4398046511103) rfl rfl (any_of HT_.out (by kernel_rfl)) ?_
               refine pureU 42 65 (bz 51 8796093022207) rfl rfl (any_of HT_.out (by kernel_rfl)) ?_
               refine pureU 43 66 (bz 51 17592186044415) rfl rfl (any_of HT_.out (by kernel_rfl)) ?_
               refine pureU 44 67 (bz 51 35184372088831) rfl rfl (any_of HT_.out (by kernel_rfl)) ?_
               refine pureU 45 68 (bz 51 70368744177663) rfl rfl (any_of HT_.out (by kernel_rfl)) ?_
               refine pureU 46 69 (bz 51 140737488355327) rfl rfl (any_of HT_.out (by kernel_rfl)) ?_
               refine pureU 47 70 (bz 51 281474976710655) rfl rfl (any_of HT_.out (by kernel_rfl)) ?_
               refine pureU 48 71 (bz 51 562949953421311) rfl rfl (any_of HT_.out (by kernel_rfl)) ?_
               refine pureU 49 72 (bz 51 1125899906842623) rfl rfl (any_of HT_.out (by kernel_rfl)) ?_
               refine pureA 50 73 (bz 51 2251799813685247) rfl rfl (any_of HT_.out (by kernel_rfl)) ?_
               refine done_ (done_of HT_.out (by kernel_rfl)) ?_
               try go_wp2
               go_meet
               case rel => exact ⟨_, (true), (by first | rfl | (simp; done) | (simp [*]; done) | exact not_isEmpty _ | exact (not_isEmpty _).symm | exact is_empty _ | exact (is_empty _).symm), H', ⟨by have := HJ1.out; have := HK2.out; first | omega | exact Nat.le_refl _⟩, ⟨by (with_reducible repeat (first | refine blk_drewN ?_ _ | refine blk_drew ?_ | refine blk_alloc ?_ _)); exact BK103.out⟩, ⟨by (with_reducible repeat (first | refine blk_drewN ?_ _ | refine blk_drew ?_ | refine blk_alloc ?_ _)); exact BK106.out⟩, ⟨by repeat (first | (with_reducible first | exact HB.out | apply below_alloc | apply pw_below_drewN | apply below_drew1 | refine below_set ?_ GE103.out | refine below_set ?_ GE106.out) | exact HB.out)⟩⟩
              ·rw [if_neg c23] at H
               have c23b0 : decide (((rd_T178 l0_1 x18_2).f0) ≤ ((rd_T178 l0_1 (ji20)).f0)) = false := decide_eq_false c23
               clear c23
               replace H := Option.bind_eq_some_iff.mp H
               obtain ⟨t109, A260, H⟩ := H
               replace H : (if t109 = true then ((spec_l1In.f ((rd_T178 l0_1 x18_2).f2) 0 100000).bind fun t110 => (if t110 = true then ((spec_l1In.f ((rd_T178 l0_1 x18_2).f3) 1 1000).bind fun t111 => (if t111 = true then (if ((rd_T178 l0_1 x18_2).f2) = 0 then (spec_GoodClock.j2 k2 l0_1 (l0_1.length : Int) x18_2 (((rd_T178 l0_1 x18_2).f3) != 1) a0_0 l0_1) else (spec_GoodClock.j2 k2 l0_1 (l0_1.length : Int) x18_2 false a0_0 l0_1)) else (spec_GoodClock.j2 k2 l0_1 (l0_1.length : Int) x18_2 true a0_0 l0_1))) else (spec_GoodClock.j2 k2 l0_1 (l0_1.length : Int) x18_2 true a0_0 l0_1))) else (spec_GoodClock.j2 k2 l0_1 (l0_1.length : Int) x18_2 true a0_0 l0_1)) = some r := H
               have A26 := Aside0.mk A260
               clear A260
               by_cases c27 : t109 = true
               ·subst c27
                have H1 : ((spec_l1In.f ((rd_T178 l0_1 x18_2).f2) 0 100000).bind fun t110 => (if t110 = true then ((spec_l1In.f ((rd_T178 l0_1 x18_2).f3) 1 1000).bind fun t111 => (if t111 = true then (if ((rd_T178 l0_1 x18_2).f2) = 0 then (spec_GoodClock.j2 k2 l0_1 (l0_1.length : Int) x18_2 (((rd_T178 l0_1 x18_2).f3) != 1) a0_0 l0_1) else (spec_GoodClock.j2 k2 l0_1 (l0_1.length : Int) x18_2 false a0_0 l0_1)) else (spec_GoodClock.j2 k2 l0_1 (l0_1.length : Int) x18_2 true a0_0 l0_1))) else (spec_GoodClock.j2 k2 l0_1 (l0_1.length : Int) x18_2 true a0_0 l0_1))) = some r := by rw [if_pos rfl] at H; exact H
                clear H
                have H := H1
                clear H1
                replace H := Option.bind_eq_some_iff.mp H
                obtain ⟨t110, A280, H⟩ := H
                replace H : (if t110 = true then ((spec_l1In.f ((rd_T178 l0_1 x18_2).f3) 1 1000).bind fun t111 => (if t111 = true then (if ((rd_T178 l0_1 x18_2).f2) = 0 then (spec_GoodClock.j2 k2 l0_1 (l0_1.length : Int) x18_2 (((rd_T178 l0_1 x18_2).f3) != 1) a0_0 l0_1) else (spec_GoodClock.j2 k2 l0_1 (l0_1.length : Int) x18_2 false a0_0 l0_1)) else (spec_GoodClock.j2 k2 l0_1 (l0_1.length : Int) x18_2 true a0_0 l0_1))) else (spec_GoodClock.j2 k2 l0_1 (l0_1.length : Int) x18_2 true a0_0 l0_1)) = some r := H
                have A28 := Aside0.mk A280
                clear A280
                by_cases c29 : t110 = true
                ·subst c29
                 have H1 : ((spec_l1In.f ((rd_T178 l0_1 x18_2).f3) 1 1000).bind fun t111 => (if t111 = true then (if ((rd_T178 l0_1 x18_2).f2) = 0 then (spec_GoodClock.j2 k2 l0_1 (l0_1.length : Int) x18_2 (((rd_T178 l0_1 x18_2).f3) != 1) a0_0 l0_1) else (spec_GoodClock.j2 k2 l0_1 (l0_1.length : Int) x18_2 false a0_0 l0_1)) else (spec_GoodClock.j2 k2 l0_1 (l0_1.length : Int) x18_2 true a0_0 l0_1))) = some r := by rw [if_pos rfl] at H; exact H
                 clear H
                 have H := H1
                 clear H1
                 replace H := Option.bind_eq_some_iff.mp H
                 obtain ⟨t111, A300, H⟩ := H
                 replace H : (if t111 = true then (if ((rd_T178 l0_1 x18_2).f2) = 0 then (spec_GoodClock.j2 k2 l0_1 (l0_1.length : Int) x18_2 (((rd_T178 l0_1 x18_2).f3) != 1) a0_0 l0_1) else (spec_GoodClock.j2 k2 l0_1 (l0_1.length : Int) x18_2 false a0_0 l0_1)) else (spec_GoodClock.j2 k2 l0_1 (l0_1.length : Int) x18_2 true a0_0 l0_1)) = some r := H
                 have A30 := Aside0.mk A300
                 clear A300
                 by_cases c31 : t111 = true
                 ·subst c31
                  have H1 : (if ((rd_T178 l0_1 x18_2).f2) = 0 then (spec_GoodClock.j2 k2 l0_1 (l0_1.length : Int) x18_2 (((rd_T178 l0_1 x18_2).f3) != 1) a0_0 l0_1) else (spec_GoodClock.j2 k2 l0_1 (l0_1.length : Int) x18_2 false a0_0 l0_1)) = some r := by rw [if_pos rfl] at H; exact H
                  clear H
                  have H := H1
                  clear H1
                  by_cases c32 : ((rd_T178 l0_1 x18_2).f2) = 0
                  ·rw [if_pos c32] at H
                   have c32b0 : (((rd_T178 l0_1 x18_2).f2) == 0) = true := beq_iff_eq.mpr c32
                   have c32b1 : (((rd_T178 l0_1 x18_2).f2) != 0) = false := bne_eq_false_iff_eq.mpr c32
                   clear c32
                   have H' := Aside0.mk H
                   clear H
                   try go_wp2
                   have n0_ : Aside0 (((((w14.setCell ⟨gb106, 0, none⟩ (.int .i64 ((rd_T178 l0_1 x18_2).f0))).setCell ⟨gb106, 1, none⟩ (.int .i64 ((rd_T178 l0_1 x18_2).f1))).setCell ⟨gb106, 2, none⟩ (.int .i64 ((rd_T178 l0_1 x18_2).f2))).setCell ⟨gb106, 3, none⟩ (.int .i64 ((rd_T178 l0_1 x18_2).f3))).heap[gb103]? = some (.cells #[.int .i64 a0_0, .slice (some ad105) l0_1.length c0_1] 83 (0, 0))) := ⟨by (with_reducible repeat (first | refine blk_drewN ?_ _ | refine blk_drew ?_ | refine blk_alloc ?_ _)); refine blk_far ?_ NB103_106.out _; (with_reducible repeat (first | refine blk_drewN ?_ _ | refine blk_drew ?_ | refine blk_alloc ?_ _)); refine blk_far ?_ NB103_106.out _; (with_reducible repeat (first | refine blk_drewN ?_ _ | refine blk_drew ?_ | refine blk_alloc ?_ _)); refine blk_far ?_ NB103_106.out _; (with_reducible repeat (first | refine blk_drewN ?_ _ | refine blk_drew ?_ | refine blk_alloc ?_ _)); refine blk_far ?_ NB103_106.out _; (with_reducible repeat (first | refine blk_drewN ?_ _ | refine blk_drew ?_ | refine blk_alloc ?_ _)); exact BK103.out⟩
                   have n1_ : Aside0 (((((w14.setCell ⟨gb106, 0, none⟩ (.int .i64 ((rd_T178 l0_1 x18_2).f0))).setCell ⟨gb106, 1, none⟩ (.int .i64 ((rd_T178 l0_1 x18_2).f1))).setCell ⟨gb106, 2, none⟩ (.int .i64 ((rd_T178 l0_1 x18_2).f2))).setCell ⟨gb106, 3, none⟩ (.int .i64 ((rd_T178 l0_1 x18_2).f3))).heap[gb106]? = some (.cells #[.int .i64 ((rd_T178 l0_1 x18_2).f0), .int .i64 ((rd_T178 l0_1 x18_2).f1), .int .i64 ((rd_T178 l0_1 x18_2).f2), .int .i64 ((rd_T178 l0_1 x18_2).f3)] 178 (0, 0))) := ⟨by (with_reducible repeat (first | refine blk_drewN ?_ _ | refine blk_drew ?_ | refine blk_alloc ?_ _)); refine blk_put (cs := #[.int .i64 ((rd_T178 l0_1 x18_2).f0), .int .i64 ((rd_T178 l0_1 x18_2).f1), .int .i64 ((rd_T178 l0_1 x18_2).f2), .int .i64 0]) ?_ 3 _ rfl; (with_reducible repeat (first | refine blk_drewN ?_ _ | refine blk_drew ?_ | refine blk_alloc ?_ _)); refine blk_put (cs := #[.int .i64 ((rd_T178 l0_1 x18_2).f0), .int .i64 ((rd_T178 l0_1 x18_2).f1), .int .i64 0, .int .i64 0]) ?_ 2 _ rfl; (with_reducible repeat (first | refine blk_drewN ?_ _ | refine blk_drew ?_ | refine blk_alloc ?_ _)); refine blk_put (cs := #[.int .i64 ((rd_T178 l0_1 x18_2).f0), .int .i64 0, .int .i64 0, .int .i64 0]) ?_ 1 _ rfl; (with_reducible repeat (first | refine blk_drewN ?_ _ | refine blk_drew ?_ | refine blk_alloc ?_ _)); refine blk_put (cs := #[.int .i64 0, .int .i64 0, .int .i64 0, .int .i64 0]) ?_ 0 _ rfl; (with_reducible repeat (first | refine blk_drewN ?_ _ | refine blk_drew ?_ | refine blk_alloc ?_ _)); exact BK106.out⟩
                   have n2_ : Aside0 (Below w.heap.size w ((((w14.setCell ⟨gb106, 0, none⟩ (.int .i64 ((rd_T178 l0_1 x18_2).f0))).setCell ⟨gb106, 1, none⟩ (.int .i64 ((rd_T178 l0_1 x18_2).f1))).setCell ⟨gb106, 2, none⟩ (.int .i64 ((rd_T178 l0_1 x18_2).f2))).setCell ⟨gb106, 3, none⟩ (.int .i64 ((rd_T178 l0_1 x18_2).f3)))) := ⟨by repeat (first | (with_reducible first | exact HB.out | apply below_alloc | apply pw_below_drewN | apply below_drew1 | refine below_set ?_ GE103.out | refine below_set ?_ GE106.out) | exact HB.out)⟩
                   (try clear BK103)
                   (try clear BK106)
                   (try clear HB)
                   generalize ((((w14.setCell ⟨gb106, 0, none⟩ (.int .i64 ((rd_T178 l0_1 x18_2).f0))).setCell ⟨gb106, 1, none⟩ (.int .i64 ((rd_T178 l0_1 x18_2).f1))).setCell ⟨gb106, 2, none⟩ (.int .i64 ((rd_T178 l0_1 x18_2).f2))).setCell ⟨gb106, 3, none⟩ (.int .i64 ((rd_T178 l0_1 x18_2).f3))) = w33 at n0_ n1_ n2_ ⊢
                   have BK103 := n0_
                   have BK106 := n1_
                   have HB := n2_
                   clear n0_ n1_ n2_
                   have n0_ := Aside0.mk (blk_drew BK103.out)
                   have n1_ := Aside0.mk (blk_drew BK106.out)
                   have n2_ := Aside0.mk (below_drew1 HB.out)
                   clear BK103
                   clear BK106
                   clear HB
                   have BK103 := n0_
                   have BK106 := n1_
                   have HB := n2_
                   clear n0_ n1_ n2_
                   have p108 : 0 ≤ ((ji20) : Int) := of_decide_eq_true (by first | (with_reducible assumption) | assumption)
                   have q108 : (ji20) < (l0_1.length : Int) := of_decide_eq_true (by first | (with_reducible assumption) | assumption)
                   obtain ⟨ad108, e108, hx108_0, hx108_1, hx108_2, hx108_3⟩ := at_T178 HR0_1.out (ji20) p108 q108
                   have hw108_3 := hx108_3
                   have hw108_2 := hx108_2
                   have hw108_1 := hx108_1
                   have hw108_0 := hx108_0
                   obtain rfl : ad105 = ad108 := (by injection e108)
                   replace hx108_0 := (HB.out.cell (World.block_lt_of_cell? w _ hx108_0)).trans hx108_0
                   replace hx108_1 := (HB.out.cell (World.block_lt_of_cell? w _ hx108_1)).trans hx108_1
                   replace hx108_2 := (HB.out.cell (World.block_lt_of_cell? w _ hx108_2)).trans hx108_2
                   replace hx108_3 := (HB.out.cell (World.block_lt_of_cell? w _ hx108_3)).trans hx108_3
                   replace p108 := eq_true p108
                   replace q108 := eq_true q108
                   refine start_ (n := 51) (S := fun w' => w'.cell? ⟨gb106, 0, none⟩ = some (.int .i64 ((rd_T178 l0_1 x18_2).f0)) ∧ w'.cell? ⟨gb106, 1, none⟩ = some (.int .i64 ((rd_T178 l0_1 x18_2).f1)) ∧ w'.cell? ⟨gb106, 2, none⟩ = some (.int .i64 ((rd_T178 l0_1 x18_2).f2)) ∧ w'.cell? ⟨gb106, 3, none⟩ = some (.int .i64 ((rd_T178 l0_1 x18_2).f3)) ∧ w'.cell? ⟨gb103, 0, none⟩ = some (.int .i64 a0_0) ∧ w'.cell? ⟨gb103, 1, none⟩ = some (.slice (some ad105) l0_1.length c0_1) ∧ w'.cell? (ad105.add (((ji20)).toNat * 4)) = some (.int .i64 ((rd_T178 l0_1 (ji20)).f0)) ∧ w'.cell? ⟨(ad105.add (((ji20)).toNat * 4)).block, (ad105.add (((ji20)).toNat * 4)).off + 1, none⟩ = some (.int .i64 ((rd_T178 l0_1 (ji20)).f1)) ∧ w'.cell? ⟨(ad105.add (((ji20)).toNat * 4)).block, (ad105.add (((ji20)).toNat * 4)).off + 2, none⟩ = some (.int .i64 ((rd_T178 l0_1 (ji20)).f2)) ∧ w'.cell? ⟨(ad105.add (((ji20)).toNat * 4)).block, (ad105.add (((ji20)).toNat * 4)).off + 3, none⟩ = some (.int .i64 ((rd_T178 l0_1 (ji20)).f3))) (ds := []) #[false, false, false, false, false, false, false, false, false, false, false, false, false, false, false, false, false, false, false, false, false, false, false, false, false, false, false, false, false, false, false, false, false, false, false, false, false, false, false, false, false, false, false, false, false, false, false, false, false, false, false] (by kernel_rfl) rfl rfl ⟨(blk_cell BK106.out 0).trans rfl, (blk_cell BK106.out 1).trans rfl, (blk_cell BK106.out 2).trans rfl, (blk_cell BK106.out 3).trans rfl, (blk_cell BK103.out 0).trans rfl, (blk_cell BK103.out 1).trans rfl, ((HB.out.cell (World.block_lt_of_cell? w _ hw108_0)).trans hw108_0), ((HB.out.cell (World.block_lt_of_cell? w _ hw108_1)).trans hw108_1), ((HB.out.cell (World.block_lt_of_cell? w _ hw108_2)).trans hw108_2), ((HB.out.cell (World.block_lt_of_cell? w _ hw108_3)).trans hw108_3)⟩ (fun hHeld => ?_); refine with_tabW spec_GoodClock.tab6 spec_GoodClock.bits6 (fun HT_ HW_ => ?_)
                   generalize w33.drew = w34 at BK103 BK106 HB hx108_0 hx108_1 hx108_2 hx108_3 hHeld ⊢
                   refine pureA 0 23 (bz 51 1) rfl rfl (any_of HT_.out (by kernel_rfl)) ?_
                   refine takeA 1 24 (bz 51 3) rfl rfl (take_ofW HT_.out HW_.out (by kernel_rfl)) hHeld (by rintro w' ⟨s0, s1, s2, s3, s4, s5, s6, s7, s8, s9⟩; go_simp; with_reducible rfl) ?_
                   refine one_ (i := 2) (N := some 25) (bz 51 7) rfl rfl (one_of HT_.out (by kernel_rfl)) (by decide) (fun K hK => ?_)
                   refine goes_ Try.func87 (by kernel_rfl) rfl #[.int .i64 ((rd_T178 l0_1 x18_2).f0), .int .i64 0, .int .i64 999] (by rfl) rfl rfl (by (try simp only [List.map_toArray, List.map_cons, List.map_nil]); first | done | rfl | (simp only [List.length_drop, List.length_take]; rfl)) ?_
                   with_reducible refine (spec_l1In.calls ((rd_T178 l0_1 x18_2).f0) 0 999 true _ A17.out).mono ?_
                   rintro e w' ⟨rfl, ⟨nd, rfl⟩⟩
                   refine ⟨_, rfl, ?_⟩
                   refine hK.out _ _ ⟨(blk_cell BK106.out 0).trans rfl, (blk_cell BK106.out 1).trans rfl, (blk_cell BK106.out 2).trans rfl, (blk_cell BK106.out 3).trans rfl, (blk_cell BK103.out 0).trans rfl, (blk_cell BK103.out 1).trans rfl, ((HB.out.cell (World.block_lt_of_cell? w _ hw108_0)).trans hw108_0), ((HB.out.cell (World.block_lt_of_cell? w _ hw108_1)).trans hw108_1), ((HB.out.cell (World.block_lt_of_cell? w _ hw108_2)).trans hw108_2), ((HB.out.cell (World.block_lt_of_cell? w _ hw108_3)).trans hw108_3)⟩ (fun hHeld => ?_)
                   clear hK K
                   refine norm_ (a' := ?_) ?_ ?_
                   rotate_left
                   ·show Act.put _ (some 25) _ = _
                    simp only [Act.put, List.setIfInBounds_toArray, List.set_cons_zero, List.set_cons_succ, i64_w, i32_w]
                    rfl
                   refine pureA 3 26 (bz 51 15) rfl rfl (any_of HT_.out (by kernel_rfl)) ?_
                   refine pureA 4 27 (bz 51 31) rfl rfl (any_of HT_.out (by kernel_rfl)) ?_
                   refine pureA 5 28 (bz 51 63) rfl rfl (any_of HT_.out (by kernel_rfl)) ?_
                   refine pureA 6 29 (bz 51 127) rfl rfl (any_of HT_.out (by kernel_rfl)) ?_
                   refine pureA 7 30 (bz 51 255) rfl rfl (any_of HT_.out (by kernel_rfl)) ?_
                   refine pureA 8 31 (bz 51 511) rfl rfl (any_of HT_.out (by kernel_rfl)) ?_
                   refine pureA 10 33 (bz 51 1535) rfl rfl (any_of HT_.out (by kernel_rfl)) ?_
                   refine pureA 11 34 (bz 51 3583) rfl rfl (any_of HT_.out (by kernel_rfl)) ?_
                   refine pureA 15 38 (bz 51 36351) rfl rfl (any_of HT_.out (by kernel_rfl)) ?_
                   refine takeA 9 32 (bz 51 36863) rfl rfl (take_ofW HT_.out HW_.out (by kernel_rfl)) hHeld (by rintro w' ⟨s0, s1, s2, s3, s4, s5, s6, s7, s8, s9⟩; go_simp; with_reducible rfl) ?_
                   refine pureA 12 35 (bz 51 40959) rfl rfl (any_of HT_.out (by kernel_rfl)) ?_
                   refine pureA 13 36 (bz 51 49151) rfl rfl (any_of HT_.out (by kernel_rfl)) ?_
                   refine takeA 14 37 (bz 51 65535) rfl rfl (take_ofW HT_.out HW_.out (by kernel_rfl)) hHeld (by rintro w' ⟨s0, s1, s2, s3, s4, s5, s6, s7, s8, s9⟩; go_simp; with_reducible rfl) ?_
                   refine takeA 16 39 (bz 51 131071) rfl rfl (take_ofW HT_.out HW_.out (by kernel_rfl)) hHeld (by rintro w' ⟨s0, s1, s2, s3, s4, s5, s6, s7, s8, s9⟩; go_simp; with_reducible rfl) ?_
                   refine pureA 17 40 (bz 51 262143) rfl rfl (any_of HT_.out (by kernel_rfl)) ?_
                   refine pureA 18 41 (bz 51 524287) rfl rfl (any_of HT_.out (by kernel_rfl)) ?_
                   refine pureA 19 42 (bz 51 1048575) rfl rfl (any_of HT_.out (by kernel_rfl)) ?_
                   refine pureA 20 43 (bz 51 2097151) rfl rfl (any_of HT_.out (by kernel_rfl)) ?_
                   refine pureA 21 44 (bz 51 4194303) rfl rfl (any_of HT_.out (by kernel_rfl)) ?_
                   refine pureA 23 46 (bz 51 12582911) rfl rfl (any_of HT_.out (by kernel_rfl)) ?_
                   refine takeA 22 45 (bz 51 16777215) rfl rfl (take_ofW HT_.out HW_.out (by kernel_rfl)) hHeld (by rintro w' ⟨s0, s1, s2, s3, s4, s5, s6, s7, s8, s9⟩; go_simp; with_reducible rfl) ?_
                   refine takeA 24 47 (bz 51 33554431) rfl rfl (take_ofW HT_.out HW_.out (by kernel_rfl)) hHeld (by rintro w' ⟨s0, s1, s2, s3, s4, s5, s6, s7, s8, s9⟩; go_simp; with_reducible rfl) ?_
                   refine pureA 25 48 (bz 51 67108863) rfl rfl (any_of HT_.out (by kernel_rfl)) ?_
                   refine one_ (i := 26) (N := some 49) (bz 51 134217727) rfl rfl (one_of HT_.out (by kernel_rfl)) (by decide) (fun K hK => ?_)
                   refine goes_ Try.func87 (by kernel_rfl) rfl #[.int .i64 ((rd_T178 l0_1 x18_2).f1), .int .i64 (wrap64 (a0_0 + 1)), .int .i64 200000] (by rfl) rfl rfl (by (try simp only [List.map_toArray, List.map_cons, List.map_nil]); first | done | rfl | (simp only [List.length_drop, List.length_take]; rfl)) ?_
                   with_reducible refine (spec_l1In.calls ((rd_T178 l0_1 x18_2).f1) (wrap64 (a0_0 + 1)) 200000 true _ A26.out).mono ?_
                   rintro e w' ⟨rfl, ⟨nd, rfl⟩⟩
                   refine ⟨_, rfl, ?_⟩
                   refine hK.out _ _ ⟨(blk_cell BK106.out 0).trans rfl, (blk_cell BK106.out 1).trans rfl, (blk_cell BK106.out 2).trans rfl, (blk_cell BK106.out 3).trans rfl, (blk_cell BK103.out 0).trans rfl, (blk_cell BK103.out 1).trans rfl, ((HB.out.cell (World.block_lt_of_cell? w _ hw108_0)).trans hw108_0), ((HB.out.cell (World.block_lt_of_cell? w _ hw108_1)).trans hw108_1), ((HB.out.cell (World.block_lt_of_cell? w _ hw108_2)).trans hw108_2), ((HB.out.cell (World.block_lt_of_cell? w _ hw108_3)).trans hw108_3)⟩ (fun hHeld => ?_)
                   clear hK K
                   refine norm_ (a' := ?_) ?_ ?_
                   rotate_left
                   ·show Act.put _ (some 49) _ = _
                    simp only [Act.put, List.setIfInBounds_toArray, List.set_cons_zero, List.set_cons_succ, i64_w, i32_w]
                    rfl
                   refine pureA 27 50 (bz 51 268435455) rfl rfl (any_of HT_.out (by kernel_rfl)) ?_
                   refine pureA 28 51 (bz 51 536870911) rfl rfl (any_of HT_.out (by kernel_rfl)) ?_
                   refine pureA 29 52 (bz 51 1073741823) rfl rfl (any_of HT_.out (by kernel_rfl)) ?_
                   refine pureA 30 53 (bz 51 2147483647) rfl rfl (any_of HT_.out (by kernel_rfl)) ?_
                   refine takeA 31 54 (bz 51 4294967295) rfl rfl (take_ofW HT_.out HW_.out (by kernel_rfl)) hHeld (by rintro w' ⟨s0, s1, s2, s3, s4, s5, s6, s7, s8, s9⟩; go_simp; with_reducible rfl) ?_
                   refine one_ (i := 32) (N := some 55) (bz 51 8589934591) rfl rfl (one_of HT_.out (by kernel_rfl)) (by decide) (fun K hK => ?_)
                   refine goes_ Try.func87 (by kernel_rfl) rfl #[.int .i64 ((rd_T178 l0_1 x18_2).f2), .int .i64 0, .int .i64 100000] (by rfl) rfl rfl (by (try simp only [List.map_toArray, List.map_cons, List.map_nil]); first | done | rfl | (simp only [List.length_drop, List.length_take]; rfl)) ?_
                   with_reducible refine (spec_l1In.calls ((rd_T178 l0_1 x18_2).f2) 0 100000 true _ A28.out).mono ?_
                   rintro e w' ⟨rfl, ⟨nd, rfl⟩⟩
                   refine ⟨_, rfl, ?_⟩
                   refine hK.out _ _ ⟨(blk_cell BK106.out 0).trans rfl, (blk_cell BK106.out 1).trans rfl, (blk_cell BK106.out 2).trans rfl, (blk_cell BK106.out 3).trans rfl, (blk_cell BK103.out 0).trans rfl, (blk_cell BK103.out 1).trans rfl, ((HB.out.cell (World.block_lt_of_cell? w _ hw108_0)).trans hw108_0), ((HB.out.cell (World.block_lt_of_cell? w _ hw108_1)).trans hw108_1), ((HB.out.cell (World.block_lt_of_cell? w _ hw108_2)).trans hw108_2), ((HB.out.cell (World.block_lt_of_cell? w _ hw108_3)).trans hw108_3)⟩ (fun hHeld => ?_)
                   clear hK K
                   refine norm_ (a' := ?_) ?_ ?_
                   rotate_left
                   ·show Act.put _ (some 55) _ = _
                    simp only [Act.put, List.setIfInBounds_toArray, List.set_cons_zero, List.set_cons_succ, i64_w, i32_w]
                    rfl
                   refine pureA 33 56 (bz 51 17179869183) rfl rfl (any_of HT_.out (by kernel_rfl)) ?_
                   refine pureA 34 57 (bz 51 34359738367) rfl rfl (any_of HT_.out (by kernel_rfl)) ?_
                   refine pureA 35 58 (bz 51 68719476735) rfl rfl (any_of HT_.out (by kernel_rfl)) ?_
                   refine pureA 36 59 (bz 51 137438953471) rfl rfl (any_of HT_.out (by kernel_rfl)) ?_
                   refine takeA 37 60 (bz 51 274877906943) rfl rfl (take_ofW HT_.out HW_.out (by kernel_rfl)) hHeld (by rintro w' ⟨s0, s1, s2, s3, s4, s5, s6, s7, s8, s9⟩; go_simp; with_reducible rfl) ?_
                   refine one_ (i := 38) (N := some 61) (bz 51 549755813887) rfl rfl (one_of HT_.out (by kernel_rfl)) (by decide) (fun K hK => ?_)
                   refine goes_ Try.func87 (by kernel_rfl) rfl #[.int .i64 ((rd_T178 l0_1 x18_2).f3), .int .i64 1, .int .i64 1000] (by rfl) rfl rfl (by (try simp only [List.map_toArray, List.map_cons, List.map_nil]); first | done | rfl | (simp only [List.length_drop, List.length_take]; rfl)) ?_
                   with_reducible refine (spec_l1In.calls ((rd_T178 l0_1 x18_2).f3) 1 1000 true _ A30.out).mono ?_
                   rintro e w' ⟨rfl, ⟨nd, rfl⟩⟩
                   refine ⟨_, rfl, ?_⟩
                   refine hK.out _ _ ⟨(blk_cell BK106.out 0).trans rfl, (blk_cell BK106.out 1).trans rfl, (blk_cell BK106.out 2).trans rfl, (blk_cell BK106.out 3).trans rfl, (blk_cell BK103.out 0).trans rfl, (blk_cell BK103.out 1).trans rfl, ((HB.out.cell (World.block_lt_of_cell? w _ hw108_0)).trans hw108_0), ((HB.out.cell (World.block_lt_of_cell? w _ hw108_1)).trans hw108_1), ((HB.out.cell (World.block_lt_of_cell? w _ hw108_2)).trans hw108_2), ((HB.out.cell (World.block_lt_of_cell? w _ hw108_3)).trans hw108_3)⟩ (fun hHeld => ?_)
                   clear hK K
                   refine norm_ (a' := ?_) ?_ ?_
                   rotate_left
                   ·show Act.put _ (some 61) _ = _
                    simp only [Act.put, List.setIfInBounds_toArray, List.set_cons_zero, List.set_cons_succ, i64_w, i32_w]
                    rfl
                   refine pureA 39 62 (bz 51 1099511627775) rfl rfl (any_of HT_.out (by kernel_rfl)) ?_
                   refine pureA 40 63 (bz 51 2199023255551) rfl rfl (any_of HT_.out (by kernel_rfl)) ?_
                   refine pureA 41 64 (bz 51 4398046511103) rfl rfl (any_of HT_.out (by kernel_rfl)) ?_
                   refine pureA 42 65 (bz 51 8796093022207) rfl rfl (any_of HT_.out (by kernel_rfl)) ?_
                   refine takeA 43 66 (bz 51 17592186044415) rfl rfl (take_ofW HT_.out HW_.out (by kernel_rfl)) hHeld (by rintro w' ⟨s0, s1, s2, s3, s4, s5, s6, s7, s8, s9⟩; go_simp; with_reducible rfl) ?_
                   refine pureA 44 67 (bz 51 35184372088831) rfl rfl (any_of HT_.out (by kernel_rfl)) ?_
                   refine pureA 45 68 (bz 51 70368744177663) rfl rfl (any_of HT_.out (by kernel_rfl)) ?_
                   refine pureA 46 69 (bz 51 140737488355327) rfl rfl (any_of HT_.out (by kernel_rfl)) ?_
                   refine takeA 47 70 (bz 51 281474976710655) rfl rfl (take_ofW HT_.out HW_.out (by kernel_rfl)) hHeld (by rintro w' ⟨s0, s1, s2, s3, s4, s5, s6, s7, s8, s9⟩; go_simp; with_reducible rfl) ?_
                   refine pureA 48 71 (bz 51 562949953421311) rfl rfl (any_of HT_.out (by kernel_rfl)) ?_
                   refine pureA 49 72 (bz 51 1125899906842623) rfl rfl (any_of HT_.out (by kernel_rfl)) ?_
                   refine pureA 50 73 (bz 51 2251799813685247) rfl rfl (any_of HT_.out (by kernel_rfl)) ?_
                   refine done_ (done_of HT_.out (by kernel_rfl)) ?_
                   try go_wp2
                   go_meet
                   case rel => exact ⟨_, ((((rd_T178 l0_1 x18_2).f3) != 1)), (by first | rfl | (simp; done) | (simp [*]; done) | exact not_isEmpty _ | exact (not_isEmpty _).symm | exact is_empty _ | exact (is_empty _).symm), H', ⟨by have := HJ1.out; have := HK2.out; first | omega | exact Nat.le_refl _⟩, ⟨by (with_reducible repeat (first | refine blk_drewN ?_ _ | refine blk_drew ?_ | refine blk_alloc ?_ _)); exact BK103.out⟩, ⟨by (with_reducible repeat (first | refine blk_drewN ?_ _ | refine blk_drew ?_ | refine blk_alloc ?_ _)); exact BK106.out⟩, ⟨by repeat (first | (with_reducible first | exact HB.out | apply below_alloc | apply pw_below_drewN | apply below_drew1 | refine below_set ?_ GE103.out | refine below_set ?_ GE106.out) | exact HB.out)⟩⟩
                  ·rw [if_neg c32] at H
                   have c32b0 : (((rd_T178 l0_1 x18_2).f2) == 0) = false := beq_eq_false_iff_ne.mpr c32
                   have c32b1 : (((rd_T178 l0_1 x18_2).f2) != 0) = true := bne_iff_ne.mpr c32
                   have H' := Aside0.mk H
                   clear H
                   try go_wp2
                   have n0_ : Aside0 (((((w14.setCell ⟨gb106, 0, none⟩ (.int .i64 ((rd_T178 l0_1 x18_2).f0))).setCell ⟨gb106, 1, none⟩ (.int .i64 ((rd_T178 l0_1 x18_2).f1))).setCell ⟨gb106, 2, none⟩ (.int .i64 ((rd_T178 l0_1 x18_2).f2))).setCell ⟨gb106, 3, none⟩ (.int .i64 ((rd_T178 l0_1 x18_2).f3))).heap[gb103]? = some (.cells #[.int .i64 a0_0, .slice (some ad105) l0_1.length c0_1] 83 (0, 0))) := ⟨by (with_reducible repeat (first | refine blk_drewN ?_ _ | refine blk_drew ?_ | refine blk_alloc ?_ _)); refine blk_far ?_ NB103_106.out _; (with_reducible repeat (first | refine blk_drewN ?_ _ | refine blk_drew ?_ | refine blk_alloc ?_ _)); refine blk_far ?_ NB103_106.out _; (with_reducible repeat (first | refine blk_drewN ?_ _ | refine blk_drew ?_ | refine blk_alloc ?_ _)); refine blk_far ?_ NB103_106.out _; (with_reducible repeat (first | refine blk_drewN ?_ _ | refine blk_drew ?_ | refine blk_alloc ?_ _)); refine blk_far ?_ NB103_106.out _; (with_reducible repeat (first | refine blk_drewN ?_ _ | refine blk_drew ?_ | refine blk_alloc ?_ _)); exact BK103.out⟩
                   have n1_ : Aside0 (((((w14.setCell ⟨gb106, 0, none⟩ (.int .i64 ((rd_T178 l0_1 x18_2).f0))).setCell ⟨gb106, 1, none⟩ (.int .i64 ((rd_T178 l0_1 x18_2).f1))).setCell ⟨gb106, 2, none⟩ (.int .i64 ((rd_T178 l0_1 x18_2).f2))).setCell ⟨gb106, 3, none⟩ (.int .i64 ((rd_T178 l0_1 x18_2).f3))).heap[gb106]? = some (.cells #[.int .i64 ((rd_T178 l0_1 x18_2).f0), .int .i64 ((rd_T178 l0_1 x18_2).f1), .int .i64 ((rd_T178 l0_1 x18_2).f2), .int .i64 ((rd_T178 l0_1 x18_2).f3)] 178 (0, 0))) := ⟨by (with_reducible repeat (first | refine blk_drewN ?_ _ | refine blk_drew ?_ | refine blk_alloc ?_ _)); refine blk_put (cs := #[.int .i64 ((rd_T178 l0_1 x18_2).f0), .int .i64 ((rd_T178 l0_1 x18_2).f1), .int .i64 ((rd_T178 l0_1 x18_2).f2), .int .i64 0]) ?_ 3 _ rfl; (with_reducible repeat (first | refine blk_drewN ?_ _ | refine blk_drew ?_ | refine blk_alloc ?_ _)); refine blk_put (cs := #[.int .i64 ((rd_T178 l0_1 x18_2).f0), .int .i64 ((rd_T178 l0_1 x18_2).f1), .int .i64 0, .int .i64 0]) ?_ 2 _ rfl; (with_reducible repeat (first | refine blk_drewN ?_ _ | refine blk_drew ?_ | refine blk_alloc ?_ _)); refine blk_put (cs := #[.int .i64 ((rd_T178 l0_1 x18_2).f0), .int .i64 0, .int .i64 0, .int .i64 0]) ?_ 1 _ rfl; (with_reducible repeat (first | refine blk_drewN ?_ _ | refine blk_drew ?_ | refine blk_alloc ?_ _)); refine blk_put (cs := #[.int .i64 0, .int .i64 0, .int .i64 0, .int .i64 0]) ?_ 0 _ rfl; (with_reducible repeat (first | refine blk_drewN ?_ _ | refine blk_drew ?_ | refine blk_alloc ?_ _)); exact BK106.out⟩
                   have n2_ : Aside0 (Below w.heap.size w ((((w14.setCell ⟨gb106, 0, none⟩ (.int .i64 ((rd_T178 l0_1 x18_2).f0))).setCell ⟨gb106, 1, none⟩ (.int .i64 ((rd_T178 l0_1 x18_2).f1))).setCell ⟨gb106, 2, none⟩ (.int .i64 ((rd_T178 l0_1 x18_2).f2))).setCell ⟨gb106, 3, none⟩ (.int .i64 ((rd_T178 l0_1 x18_2).f3)))) := ⟨by repeat (first | (with_reducible first | exact HB.out | apply below_alloc | apply pw_below_drewN | apply below_drew1 | refine below_set ?_ GE103.out | refine below_set ?_ GE106.out) | exact HB.out)⟩
                   (try clear BK103)
                   (try clear BK106)
                   (try clear HB)
                   generalize ((((w14.setCell ⟨gb106, 0, none⟩ (.int .i64 ((rd_T178 l0_1 x18_2).f0))).setCell ⟨gb106, 1, none⟩ (.int .i64 ((rd_T178 l0_1 x18_2).f1))).setCell ⟨gb106, 2, none⟩ (.int .i64 ((rd_T178 l0_1 x18_2).f2))).setCell ⟨gb106, 3, none⟩ (.int .i64 ((rd_T178 l0_1 x18_2).f3))) = w35 at n0_ n1_ n2_ ⊢
                   have BK103 := n0_
                   have BK106 := n1_
                   have HB := n2_
                   clear n0_ n1_ n2_
                   have n0_ := Aside0.mk (blk_drew BK103.out)
                   have n1_ := Aside0.mk (blk_drew BK106.out)
                   have n2_ := Aside0.mk (below_drew1 HB.out)
                   clear BK103
                   clear BK106
                   clear HB
                   have BK103 := n0_
                   have BK106 := n1_
                   have HB := n2_
                   clear n0_ n1_ n2_
                   have p108 : 0 ≤ ((ji20) : Int) := of_decide_eq_true (by first | (with_reducible assumption) | assumption)
                   have q108 : (ji20) < (l0_1.length : Int) := of_decide_eq_true (by first | (with_reducible assumption) | assumption)
                   obtain ⟨ad108, e108, hx108_0, hx108_1, hx108_2, hx108_3⟩ := at_T178 HR0_1.out (ji20) p108 q108
                   have hw108_3 := hx108_3
                   have hw108_2 := hx108_2
                   have hw108_1 := hx108_1
                   have hw108_0 := hx108_0
                   obtain rfl : ad105 = ad108 := (by injection e108)
                   replace hx108_0 := (HB.out.cell (World.block_lt_of_cell? w _ hx108_0)).trans hx108_0
                   replace hx108_1 := (HB.out.cell (World.block_lt_of_cell? w _ hx108_1)).trans hx108_1
                   replace hx108_2 := (HB.out.cell (World.block_lt_of_cell? w _ hx108_2)).trans hx108_2
                   replace hx108_3 := (HB.out.cell (World.block_lt_of_cell? w _ hx108_3)).trans hx108_3
                   replace p108 := eq_true p108
                   replace q108 := eq_true q108
                   refine start_ (n := 51) (S := fun w' => w'.cell? ⟨gb106, 0, none⟩ = some (.int .i64 ((rd_T178 l0_1 x18_2).f0)) ∧ w'.cell? ⟨gb106, 1, none⟩ = some (.int .i64 ((rd_T178 l0_1 x18_2).f1)) ∧ w'.cell? ⟨gb106, 2, none⟩ = some (.int .i64 ((rd_T178 l0_1 x18_2).f2)) ∧ w'.cell? ⟨gb106, 3, none⟩ = some (.int .i64 ((rd_T178 l0_1 x18_2).f3)) ∧ w'.cell? ⟨gb103, 0, none⟩ = some (.int .i64 a0_0) ∧ w'.cell? ⟨gb103, 1, none⟩ = some (.slice (some ad105) l0_1.length c0_1) ∧ w'.cell? (ad105.add (((ji20)).toNat * 4)) = some (.int .i64 ((rd_T178 l0_1 (ji20)).f0)) ∧ w'.cell? ⟨(ad105.add (((ji20)).toNat * 4)).block, (ad105.add (((ji20)).toNat * 4)).off + 1, none⟩ = some (.int .i64 ((rd_T178 l0_1 (ji20)).f1)) ∧ w'.cell? ⟨(ad105.add (((ji20)).toNat * 4)).block, (ad105.add (((ji20)).toNat * 4)).off + 2, none⟩ = some (.int .i64 ((rd_T178 l0_1 (ji20)).f2)) ∧ w'.cell? ⟨(ad105.add (((ji20)).toNat * 4)).block, (ad105.add (((ji20)).toNat * 4)).off + 3, none⟩ = some (.int .i64 ((rd_T178 l0_1 (ji20)).f3))) (ds := []) #[false, false, false, false, false, false, false, false, false, false, false, false, false, false, false, false, false, false, false, false, false, false, false, false, false, false, false, false, false, false, false, false, false, false, false, false, false, false, false, false, false, false, false, false, false, false, false, false, false, false, false] (by kernel_rfl) rfl rfl ⟨(blk_cell BK106.out 0).trans rfl, (blk_cell BK106.out 1).trans rfl, (blk_cell BK106.out 2).trans rfl, (blk_cell BK106.out 3).trans rfl, (blk_cell BK103.out 0).trans rfl, (blk_cell BK103.out 1).trans rfl, ((HB.out.cell (World.block_lt_of_cell? w _ hw108_0)).trans hw108_0), ((HB.out.cell (World.block_lt_of_cell? w _ hw108_1)).trans hw108_1), ((HB.out.cell (World.block_lt_of_cell? w _ hw108_2)).trans hw108_2), ((HB.out.cell (World.block_lt_of_cell? w _ hw108_3)).trans hw108_3)⟩ (fun hHeld => ?_); refine with_tabW spec_GoodClock.tab6 spec_GoodClock.bits6 (fun HT_ HW_ => ?_)
                   generalize w35.drew = w36 at BK103 BK106 HB hx108_0 hx108_1 hx108_2 hx108_3 hHeld ⊢
                   refine pureA 0 23 (bz 51 1) rfl rfl (any_of HT_.out (by kernel_rfl)) ?_
                   refine takeA 1 24 (bz 51 3) rfl rfl (take_ofW HT_.out HW_.out (by kernel_rfl)) hHeld (by rintro w' ⟨s0, s1, s2, s3, s4, s5, s6, s7, s8, s9⟩; go_simp; with_reducible rfl) ?_
                   refine one_ (i := 2) (N := some 25) (bz 51 7) rfl rfl (one_of HT_.out (by kernel_rfl)) (by decide) (fun K hK => ?_)
                   refine goes_ Try.func87 (by kernel_rfl) rfl #[.int .i64 ((rd_T178 l0_1 x18_2).f0), .int .i64 0, .int .i64 999] (by rfl) rfl rfl (by (try simp only [List.map_toArray, List.map_cons, List.map_nil]); first | done | rfl | (simp only [List.length_drop, List.length_take]; rfl)) ?_
                   with_reducible refine (spec_l1In.calls ((rd_T178 l0_1 x18_2).f0) 0 999 true _ A17.out).mono ?_
                   rintro e w' ⟨rfl, ⟨nd, rfl⟩⟩
                   refine ⟨_, rfl, ?_⟩
                   refine hK.out _ _ ⟨(blk_cell BK106.out 0).trans rfl, (blk_cell BK106.out 1).trans rfl, (blk_cell BK106.out 2).trans rfl, (blk_cell BK106.out 3).trans rfl, (blk_cell BK103.out 0).trans rfl, (blk_cell BK103.out 1).trans rfl, ((HB.out.cell (World.block_lt_of_cell? w _ hw108_0)).trans hw108_0), ((HB.out.cell (World.block_lt_of_cell? w _ hw108_1)).trans hw108_1), ((HB.out.cell (World.block_lt_of_cell? w _ hw108_2)).trans hw108_2), ((HB.out.cell (World.block_lt_of_cell? w _ hw108_3)).trans hw108_3)⟩ (fun hHeld => ?_)
                   clear hK K
                   refine norm_ (a' := ?_) ?_ ?_
                   rotate_left
                   ·show Act.put _ (some 25) _ = _
                    simp only [Act.put, List.setIfInBounds_toArray, List.set_cons_zero, List.set_cons_succ, i64_w, i32_w]
                    rfl
                   refine pureA 3 26 (bz 51 15) rfl rfl (any_of HT_.out (by kernel_rfl)) ?_
                   refine pureA 4 27 (bz 51 31) rfl rfl (any_of HT_.out (by kernel_rfl)) ?_
                   refine pureA 5 28 (bz 51 63) rfl rfl (any_of HT_.out (by kernel_rfl)) ?_
                   refine pureA 6 29 (bz 51 127) rfl rfl (any_of HT_.out (by kernel_rfl)) ?_
                   refine pureA 7 30 (bz 51 255) rfl rfl (any_of HT_.out (by kernel_rfl)) ?_
                   refine pureA 8 31 (bz 51 511) rfl rfl (any_of HT_.out (by kernel_rfl)) ?_
                   refine pureA 10 33 (bz 51 1535) rfl rfl (any_of HT_.out (by kernel_rfl)) ?_
                   refine pureA 11 34 (bz 51 3583) rfl rfl (any_of HT_.out (by kernel_rfl)) ?_
                   refine pureA 15 38 (bz 51 36351) rfl rfl (any_of HT_.out (by kernel_rfl)) ?_
                   refine takeA 9 32 (bz 51 36863) rfl rfl (take_ofW HT_.out HW_.out (by kernel_rfl)) hHeld (by rintro w' ⟨s0, s1, s2, s3, s4, s5, s6, s7, s8, s9⟩; go_simp; with_reducible rfl) ?_
                   refine pureA 12 35 (bz 51 40959) rfl rfl (any_of HT_.out (by kernel_rfl)) ?_
                   refine pureA 13 36 (bz 51 49151) rfl rfl (any_of HT_.out (by kernel_rfl)) ?_
                   refine takeA 14 37 (bz 51 65535) rfl rfl (take_ofW HT_.out HW_.out (by kernel_rfl)) hHeld (by rintro w' ⟨s0, s1, s2, s3, s4, s5, s6, s7, s8, s9⟩; go_simp; with_reducible rfl) ?_
                   refine takeA 16 39 (bz 51 131071) rfl rfl (take_ofW HT_.out HW_.out (by kernel_rfl)) hHeld (by rintro w' ⟨s0, s1, s2, s3, s4, s5, s6, s7, s8, s9⟩; go_simp; with_reducible rfl) ?_
                   refine pureA 17 40 (bz 51 262143) rfl rfl (any_of HT_.out (by kernel_rfl)) ?_
                   refine pureA 18 41 (bz 51 524287) rfl rfl (any_of HT_.out (by kernel_rfl)) ?_
                   refine pureA 19 42 (bz 51 1048575) rfl rfl (any_of HT_.out (by kernel_rfl)) ?_
                   refine pureA 20 43 (bz 51 2097151) rfl rfl (any_of HT_.out (by kernel_rfl)) ?_
                   refine pureA 21 44 (bz 51 4194303) rfl rfl (any_of HT_.out (by kernel_rfl)) ?_
                   refine pureA 23 46 (bz 51 12582911) rfl rfl (any_of HT_.out (by kernel_rfl)) ?_
                   refine takeA 22 45 (bz 51 16777215) rfl rfl (take_ofW HT_.out HW_.out (by kernel_rfl)) hHeld (by rintro w' ⟨s0, s1, s2, s3, s4, s5, s6, s7, s8, s9⟩; go_simp; with_reducible rfl) ?_
                   refine takeA 24 47 (bz 51 33554431) rfl rfl (take_ofW HT_.out HW_.out (by kernel_rfl)) hHeld (by rintro w' ⟨s0, s1, s2, s3, s4, s5, s6, s7, s8, s9⟩; go_simp; with_reducible rfl) ?_
                   refine pureA 25 48 (bz 51 67108863) rfl rfl (any_of HT_.out (by kernel_rfl)) ?_
                   refine one_ (i := 26) (N := some 49) (bz 51 134217727) rfl rfl (one_of HT_.out (by kernel_rfl)) (by decide) (fun K hK => ?_)
                   refine goes_ Try.func87 (by kernel_rfl) rfl #[.int .i64 ((rd_T178 l0_1 x18_2).f1), .int .i64 (wrap64 (a0_0 + 1)), .int .i64 200000] (by rfl) rfl rfl (by (try simp only [List.map_toArray, List.map_cons, List.map_nil]); first | done | rfl | (simp only [List.length_drop, List.length_take]; rfl)) ?_
                   with_reducible refine (spec_l1In.calls ((rd_T178 l0_1 x18_2).f1) (wrap64 (a0_0 + 1)) 200000 true _ A26.out).mono ?_
                   rintro e w' ⟨rfl, ⟨nd, rfl⟩⟩
                   refine ⟨_, rfl, ?_⟩
                   refine hK.out _ _ ⟨(blk_cell BK106.out 0).trans rfl, (blk_cell BK106.out 1).trans rfl, (blk_cell BK106.out 2).trans rfl, (blk_cell BK106.out 3).trans rfl, (blk_cell BK103.out 0).trans rfl, (blk_cell BK103.out 1).trans rfl, ((HB.out.cell (World.block_lt_of_cell? w _ hw108_0)).trans hw108_0), ((HB.out.cell (World.block_lt_of_cell? w _ hw108_1)).trans hw108_1), ((HB.out.cell (World.block_lt_of_cell? w _ hw108_2)).trans hw108_2), ((HB.out.cell (World.block_lt_of_cell? w _ hw108_3)).trans hw108_3)⟩ (fun hHeld => ?_)
                   clear hK K
                   refine norm_ (a' := ?_) ?_ ?_
                   rotate_left
                   ·show Act.put _ (some 49) _ = _
                    simp only [Act.put, List.setIfInBounds_toArray, List.set_cons_zero, List.set_cons_succ, i64_w, i32_w]
                    rfl
                   refine pureA 27 50 (bz 51 268435455) rfl rfl (any_of HT_.out (by kernel_rfl)) ?_
                   refine pureA 28 51 (bz 51 536870911) rfl rfl (any_of HT_.out (by kernel_rfl)) ?_
                   refine pureA 29 52 (bz 51 1073741823) rfl rfl (any_of HT_.out (by kernel_rfl)) ?_
                   refine pureA 30 53 (bz 51 2147483647) rfl rfl (any_of HT_.out (by kernel_rfl)) ?_
                   refine takeA 31 54 (bz 51 4294967295) rfl rfl (take_ofW HT_.out HW_.out (by kernel_rfl)) hHeld (by rintro w' ⟨s0, s1, s2, s3, s4, s5, s6, s7, s8, s9⟩; go_simp; with_reducible rfl) ?_
                   refine one_ (i := 32) (N := some 55) (bz 51 8589934591) rfl rfl (one_of HT_.out (by kernel_rfl)) (by decide) (fun K hK => ?_)
                   refine goes_ Try.func87 (by kernel_rfl) rfl #[.int .i64 ((rd_T178 l0_1 x18_2).f2), .int .i64 0, .int .i64 100000] (by rfl) rfl rfl (by (try simp only [List.map_toArray, List.map_cons, List.map_nil]); first | done | rfl | (simp only [List.length_drop, List.length_take]; rfl)) ?_
                   with_reducible refine (spec_l1In.calls ((rd_T178 l0_1 x18_2).f2) 0 100000 true _ A28.out).mono ?_
                   rintro e w' ⟨rfl, ⟨nd, rfl⟩⟩
                   refine ⟨_, rfl, ?_⟩
                   refine hK.out _ _ ⟨(blk_cell BK106.out 0).trans rfl, (blk_cell BK106.out 1).trans rfl, (blk_cell BK106.out 2).trans rfl, (blk_cell BK106.out 3).trans rfl, (blk_cell BK103.out 0).trans rfl, (blk_cell BK103.out 1).trans rfl, ((HB.out.cell (World.block_lt_of_cell? w _ hw108_0)).trans hw108_0), ((HB.out.cell (World.block_lt_of_cell? w _ hw108_1)).trans hw108_1), ((HB.out.cell (World.block_lt_of_cell? w _ hw108_2)).trans hw108_2), ((HB.out.cell (World.block_lt_of_cell? w _ hw108_3)).trans hw108_3)⟩ (fun hHeld => ?_)
                   clear hK K
                   refine norm_ (a' := ?_) ?_ ?_
                   rotate_left
                   ·show Act.put _ (some 55) _ = _
                    simp only [Act.put, List.setIfInBounds_toArray, List.set_cons_zero, List.set_cons_succ, i64_w, i32_w]
                    rfl
                   refine pureA 33 56 (bz 51 17179869183) rfl rfl (any_of HT_.out (by kernel_rfl)) ?_
                   refine pureA 34 57 (bz 51 34359738367) rfl rfl (any_of HT_.out (by kernel_rfl)) ?_
                   refine pureA 35 58 (bz 51 68719476735) rfl rfl (any_of HT_.out (by kernel_rfl)) ?_
                   refine pureA 36 59 (bz 51 137438953471) rfl rfl (any_of HT_.out (by kernel_rfl)) ?_
                   refine takeA 37 60 (bz 51 274877906943) rfl rfl (take_ofW HT_.out HW_.out (by kernel_rfl)) hHeld (by rintro w' ⟨s0, s1, s2, s3, s4, s5, s6, s7, s8, s9⟩; go_simp; with_reducible rfl) ?_
                   refine one_ (i := 38) (N := some 61) (bz 51 549755813887) rfl rfl (one_of HT_.out (by kernel_rfl)) (by decide) (fun K hK => ?_)
                   refine goes_ Try.func87 (by kernel_rfl) rfl #[.int .i64 ((rd_T178 l0_1 x18_2).f3), .int .i64 1, .int .i64 1000] (by rfl) rfl rfl (by (try simp only [List.map_toArray, List.map_cons, List.map_nil]); first | done | rfl | (simp only [List.length_drop, List.length_take]; rfl)) ?_
                   with_reducible refine (spec_l1In.calls ((rd_T178 l0_1 x18_2).f3) 1 1000 true _ A30.out).mono ?_
                   rintro e w' ⟨rfl, ⟨nd, rfl⟩⟩
                   refine ⟨_, rfl, ?_⟩
                   refine hK.out _ _ ⟨(blk_cell BK106.out 0).trans rfl, (blk_cell BK106.out 1).trans rfl, (blk_cell BK106.out 2).trans rfl, (blk_cell BK106.out 3).trans rfl, (blk_cell BK103.out 0).trans rfl, (blk_cell BK103.out 1).trans rfl, ((HB.out.cell (World.block_lt_of_cell? w _ hw108_0)).trans hw108_0), ((HB.out.cell (World.block_lt_of_cell? w _ hw108_1)).trans hw108_1), ((HB.out.cell (World.block_lt_of_cell? w _ hw108_2)).trans hw108_2), ((HB.out.cell (World.block_lt_of_cell? w _ hw108_3)).trans hw108_3)⟩ (fun hHeld => ?_)
                   clear hK K
                   refine norm_ (a' := ?_) ?_ ?_
                   rotate_left
                   ·show Act.put _ (some 61) _ = _
                    simp only [Act.put, List.setIfInBounds_toArray, List.set_cons_zero, List.set_cons_succ, i64_w, i32_w]
                    rfl
                   refine pureA 39 62 (bz 51 1099511627775) rfl rfl (any_of HT_.out (by kernel_rfl)) ?_
                   refine pureA 40 63 (bz 51 2199023255551) rfl rfl (any_of HT_.out (by kernel_rfl)) ?_
                   refine pureA 41 64 (bz 51 4398046511103) rfl rfl (any_of HT_.out (by kernel_rfl)) ?_
                   refine pureA 42 65 (bz 51 8796093022207) rfl rfl (any_of HT_.out (by kernel_rfl)) ?_
                   refine takeA 43 66 (bz 51 17592186044415) rfl rfl (take_ofW HT_.out HW_.out (by kernel_rfl)) hHeld (by rintro w' ⟨s0, s1, s2, s3, s4, s5, s6, s7, s8, s9⟩; go_simp; with_reducible rfl) ?_
                   refine pureA 44 67 (bz 51 35184372088831) rfl rfl (any_of HT_.out (by kernel_rfl)) ?_
                   refine pureA 45 68 (bz 51 70368744177663) rfl rfl (any_of HT_.out (by kernel_rfl)) ?_
                   refine pureU 46 69 (bz 51 140737488355327) rfl rfl (any_of HT_.out (by kernel_rfl)) ?_
                   refine pureU 47 70 (bz 51 281474976710655) rfl rfl (any_of HT_.out (by kernel_rfl)) ?_
                   refine pureU 48 71 (bz 51 562949953421311) rfl rfl (any_of HT_.out (by kernel_rfl)) ?_
                   refine pureA 49 72 (bz 51 1125899906842623) rfl rfl (any_of HT_.out (by kernel_rfl)) ?_
                   refine pureA 50 73 (bz 51 2251799813685247) rfl rfl (any_of HT_.out (by kernel_rfl)) ?_
                   refine done_ (done_of HT_.out (by kernel_rfl)) ?_
                   try go_wp2
                   go_meet
                   case rel => exact ⟨_, (false), (by first | rfl | (simp; done) | (simp [*]; done) | exact not_isEmpty _ | exact (not_isEmpty _).symm | exact is_empty _ | exact (is_empty _).symm), H', ⟨by have := HJ1.out; have := HK2.out; first | omega | exact Nat.le_refl _⟩, ⟨by (with_reducible repeat (first | refine blk_drewN ?_ _ | refine blk_drew ?_ | refine blk_alloc ?_ _)); exact BK103.out⟩, ⟨by (with_reducible repeat (first | refine blk_drewN ?_ _ | refine blk_drew ?_ | refine blk_alloc ?_ _)); exact BK106.out⟩, ⟨by repeat (first | (with_reducible first | exact HB.out | apply below_alloc | apply pw_below_drewN | apply below_drew1 | refine below_set ?_ GE103.out | refine below_set ?_ GE106.out) | exact HB.out)⟩⟩
                 ·replace c31 := Bool.eq_false_iff.mpr c31
                  subst c31
                  have H1 : (spec_GoodClock.j2 k2 l0_1 (l0_1.length : Int) x18_2 true a0_0 l0_1) = some r := by rw [if_neg (show ¬ (false = true) by decide)] at H; exact H
                  clear H
                  have H := H1
                  clear H1
                  have H' := Aside0.mk H
                  clear H
                  try go_wp2
                  have n0_ : Aside0 (((((w14.setCell ⟨gb106, 0, none⟩ (.int .i64 ((rd_T178 l0_1 x18_2).f0))).setCell ⟨gb106, 1, none⟩ (.int .i64 ((rd_T178 l0_1 x18_2).f1))).setCell ⟨gb106, 2, none⟩ (.int .i64 ((rd_T178 l0_1 x18_2).f2))).setCell ⟨gb106, 3, none⟩ (.int .i64 ((rd_T178 l0_1 x18_2).f3))).heap[gb103]? = some (.cells #[.int .i64 a0_0, .slice (some ad105) l0_1.length c0_1] 83 (0, 0))) := ⟨by (with_reducible repeat (first | refine blk_drewN ?_ _ | refine blk_drew ?_ | refine blk_alloc ?_ _)); refine blk_far ?_ NB103_106.out _; (with_reducible repeat (first | refine blk_drewN ?_ _ | refine blk_drew ?_ | refine blk_alloc ?_ _)); refine blk_far ?_ NB103_106.out _; (with_reducible repeat (first | refine blk_drewN ?_ _ | refine blk_drew ?_ | refine blk_alloc ?_ _)); refine blk_far ?_ NB103_106.out _; (with_reducible repeat (first | refine blk_drewN ?_ _ | refine blk_drew ?_ | refine blk_alloc ?_ _)); refine blk_far ?_ NB103_106.out _; (with_reducible repeat (first | refine blk_drewN ?_ _ | refine blk_drew ?_ | refine blk_alloc ?_ _)); exact BK103.out⟩
                  have n1_ : Aside0 (((((w14.setCell ⟨gb106, 0, none⟩ (.int .i64 ((rd_T178 l0_1 x18_2).f0))).setCell ⟨gb106, 1, none⟩ (.int .i64 ((rd_T178 l0_1 x18_2).f1))).setCell ⟨gb106, 2, none⟩ (.int .i64 ((rd_T178 l0_1 x18_2).f2))).setCell ⟨gb106, 3, none⟩ (.int .i64 ((rd_T178 l0_1 x18_2).f3))).heap[gb106]? = some (.cells #[.int .i64 ((rd_T178 l0_1 x18_2).f0), .int .i64 ((rd_T178 l0_1 x18_2).f1), .int .i64 ((rd_T178 l0_1 x18_2).f2), .int .i64 ((rd_T178 l0_1 x18_2).f3)] 178 (0, 0))) := ⟨by (with_reducible repeat (first | refine blk_drewN ?_ _ | refine blk_drew ?_ | refine blk_alloc ?_ _)); refine blk_put (cs := #[.int .i64 ((rd_T178 l0_1 x18_2).f0), .int .i64 ((rd_T178 l0_1 x18_2).f1), .int .i64 ((rd_T178 l0_1 x18_2).f2), .int .i64 0]) ?_ 3 _ rfl; (with_reducible repeat (first | refine blk_drewN ?_ _ | refine blk_drew ?_ | refine blk_alloc ?_ _)); refine blk_put (cs := #[.int .i64 ((rd_T178 l0_1 x18_2).f0), .int .i64 ((rd_T178 l0_1 x18_2).f1), .int .i64 0, .int .i64 0]) ?_ 2 _ rfl; (with_reducible repeat (first | refine blk_drewN ?_ _ | refine blk_drew ?_ | refine blk_alloc ?_ _)); refine blk_put (cs := #[.int .i64 ((rd_T178 l0_1 x18_2).f0), .int .i64 0, .int .i64 0, .int .i64 0]) ?_ 1 _ rfl; (with_reducible repeat (first | refine blk_drewN ?_ _ | refine blk_drew ?_ | refine blk_alloc ?_ _)); refine blk_put (cs := #[.int .i64 0, .int .i64 0, .int .i64 0, .int .i64 0]) ?_ 0 _ rfl; (with_reducible repeat (first | refine blk_drewN ?_ _ | refine blk_drew ?_ | refine blk_alloc ?_ _)); exact BK106.out⟩
                  have n2_ : Aside0 (Below w.heap.size w ((((w14.setCell ⟨gb106, 0, none⟩ (.int .i64 ((rd_T178 l0_1 x18_2).f0))).setCell ⟨gb106, 1, none⟩ (.int .i64 ((rd_T178 l0_1 x18_2).f1))).setCell ⟨gb106, 2, none⟩ (.int .i64 ((rd_T178 l0_1 x18_2).f2))).setCell ⟨gb106, 3, none⟩ (.int .i64 ((rd_T178 l0_1 x18_2).f3)))) := ⟨by repeat (first | (with_reducible first | exact HB.out | apply below_alloc | apply pw_below_drewN | apply below_drew1 | refine below_set ?_ GE103.out | refine below_set ?_ GE106.out) | exact HB.out)⟩
                  (try clear BK103)
                  (try clear BK106)
                  (try clear HB)
                  generalize ((((w14.setCell ⟨gb106, 0, none⟩ (.int .i64 ((rd_T178 l0_1 x18_2).f0))).setCell ⟨gb106, 1, none⟩ (.int .i64 ((rd_T178 l0_1 x18_2).f1))).setCell ⟨gb106, 2, none⟩ (.int .i64 ((rd_T178 l0_1 x18_2).f2))).setCell ⟨gb106, 3, none⟩ (.int .i64 ((rd_T178 l0_1 x18_2).f3))) = w37 at n0_ n1_ n2_ ⊢
                  have BK103 := n0_
                  have BK106 := n1_
                  have HB := n2_
                  clear n0_ n1_ n2_
                  have n0_ := Aside0.mk (blk_drew BK103.out)
                  have n1_ := Aside0.mk (blk_drew BK106.out)
                  have n2_ := Aside0.mk (below_drew1 HB.out)
                  clear BK103
                  clear BK106
                  clear HB
                  have BK103 := n0_
                  have BK106 := n1_
                  have HB := n2_
                  clear n0_ n1_ n2_
                  have p108 : 0 ≤ ((ji20) : Int) := of_decide_eq_true (by first | (with_reducible assumption) | assumption)
                  have q108 : (ji20) < (l0_1.length : Int) := of_decide_eq_true (by first | (with_reducible assumption) | assumption)
                  obtain ⟨ad108, e108, hx108_0, hx108_1, hx108_2, hx108_3⟩ := at_T178 HR0_1.out (ji20) p108 q108
                  have hw108_3 := hx108_3
                  have hw108_2 := hx108_2
                  have hw108_1 := hx108_1
                  have hw108_0 := hx108_0
                  obtain rfl : ad105 = ad108 := (by injection e108)
                  replace hx108_0 := (HB.out.cell (World.block_lt_of_cell? w _ hx108_0)).trans hx108_0
                  replace hx108_1 := (HB.out.cell (World.block_lt_of_cell? w _ hx108_1)).trans hx108_1
                  replace hx108_2 := (HB.out.cell (World.block_lt_of_cell? w _ hx108_2)).trans hx108_2
                  replace hx108_3 := (HB.out.cell (World.block_lt_of_cell? w _ hx108_3)).trans hx108_3
                  replace p108 := eq_true p108
                  replace q108 := eq_true q108
                  refine start_ (n := 51) (S := fun w' => w'.cell? ⟨gb106, 0, none⟩ = some (.int .i64 ((rd_T178 l0_1 x18_2).f0)) ∧ w'.cell? ⟨gb106, 1, none⟩ = some (.int .i64 ((rd_T178 l0_1 x18_2).f1)) ∧ w'.cell? ⟨gb106, 2, none⟩ = some (.int .i64 ((rd_T178 l0_1 x18_2).f2)) ∧ w'.cell? ⟨gb106, 3, none⟩ = some (.int .i64 ((rd_T178 l0_1 x18_2).f3)) ∧ w'.cell? ⟨gb103, 0, none⟩ = some (.int .i64 a0_0) ∧ w'.cell? ⟨gb103, 1, none⟩ = some (.slice (some ad105) l0_1.length c0_1) ∧ w'.cell? (ad105.add (((ji20)).toNat * 4)) = some (.int .i64 ((rd_T178 l0_1 (ji20)).f0)) ∧ w'.cell? ⟨(ad105.add (((ji20)).toNat * 4)).block, (ad105.add (((ji20)).toNat * 4)).off + 1, none⟩ = some (.int .i64 ((rd_T178 l0_1 (ji20)).f1)) ∧ w'.cell? ⟨(ad105.add (((ji20)).toNat * 4)).block, (ad105.add (((ji20)).toNat * 4)).off + 2, none⟩ = some (.int .i64 ((rd_T178 l0_1 (ji20)).f2)) ∧ w'.cell? ⟨(ad105.add (((ji20)).toNat * 4)).block, (ad105.add (((ji20)).toNat * 4)).off + 3, none⟩ = some (.int .i64 ((rd_T178 l0_1 (ji20)).f3))) (ds := []) #[false, false, false, false, false, false, false, false, false, false, false, false, false, false, false, false, false, false, false, false, false, false, false, false, false, false, false, false, false, false, false, false, false, false, false, false, false, false, false, false, false, false, false, false, false, false, false, false, false, false, false] (by kernel_rfl) rfl rfl ⟨(blk_cell BK106.out 0).trans rfl, (blk_cell BK106.out 1).trans rfl, (blk_cell BK106.out 2).trans rfl, (blk_cell BK106.out 3).trans rfl, (blk_cell BK103.out 0).trans rfl, (blk_cell BK103.out 1).trans rfl, ((HB.out.cell (World.block_lt_of_cell? w _ hw108_0)).trans hw108_0), ((HB.out.cell (World.block_lt_of_cell? w _ hw108_1)).trans hw108_1), ((HB.out.cell (World.block_lt_of_cell? w _ hw108_2)).trans hw108_2), ((HB.out.cell (World.block_lt_of_cell? w _ hw108_3)).trans hw108_3)⟩ (fun hHeld => ?_); refine with_tabW spec_GoodClock.tab6 spec_GoodClock.bits6 (fun HT_ HW_ => ?_)
                  generalize w37.drew = w38 at BK103 BK106 HB hx108_0 hx108_1 hx108_2 hx108_3 hHeld ⊢
                  refine pureA 0 23 (bz 51 1) rfl rfl (any_of HT_.out (by kernel_rfl)) ?_
                  refine takeA 1 24 (bz 51 3) rfl rfl (take_ofW HT_.out HW_.out (by kernel_rfl)) hHeld (by rintro w' ⟨s0, s1, s2, s3, s4, s5, s6, s7, s8, s9⟩; go_simp; with_reducible rfl) ?_
                  refine one_ (i := 2) (N := some 25) (bz 51 7) rfl rfl (one_of HT_.out (by kernel_rfl)) (by decide) (fun K hK => ?_)
                  refine goes_ Try.func87 (by kernel_rfl) rfl #[.int .i64 ((rd_T178 l0_1 x18_2).f0), .int .i64 0, .int .i64 999] (by rfl) rfl rfl (by (try simp only [List.map_toArray, List.map_cons, List.map_nil]); first | done | rfl | (simp only [List.length_drop, List.length_take]; rfl)) ?_
                  with_reducible refine (spec_l1In.calls ((rd_T178 l0_1 x18_2).f0) 0 999 true _ A17.out).mono ?_
                  rintro e w' ⟨rfl, ⟨nd, rfl⟩⟩
                  refine ⟨_, rfl, ?_⟩
                  refine hK.out _ _ ⟨(blk_cell BK106.out 0).trans rfl, (blk_cell BK106.out 1).trans rfl, (blk_cell BK106.out 2).trans rfl, (blk_cell BK106.out 3).trans rfl, (blk_cell BK103.out 0).trans rfl, (blk_cell BK103.out 1).trans rfl, ((HB.out.cell (World.block_lt_of_cell? w _ hw108_0)).trans hw108_0), ((HB.out.cell (World.block_lt_of_cell? w _ hw108_1)).trans hw108_1), ((HB.out.cell (World.block_lt_of_cell? w _ hw108_2)).trans hw108_2), ((HB.out.cell (World.block_lt_of_cell? w _ hw108_3)).trans hw108_3)⟩ (fun hHeld => ?_)
                  clear hK K
                  refine norm_ (a' := ?_) ?_ ?_
                  rotate_left
                  ·show Act.put _ (some 25) _ = _
                   simp only [Act.put, List.setIfInBounds_toArray, List.set_cons_zero, List.set_cons_succ, i64_w, i32_w]
                   rfl
                  refine pureA 3 26 (bz 51 15) rfl rfl (any_of HT_.out (by kernel_rfl)) ?_
                  refine pureA 4 27 (bz 51 31) rfl rfl (any_of HT_.out (by kernel_rfl)) ?_
                  refine pureA 5 28 (bz 51 63) rfl rfl (any_of HT_.out (by kernel_rfl)) ?_
                  refine pureA 6 29 (bz 51 127) rfl rfl (any_of HT_.out (by kernel_rfl)) ?_
                  refine pureA 7 30 (bz 51 255) rfl rfl (any_of HT_.out (by kernel_rfl)) ?_
                  refine pureA 8 31 (bz 51 511) rfl rfl (any_of HT_.out (by kernel_rfl)) ?_
                  refine pureA 10 33 (bz 51 1535) rfl rfl (any_of HT_.out (by kernel_rfl)) ?_
                  refine pureA 11 34 (bz 51 3583) rfl rfl (any_of HT_.out (by kernel_rfl)) ?_
                  refine pureA 15 38 (bz 51 36351) rfl rfl (any_of HT_.out (by kernel_rfl)) ?_
                  refine takeA 9 32 (bz 51 36863) rfl rfl (take_ofW HT_.out HW_.out (by kernel_rfl)) hHeld (by rintro w' ⟨s0, s1, s2, s3, s4, s5, s6, s7, s8, s9⟩; go_simp; with_reducible rfl) ?_
                  refine pureA 12 35 (bz 51 40959) rfl rfl (any_of HT_.out (by kernel_rfl)) ?_
                  refine pureA 13 36 (bz 51 49151) rfl rfl (any_of HT_.out (by kernel_rfl)) ?_
                  refine takeA 14 37 (bz 51 65535) rfl rfl (take_ofW HT_.out HW_.out (by kernel_rfl)) hHeld (by rintro w' ⟨s0, s1, s2, s3, s4, s5, s6, s7, s8, s9⟩; go_simp; with_reducible rfl) ?_
                  refine takeA 16 39 (bz 51 131071) rfl rfl (take_ofW HT_.out HW_.out (by kernel_rfl)) hHeld (by rintro w' ⟨s0, s1, s2, s3, s4, s5, s6, s7, s8, s9⟩; go_simp; with_reducible rfl) ?_
                  refine pureA 17 40 (bz 51 262143) rfl rfl (any_of HT_.out (by kernel_rfl)) ?_
                  refine pureA 18 41 (bz 51 524287) rfl rfl (any_of HT_.out (by kernel_rfl)) ?_
                  refine pureA 19 42 (bz 51 1048575) rfl rfl (any_of HT_.out (by kernel_rfl)) ?_
                  refine pureA 20 43 (bz 51 2097151) rfl rfl (any_of HT_.out (by kernel_rfl)) ?_
                  refine pureA 21 44 (bz 51 4194303) rfl rfl (any_of HT_.out (by kernel_rfl)) ?_
                  refine pureA 23 46 (bz 51 12582911) rfl rfl (any_of HT_.out (by kernel_rfl)) ?_
                  refine takeA 22 45 (bz 51 16777215) rfl rfl (take_ofW HT_.out HW_.out (by kernel_rfl)) hHeld (by rintro w' ⟨s0, s1, s2, s3, s4, s5, s6, s7, s8, s9⟩; go_simp; with_reducible rfl) ?_
                  refine takeA 24 47 (bz 51 33554431) rfl rfl (take_ofW HT_.out HW_.out (by kernel_rfl)) hHeld (by rintro w' ⟨s0, s1, s2, s3, s4, s5, s6, s7, s8, s9⟩; go_simp; with_reducible rfl) ?_
                  refine pureA 25 48 (bz 51 67108863) rfl rfl (any_of HT_.out (by kernel_rfl)) ?_
                  refine one_ (i := 26) (N := some 49) (bz 51 134217727) rfl rfl (one_of HT_.out (by kernel_rfl)) (by decide) (fun K hK => ?_)
                  refine goes_ Try.func87 (by kernel_rfl) rfl #[.int .i64 ((rd_T178 l0_1 x18_2).f1), .int .i64 (wrap64 (a0_0 + 1)), .int .i64 200000] (by rfl) rfl rfl (by (try simp only [List.map_toArray, List.map_cons, List.map_nil]); first | done | rfl | (simp only [List.length_drop, List.length_take]; rfl)) ?_
                  with_reducible refine (spec_l1In.calls ((rd_T178 l0_1 x18_2).f1) (wrap64 (a0_0 + 1)) 200000 true _ A26.out).mono ?_
                  rintro e w' ⟨rfl, ⟨nd, rfl⟩⟩
                  refine ⟨_, rfl, ?_⟩
                  refine hK.out _ _ ⟨(blk_cell BK106.out 0).trans rfl, (blk_cell BK106.out 1).trans rfl, (blk_cell BK106.out 2).trans rfl, (blk_cell BK106.out 3).trans rfl, (blk_cell BK103.out 0).trans rfl, (blk_cell BK103.out 1).trans rfl, ((HB.out.cell (World.block_lt_of_cell? w _ hw108_0)).trans hw108_0), ((HB.out.cell (World.block_lt_of_cell? w _ hw108_1)).trans hw108_1), ((HB.out.cell (World.block_lt_of_cell? w _ hw108_2)).trans hw108_2), ((HB.out.cell (World.block_lt_of_cell? w _ hw108_3)).trans hw108_3)⟩ (fun hHeld => ?_)
                  clear hK K
                  refine norm_ (a' := ?_) ?_ ?_
                  rotate_left
                  ·show Act.put _ (some 49) _ = _
                   simp only [Act.put, List.setIfInBounds_toArray, List.set_cons_zero, List.set_cons_succ, i64_w, i32_w]
                   rfl
                  refine pureA 27 50 (bz 51 268435455) rfl rfl (any_of HT_.out (by kernel_rfl)) ?_
                  refine pureA 28 51 (bz 51 536870911) rfl rfl (any_of HT_.out (by kernel_rfl)) ?_
                  refine pureA 29 52 (bz 51 1073741823) rfl rfl (any_of HT_.out (by kernel_rfl)) ?_
                  refine pureA 30 53 (bz 51 2147483647) rfl rfl (any_of HT_.out (by kernel_rfl)) ?_
                  refine takeA 31 54 (bz 51 4294967295) rfl rfl (take_ofW HT_.out HW_.out (by kernel_rfl)) hHeld (by rintro w' ⟨s0, s1, s2, s3, s4, s5, s6, s7, s8, s9⟩; go_simp; with_reducible rfl) ?_
                  refine one_ (i := 32) (N := some 55) (bz 51 8589934591) rfl rfl (one_of HT_.out (by kernel_rfl)) (by decide) (fun K hK => ?_)
                  refine goes_ Try.func87 (by kernel_rfl) rfl #[.int .i64 ((rd_T178 l0_1 x18_2).f2), .int .i64 0, .int .i64 100000] (by rfl) rfl rfl (by (try simp only [List.map_toArray, List.map_cons, List.map_nil]); first | done | rfl | (simp only [List.length_drop, List.length_take]; rfl)) ?_
                  with_reducible refine (spec_l1In.calls ((rd_T178 l0_1 x18_2).f2) 0 100000 true _ A28.out).mono ?_
                  rintro e w' ⟨rfl, ⟨nd, rfl⟩⟩
                  refine ⟨_, rfl, ?_⟩
                  refine hK.out _ _ ⟨(blk_cell BK106.out 0).trans rfl, (blk_cell BK106.out 1).trans rfl, (blk_cell BK106.out 2).trans rfl, (blk_cell BK106.out 3).trans rfl, (blk_cell BK103.out 0).trans rfl, (blk_cell BK103.out 1).trans rfl, ((HB.out.cell (World.block_lt_of_cell? w _ hw108_0)).trans hw108_0), ((HB.out.cell (World.block_lt_of_cell? w _ hw108_1)).trans hw108_1), ((HB.out.cell (World.block_lt_of_cell? w _ hw108_2)).trans hw108_2), ((HB.out.cell (World.block_lt_of_cell? w _ hw108_3)).trans hw108_3)⟩ (fun hHeld => ?_)
                  clear hK K
                  refine norm_ (a' := ?_) ?_ ?_
                  rotate_left
                  ·show Act.put _ (some 55) _ = _
                   simp only [Act.put, List.setIfInBounds_toArray, List.set_cons_zero, List.set_cons_succ, i64_w, i32_w]
                   rfl
                  refine pureA 33 56 (bz 51 17179869183) rfl rfl (any_of HT_.out (by kernel_rfl)) ?_
                  refine pureA 34 57 (bz 51 34359738367) rfl rfl (any_of HT_.out (by kernel_rfl)) ?_
                  refine pureA 35 58 (bz 51 68719476735) rfl rfl (any_of HT_.out (by kernel_rfl)) ?_
                  refine pureA 36 59 (bz 51 137438953471) rfl rfl (any_of HT_.out (by kernel_rfl)) ?_
                  refine takeA 37 60 (bz 51 274877906943) rfl rfl (take_ofW HT_.out HW_.out (by kernel_rfl)) hHeld (by rintro w' ⟨s0, s1, s2, s3, s4, s5, s6, s7, s8, s9⟩; go_simp; with_reducible rfl) ?_
                  refine one_ (i := 38) (N := some 61) (bz 51 549755813887) rfl rfl (one_of HT_.out (by kernel_rfl)) (by decide) (fun K hK => ?_)
                  refine goes_ Try.func87 (by kernel_rfl) rfl #[.int .i64 ((rd_T178 l0_1 x18_2).f3), .int .i64 1, .int .i64 1000] (by rfl) rfl rfl (by (try simp only [List.map_toArray, List.map_cons, List.map_nil]); first | done | rfl | (simp only [List.length_drop, List.length_take]; rfl)) ?_
                  with_reducible refine (spec_l1In.calls ((rd_T178 l0_1 x18_2).f3) 1 1000 false _ A30.out).mono ?_
                  rintro e w' ⟨rfl, ⟨nd, rfl⟩⟩
                  refine ⟨_, rfl, ?_⟩
                  refine hK.out _ _ ⟨(blk_cell BK106.out 0).trans rfl, (blk_cell BK106.out 1).trans rfl, (blk_cell BK106.out 2).trans rfl, (blk_cell BK106.out 3).trans rfl, (blk_cell BK103.out 0).trans rfl, (blk_cell BK103.out 1).trans rfl, ((HB.out.cell (World.block_lt_of_cell? w _ hw108_0)).trans hw108_0), ((HB.out.cell (World.block_lt_of_cell? w _ hw108_1)).trans hw108_1), ((HB.out.cell (World.block_lt_of_cell? w _ hw108_2)).trans hw108_2), ((HB.out.cell (World.block_lt_of_cell? w _ hw108_3)).trans hw108_3)⟩ (fun hHeld => ?_)
                  clear hK K
                  refine norm_ (a' := ?_) ?_ ?_
                  rotate_left
                  ·show Act.put _ (some 61) _ = _
                   simp only [Act.put, List.setIfInBounds_toArray, List.set_cons_zero, List.set_cons_succ, i64_w, i32_w]
                   rfl
                  refine pureA 39 62 (bz 51 1099511627775) rfl rfl (any_of HT_.out (by kernel_rfl)) ?_
                  refine pureA 40 63 (bz 51 2199023255551) rfl rfl (any_of HT_.out (by kernel_rfl)) ?_
                  refine pureA 41 64 (bz 51 4398046511103) rfl rfl (any_of HT_.out (by kernel_rfl)) ?_
                  refine pureU 42 65 (bz 51 8796093022207) rfl rfl (any_of HT_.out (by kernel_rfl)) ?_
                  refine pureU 43 66 (bz 51 17592186044415) rfl rfl (any_of HT_.out (by kernel_rfl)) ?_
                  refine pureU 44 67 (bz 51 35184372088831) rfl rfl (any_of HT_.out (by kernel_rfl)) ?_
                  refine pureU 45 68 (bz 51 70368744177663) rfl rfl (any_of HT_.out (by kernel_rfl)) ?_
                  refine pureU 46 69 (bz 51 140737488355327) rfl rfl (any_of HT_.out (by kernel_rfl)) ?_
                  refine pureU 47 70 (bz 51 281474976710655) rfl rfl (any_of HT_.out (by kernel_rfl)) ?_
                  refine pureU 48 71 (bz 51 562949953421311) rfl rfl (any_of HT_.out (by kernel_rfl)) ?_
                  refine pureU 49 72 (bz 51 1125899906842623) rfl rfl (any_of HT_.out (by kernel_rfl)) ?_
                  refine pureA 50 73 (bz 51 2251799813685247) rfl rfl (any_of HT_.out (by kernel_rfl)) ?_
                  refine done_ (done_of HT_.out (by kernel_rfl)) ?_
                  try go_wp2
                  go_meet
                  case rel => exact ⟨_, (true), (by first | rfl | (simp; done) | (simp [*]; done) | exact not_isEmpty _ | exact (not_isEmpty _).symm | exact is_empty _ | exact (is_empty _).symm), H', ⟨by have := HJ1.out; have := HK2.out; first | omega | exact Nat.le_refl _⟩, ⟨by (with_reducible repeat (first | refine blk_drewN ?_ _ | refine blk_drew ?_ | refine blk_alloc ?_ _)); exact BK103.out⟩, ⟨by (with_reducible repeat (first | refine blk_drewN ?_ _ | refine blk_drew ?_ | refine blk_alloc ?_ _)); exact BK106.out⟩, ⟨by repeat (first | (with_reducible first | exact HB.out | apply below_alloc | apply pw_below_drewN | apply below_drew1 | refine below_set ?_ GE103.out | refine below_set ?_ GE106.out) | exact HB.out)⟩⟩
                ·replace c29 := Bool.eq_false_iff.mpr c29
                 subst c29
                 have H1 : (spec_GoodClock.j2 k2 l0_1 (l0_1.length : Int) x18_2 true a0_0 l0_1) = some r := by rw [if_neg (show ¬ (false = true) by decide)] at H; exact H
                 clear H
                 have H := H1
                 clear H1
                 have H' := Aside0.mk H
                 clear H
                 try go_wp2
                 have n0_ : Aside0 (((((w14.setCell ⟨gb106, 0, none⟩ (.int .i64 ((rd_T178 l0_1 x18_2).f0))).setCell ⟨gb106, 1, none⟩ (.int .i64 ((rd_T178 l0_1 x18_2).f1))).setCell ⟨gb106, 2, none⟩ (.int .i64 ((rd_T178 l0_1 x18_2).f2))).setCell ⟨gb106, 3, none⟩ (.int .i64 ((rd_T178 l0_1 x18_2).f3))).heap[gb103]? = some (.cells #[.int .i64 a0_0, .slice (some ad105) l0_1.length c0_1] 83 (0, 0))) := ⟨by (with_reducible repeat (first | refine blk_drewN ?_ _ | refine blk_drew ?_ | refine blk_alloc ?_ _)); refine blk_far ?_ NB103_106.out _; (with_reducible repeat (first | refine blk_drewN ?_ _ | refine blk_drew ?_ | refine blk_alloc ?_ _)); refine blk_far ?_ NB103_106.out _; (with_reducible repeat (first | refine blk_drewN ?_ _ | refine blk_drew ?_ | refine blk_alloc ?_ _)); refine blk_far ?_ NB103_106.out _; (with_reducible repeat (first | refine blk_drewN ?_ _ | refine blk_drew ?_ | refine blk_alloc ?_ _)); refine blk_far ?_ NB103_106.out _; (with_reducible repeat (first | refine blk_drewN ?_ _ | refine blk_drew ?_ | refine blk_alloc ?_ _)); exact BK103.out⟩
                 have n1_ : Aside0 (((((w14.setCell ⟨gb106, 0, none⟩ (.int .i64 ((rd_T178 l0_1 x18_2).f0))).setCell ⟨gb106, 1, none⟩ (.int .i64 ((rd_T178 l0_1 x18_2).f1))).setCell ⟨gb106, 2, none⟩ (.int .i64 ((rd_T178 l0_1 x18_2).f2))).setCell ⟨gb106, 3, none⟩ (.int .i64 ((rd_T178 l0_1 x18_2).f3))).heap[gb106]? = some (.cells #[.int .i64 ((rd_T178 l0_1 x18_2).f0), .int .i64 ((rd_T178 l0_1 x18_2).f1), .int .i64 ((rd_T178 l0_1 x18_2).f2), .int .i64 ((rd_T178 l0_1 x18_2).f3)] 178 (0, 0))) := ⟨by (with_reducible repeat (first | refine blk_drewN ?_ _ | refine blk_drew ?_ | refine blk_alloc ?_ _)); refine blk_put (cs := #[.int .i64 ((rd_T178 l0_1 x18_2).f0), .int .i64 ((rd_T178 l0_1 x18_2).f1), .int .i64 ((rd_T178 l0_1 x18_2).f2), .int .i64 0]) ?_ 3 _ rfl; (with_reducible repeat (first | refine blk_drewN ?_ _ | refine blk_drew ?_ | refine blk_alloc ?_ _)); refine blk_put (cs := #[.int .i64 ((rd_T178 l0_1 x18_2).f0), .int .i64 ((rd_T178 l0_1 x18_2).f1), .int .i64 0, .int .i64 0]) ?_ 2 _ rfl; (with_reducible repeat (first | refine blk_drewN ?_ _ | refine blk_drew ?_ | refine blk_alloc ?_ _)); refine blk_put (cs := #[.int .i64 ((rd_T178 l0_1 x18_2).f0), .int .i64 0, .int .i64 0, .int .i64 0]) ?_ 1 _ rfl; (with_reducible repeat (first | refine blk_drewN ?_ _ | refine blk_drew ?_ | refine blk_alloc ?_ _)); refine blk_put (cs := #[.int .i64 0, .int .i64 0, .int .i64 0, .int .i64 0]) ?_ 0 _ rfl; (with_reducible repeat (first | refine blk_drewN ?_ _ | refine blk_drew ?_ | refine blk_alloc ?_ _)); exact BK106.out⟩
                 have n2_ : Aside0 (Below w.heap.size w ((((w14.setCell ⟨gb106, 0, none⟩ (.int .i64 ((rd_T178 l0_1 x18_2).f0))).setCell ⟨gb106, 1, none⟩ (.int .i64 ((rd_T178 l0_1 x18_2).f1))).setCell ⟨gb106, 2, none⟩ (.int .i64 ((rd_T178 l0_1 x18_2).f2))).setCell ⟨gb106, 3, none⟩ (.int .i64 ((rd_T178 l0_1 x18_2).f3)))) := ⟨by repeat (first | (with_reducible first | exact HB.out | apply below_alloc | apply pw_below_drewN | apply below_drew1 | refine below_set ?_ GE103.out | refine below_set ?_ GE106.out) | exact HB.out)⟩
                 (try clear BK103)
                 (try clear BK106)
                 (try clear HB)
                 generalize ((((w14.setCell ⟨gb106, 0, none⟩ (.int .i64 ((rd_T178 l0_1 x18_2).f0))).setCell ⟨gb106, 1, none⟩ (.int .i64 ((rd_T178 l0_1 x18_2).f1))).setCell ⟨gb106, 2, none⟩ (.int .i64 ((rd_T178 l0_1 x18_2).f2))).setCell ⟨gb106, 3, none⟩ (.int .i64 ((rd_T178 l0_1 x18_2).f3))) = w39 at n0_ n1_ n2_ ⊢
                 have BK103 := n0_
                 have BK106 := n1_
                 have HB := n2_
                 clear n0_ n1_ n2_
                 have n0_ := Aside0.mk (blk_drew BK103.out)
                 have n1_ := Aside0.mk (blk_drew BK106.out)
                 have n2_ := Aside0.mk (below_drew1 HB.out)
                 clear BK103
                 clear BK106
                 clear HB
                 have BK103 := n0_
                 have BK106 := n1_
                 have HB := n2_
                 clear n0_ n1_ n2_
                 have p108 : 0 ≤ ((ji20) : Int) := of_decide_eq_true (by first | (with_reducible assumption) | assumption)
                 have q108 : (ji20) < (l0_1.length : Int) := of_decide_eq_true (by first | (with_reducible assumption) | assumption)
                 obtain ⟨ad108, e108, hx108_0, hx108_1, hx108_2, hx108_3⟩ := at_T178 HR0_1.out (ji20) p108 q108
                 have hw108_3 := hx108_3
                 have hw108_2 := hx108_2
                 have hw108_1 := hx108_1
                 have hw108_0 := hx108_0
                 obtain rfl : ad105 = ad108 := (by injection e108)
                 replace hx108_0 := (HB.out.cell (World.block_lt_of_cell? w _ hx108_0)).trans hx108_0
                 replace hx108_1 := (HB.out.cell (World.block_lt_of_cell? w _ hx108_1)).trans hx108_1
                 replace hx108_2 := (HB.out.cell (World.block_lt_of_cell? w _ hx108_2)).trans hx108_2
                 replace hx108_3 := (HB.out.cell (World.block_lt_of_cell? w _ hx108_3)).trans hx108_3
                 replace p108 := eq_true p108
                 replace q108 := eq_true q108
                 refine start_ (n := 51) (S := fun w' => w'.cell? ⟨gb106, 0, none⟩ = some (.int .i64 ((rd_T178 l0_1 x18_2).f0)) ∧ w'.cell? ⟨gb106, 1, none⟩ = some (.int .i64 ((rd_T178 l0_1 x18_2).f1)) ∧ w'.cell? ⟨gb106, 2, none⟩ = some (.int .i64 ((rd_T178 l0_1 x18_2).f2)) ∧ w'.cell? ⟨gb106, 3, none⟩ = some (.int .i64 ((rd_T178 l0_1 x18_2).f3)) ∧ w'.cell? ⟨gb103, 0, none⟩ = some (.int .i64 a0_0) ∧ w'.cell? ⟨gb103, 1, none⟩ = some (.slice (some ad105) l0_1.length c0_1) ∧ w'.cell? (ad105.add (((ji20)).toNat * 4)) = some (.int .i64 ((rd_T178 l0_1 (ji20)).f0)) ∧ w'.cell? ⟨(ad105.add (((ji20)).toNat * 4)).block, (ad105.add (((ji20)).toNat * 4)).off + 1, none⟩ = some (.int .i64 ((rd_T178 l0_1 (ji20)).f1)) ∧ w'.cell? ⟨(ad105.add (((ji20)).toNat * 4)).block, (ad105.add (((ji20)).toNat * 4)).off + 2, none⟩ = some (.int .i64 ((rd_T178 l0_1 (ji20)).f2)) ∧ w'.cell? ⟨(ad105.add (((ji20)).toNat * 4)).block, (ad105.add (((ji20)).toNat * 4)).off + 3, none⟩ = some (.int .i64 ((rd_T178 l0_1 (ji20)).f3))) (ds := []) #[false, false, false, false, false, false, false, false, false, false, false, false, false, false, false, false, false, false, false, false, false, false, false, false, false, false, false, false, false, false, false, false, false, false, false, false, false, false, false, false, false, false, false, false, false, false, false, false, false, false, false] (by kernel_rfl) rfl rfl ⟨(blk_cell BK106.out 0).trans rfl, (blk_cell BK106.out 1).trans rfl, (blk_cell BK106.out 2).trans rfl, (blk_cell BK106.out 3).trans rfl, (blk_cell BK103.out 0).trans rfl, (blk_cell BK103.out 1).trans rfl, ((HB.out.cell (World.block_lt_of_cell? w _ hw108_0)).trans hw108_0), ((HB.out.cell (World.block_lt_of_cell? w _ hw108_1)).trans hw108_1), ((HB.out.cell (World.block_lt_of_cell? w _ hw108_2)).trans hw108_2), ((HB.out.cell (World.block_lt_of_cell? w _ hw108_3)).trans hw108_3)⟩ (fun hHeld => ?_); refine with_tabW spec_GoodClock.tab6 spec_GoodClock.bits6 (fun HT_ HW_ => ?_)
                 generalize w39.drew = w40 at BK103 BK106 HB hx108_0 hx108_1 hx108_2 hx108_3 hHeld ⊢
                 refine pureA 0 23 (bz 51 1) rfl rfl (any_of HT_.out (by kernel_rfl)) ?_
                 refine takeA 1 24 (bz 51 3) rfl rfl (take_ofW HT_.out HW_.out (by kernel_rfl)) hHeld (by rintro w' ⟨s0, s1, s2, s3, s4, s5, s6, s7, s8, s9⟩; go_simp; with_reducible rfl) ?_
                 refine one_ (i := 2) (N := some 25) (bz 51 7) rfl rfl (one_of HT_.out (by kernel_rfl)) (by decide) (fun K hK => ?_)
                 refine goes_ Try.func87 (by kernel_rfl) rfl #[.int .i64 ((rd_T178 l0_1 x18_2).f0), .int .i64 0, .int .i64 999] (by rfl) rfl rfl (by (try simp only [List.map_toArray, List.map_cons, List.map_nil]); first | done | rfl | (simp only [List.length_drop, List.length_take]; rfl)) ?_
                 with_reducible refine (spec_l1In.calls ((rd_T178 l0_1 x18_2).f0) 0 999 true _ A17.out).mono ?_
                 rintro e w' ⟨rfl, ⟨nd, rfl⟩⟩
                 refine ⟨_, rfl, ?_⟩
                 refine hK.out _ _ ⟨(blk_cell BK106.out 0).trans rfl, (blk_cell BK106.out 1).trans rfl, (blk_cell BK106.out 2).trans rfl, (blk_cell BK106.out 3).trans rfl, (blk_cell BK103.out 0).trans rfl, (blk_cell BK103.out 1).trans rfl, ((HB.out.cell (World.block_lt_of_cell? w _ hw108_0)).trans hw108_0), ((HB.out.cell (World.block_lt_of_cell? w _ hw108_1)).trans hw108_1), ((HB.out.cell (World.block_lt_of_cell? w _ hw108_2)).trans hw108_2), ((HB.out.cell (World.block_lt_of_cell? w _ hw108_3)).trans hw108_3)⟩ (fun hHeld => ?_)
                 clear hK K
                 refine norm_ (a' := ?_) ?_ ?_
                 rotate_left
                 ·show Act.put _ (some 25) _ = _
                  simp only [Act.put, List.setIfInBounds_toArray, List.set_cons_zero, List.set_cons_succ, i64_w, i32_w]
                  rfl
                 refine pureA 3 26 (bz 51 15) rfl rfl (any_of HT_.out (by kernel_rfl)) ?_
                 refine pureA 4 27 (bz 51 31) rfl rfl (any_of HT_.out (by kernel_rfl)) ?_
                 refine pureA 5 28 (bz 51 63) rfl rfl (any_of HT_.out (by kernel_rfl)) ?_
                 refine pureA 6 29 (bz 51 127) rfl rfl (any_of HT_.out (by kernel_rfl)) ?_
                 refine pureA 7 30 (bz 51 255) rfl rfl (any_of HT_.out (by kernel_rfl)) ?_
                 refine pureA 8 31 (bz 51 511) rfl rfl (any_of HT_.out (by kernel_rfl)) ?_
                 refine pureA 10 33 (bz 51 1535) rfl rfl (any_of HT_.out (by kernel_rfl)) ?_
                 refine pureA 11 34 (bz 51 3583) rfl rfl (any_of HT_.out (by kernel_rfl)) ?_
                 refine pureA 15 38 (bz 51 36351) rfl rfl (any_of HT_.out (by kernel_rfl)) ?_
                 refine takeA 9 32 (bz 51 36863) rfl rfl (take_ofW HT_.out HW_.out (by kernel_rfl)) hHeld (by rintro w' ⟨s0, s1, s2, s3, s4, s5, s6, s7, s8, s9⟩; go_simp; with_reducible rfl) ?_
                 refine pureA 12 35 (bz 51 40959) rfl rfl (any_of HT_.out (by kernel_rfl)) ?_
                 refine pureA 13 36 (bz 51 49151) rfl rfl (any_of HT_.out (by kernel_rfl)) ?_
                 refine takeA 14 37 (bz 51 65535) rfl rfl (take_ofW HT_.out HW_.out (by kernel_rfl)) hHeld (by rintro w' ⟨s0, s1, s2, s3, s4, s5, s6, s7, s8, s9⟩; go_simp; with_reducible rfl) ?_
                 refine takeA 16 39 (bz 51 131071) rfl rfl (take_ofW HT_.out HW_.out (by kernel_rfl)) hHeld (by rintro w' ⟨s0, s1, s2, s3, s4, s5, s6, s7, s8, s9⟩; go_simp; with_reducible rfl) ?_
                 refine pureA 17 40 (bz 51 262143) rfl rfl (any_of HT_.out (by kernel_rfl)) ?_
                 refine pureA 18 41 (bz 51 524287) rfl rfl (any_of HT_.out (by kernel_rfl)) ?_
                 refine pureA 19 42 (bz 51 1048575) rfl rfl (any_of HT_.out (by kernel_rfl)) ?_
                 refine pureA 20 43 (bz 51 2097151) rfl rfl (any_of HT_.out (by kernel_rfl)) ?_
                 refine pureA 21 44 (bz 51 4194303) rfl rfl (any_of HT_.out (by kernel_rfl)) ?_
                 refine pureA 23 46 (bz 51 12582911) rfl rfl (any_of HT_.out (by kernel_rfl)) ?_
                 refine takeA 22 45 (bz 51 16777215) rfl rfl (take_ofW HT_.out HW_.out (by kernel_rfl)) hHeld (by rintro w' ⟨s0, s1, s2, s3, s4, s5, s6, s7, s8, s9⟩; go_simp; with_reducible rfl) ?_
                 refine takeA 24 47 (bz 51 33554431) rfl rfl (take_ofW HT_.out HW_.out (by kernel_rfl)) hHeld (by rintro w' ⟨s0, s1, s2, s3, s4, s5, s6, s7, s8, s9⟩; go_simp; with_reducible rfl) ?_
                 refine pureA 25 48 (bz 51 67108863) rfl rfl (any_of HT_.out (by kernel_rfl)) ?_
                 refine one_ (i := 26) (N := some 49) (bz 51 134217727) rfl rfl (one_of HT_.out (by kernel_rfl)) (by decide) (fun K hK => ?_)
                 refine goes_ Try.func87 (by kernel_rfl) rfl #[.int .i64 ((rd_T178 l0_1 x18_2).f1), .int .i64 (wrap64 (a0_0 + 1)), .int .i64 200000] (by rfl) rfl rfl (by (try simp only [List.map_toArray, List.map_cons, List.map_nil]); first | done | rfl | (simp only [List.length_drop, List.length_take]; rfl)) ?_
                 with_reducible refine (spec_l1In.calls ((rd_T178 l0_1 x18_2).f1) (wrap64 (a0_0 + 1)) 200000 true _ A26.out).mono ?_
                 rintro e w' ⟨rfl, ⟨nd, rfl⟩⟩
                 refine ⟨_, rfl, ?_⟩
                 refine hK.out _ _ ⟨(blk_cell BK106.out 0).trans rfl, (blk_cell BK106.out 1).trans rfl, (blk_cell BK106.out 2).trans rfl, (blk_cell BK106.out 3).trans rfl, (blk_cell BK103.out 0).trans rfl, (blk_cell BK103.out 1).trans rfl, ((HB.out.cell (World.block_lt_of_cell? w _ hw108_0)).trans hw108_0), ((HB.out.cell (World.block_lt_of_cell? w _ hw108_1)).trans hw108_1), ((HB.out.cell (World.block_lt_of_cell? w _ hw108_2)).trans hw108_2), ((HB.out.cell (World.block_lt_of_cell? w _ hw108_3)).trans hw108_3)⟩ (fun hHeld => ?_)
                 clear hK K
                 refine norm_ (a' := ?_) ?_ ?_
                 rotate_left
                 ·show Act.put _ (some 49) _ = _
                  simp only [Act.put, List.setIfInBounds_toArray, List.set_cons_zero, List.set_cons_succ, i64_w, i32_w]
                  rfl
                 refine pureA 27 50 (bz 51 268435455) rfl rfl (any_of HT_.out (by kernel_rfl)) ?_
                 refine pureA 28 51 (bz 51 536870911) rfl rfl (any_of HT_.out (by kernel_rfl)) ?_
                 refine pureA 29 52 (bz 51 1073741823) rfl rfl (any_of HT_.out (by kernel_rfl)) ?_
                 refine pureA 30 53 (bz 51 2147483647) rfl rfl (any_of HT_.out (by kernel_rfl)) ?_
                 refine takeA 31 54 (bz 51 4294967295) rfl rfl (take_ofW HT_.out HW_.out (by kernel_rfl)) hHeld (by rintro w' ⟨s0, s1, s2, s3, s4, s5, s6, s7, s8, s9⟩; go_simp; with_reducible rfl) ?_
                 refine one_ (i := 32) (N := some 55) (bz 51 8589934591) rfl rfl (one_of HT_.out (by kernel_rfl)) (by decide) (fun K hK => ?_)
                 refine goes_ Try.func87 (by kernel_rfl) rfl #[.int .i64 ((rd_T178 l0_1 x18_2).f2), .int .i64 0, .int .i64 100000] (by rfl) rfl rfl (by (try simp only [List.map_toArray, List.map_cons, List.map_nil]); first | done | rfl | (simp only [List.length_drop, List.length_take]; rfl)) ?_
                 with_reducible refine (spec_l1In.calls ((rd_T178 l0_1 x18_2).f2) 0 100000 false _ A28.out).mono ?_
                 rintro e w' ⟨rfl, ⟨nd, rfl⟩⟩
                 refine ⟨_, rfl, ?_⟩
                 refine hK.out _ _ ⟨(blk_cell BK106.out 0).trans rfl, (blk_cell BK106.out 1).trans rfl, (blk_cell BK106.out 2).trans rfl, (blk_cell BK106.out 3).trans rfl, (blk_cell BK103.out 0).trans rfl, (blk_cell BK103.out 1).trans rfl, ((HB.out.cell (World.block_lt_of_cell? w _ hw108_0)).trans hw108_0), ((HB.out.cell (World.block_lt_of_cell? w _ hw108_1)).trans hw108_1), ((HB.out.cell (World.block_lt_of_cell? w _ hw108_2)).trans hw108_2), ((HB.out.cell (World.block_lt_of_cell? w _ hw108_3)).trans hw108_3)⟩ (fun hHeld => ?_)
                 clear hK K
                 refine norm_ (a' := ?_) ?_ ?_
                 rotate_left
                 ·show Act.put _ (some 55) _ = _
                  simp only [Act.put, List.setIfInBounds_toArray, List.set_cons_zero, List.set_cons_succ, i64_w, i32_w]
                  rfl
                 refine pureA 33 56 (bz 51 17179869183) rfl rfl (any_of HT_.out (by kernel_rfl)) ?_
                 refine pureA 34 57 (bz 51 34359738367) rfl rfl (any_of HT_.out (by kernel_rfl)) ?_
                 refine pureA 35 58 (bz 51 68719476735) rfl rfl (any_of HT_.out (by kernel_rfl)) ?_
                 refine pureU 36 59 (bz 51 137438953471) rfl rfl (any_of HT_.out (by kernel_rfl)) ?_
                 refine pureU 37 60 (bz 51 274877906943) rfl rfl (any_of HT_.out (by kernel_rfl)) ?_
                 refine pureU 38 61 (bz 51 549755813887) rfl rfl (any_of HT_.out (by kernel_rfl)) ?_
                 refine pureU 39 62 (bz 51 1099511627775) rfl rfl (any_of HT_.out (by kernel_rfl)) ?_
                 refine pureA 40 63 (bz 51 2199023255551) rfl rfl (any_of HT_.out (by kernel_rfl)) ?_
                 refine pureA 41 64 (bz 51 4398046511103) rfl rfl (any_of HT_.out (by kernel_rfl)) ?_
                 refine pureU 42 65 (bz 51 8796093022207) rfl rfl (any_of HT_.out (by kernel_rfl)) ?_
                 refine pureU 43 66 (bz 51 17592186044415) rfl rfl (any_of HT_.out (by kernel_rfl)) ?_
                 refine pureU 44 67 (bz 51 35184372088831) rfl rfl (any_of HT_.out (by kernel_rfl)) ?_
                 refine pureU 45 68 (bz 51 70368744177663) rfl rfl (any_of HT_.out (by kernel_rfl)) ?_
                 refine pureU 46 69 (bz 51 140737488355327) rfl rfl (any_of HT_.out (by kernel_rfl)) ?_
                 refine pureU 47 70 (bz 51 281474976710655) rfl rfl (any_of HT_.out (by kernel_rfl)) ?_
                 refine pureU 48 71 (bz 51 562949953421311) rfl rfl (any_of HT_.out (by kernel_rfl)) ?_
                 refine pureU 49 72 (bz 51 1125899906842623) rfl rfl (any_of HT_.out (by kernel_rfl)) ?_
                 refine pureA 50 73 (bz 51 2251799813685247) rfl rfl (any_of HT_.out (by kernel_rfl)) ?_
                 refine done_ (done_of HT_.out (by kernel_rfl)) ?_
                 try go_wp2
                 go_meet
                 case rel => exact ⟨_, (true), (by first | rfl | (simp; done) | (simp [*]; done) | exact not_isEmpty _ | exact (not_isEmpty _).symm | exact is_empty _ | exact (is_empty _).symm), H', ⟨by have := HJ1.out; have := HK2.out; first | omega | exact Nat.le_refl _⟩, ⟨by (with_reducible repeat (first | refine blk_drewN ?_ _ | refine blk_drew ?_ | refine blk_alloc ?_ _)); exact BK103.out⟩, ⟨by (with_reducible repeat (first | refine blk_drewN ?_ _ | refine blk_drew ?_ | refine blk_alloc ?_ _)); exact BK106.out⟩, ⟨by repeat (first | (with_reducible first | exact HB.out | apply below_alloc | apply pw_below_drewN | apply below_drew1 | refine below_set ?_ GE103.out | refine below_set ?_ GE106.out) | exact HB.out)⟩⟩
               ·replace c27 := Bool.eq_false_iff.mpr c27
                subst c27
                have H1 : (spec_GoodClock.j2 k2 l0_1 (l0_1.length : Int) x18_2 true a0_0 l0_1) = some r := by rw [if_neg (show ¬ (false = true) by decide)] at H; exact H
                clear H
                have H := H1
                clear H1
                have H' := Aside0.mk H
                clear H
                try go_wp2
                have n0_ : Aside0 (((((w14.setCell ⟨gb106, 0, none⟩ (.int .i64 ((rd_T178 l0_1 x18_2).f0))).setCell ⟨gb106, 1, none⟩ (.int .i64 ((rd_T178 l0_1 x18_2).f1))).setCell ⟨gb106, 2, none⟩ (.int .i64 ((rd_T178 l0_1 x18_2).f2))).setCell ⟨gb106, 3, none⟩ (.int .i64 ((rd_T178 l0_1 x18_2).f3))).heap[gb103]? = some (.cells #[.int .i64 a0_0, .slice (some ad105) l0_1.length c0_1] 83 (0, 0))) := ⟨by (with_reducible repeat (first | refine blk_drewN ?_ _ | refine blk_drew ?_ | refine blk_alloc ?_ _)); refine blk_far ?_ NB103_106.out _; (with_reducible repeat (first | refine blk_drewN ?_ _ | refine blk_drew ?_ | refine blk_alloc ?_ _)); refine blk_far ?_ NB103_106.out _; (with_reducible repeat (first | refine blk_drewN ?_ _ | refine blk_drew ?_ | refine blk_alloc ?_ _)); refine blk_far ?_ NB103_106.out _; (with_reducible repeat (first | refine blk_drewN ?_ _ | refine blk_drew ?_ | refine blk_alloc ?_ _)); refine blk_far ?_ NB103_106.out _; (with_reducible repeat (first | refine blk_drewN ?_ _ | refine blk_drew ?_ | refine blk_alloc ?_ _)); exact BK103.out⟩
                have n1_ : Aside0 (((((w14.setCell ⟨gb106, 0, none⟩ (.int .i64 ((rd_T178 l0_1 x18_2).f0))).setCell ⟨gb106, 1, none⟩ (.int .i64 ((rd_T178 l0_1 x18_2).f1))).setCell ⟨gb106, 2, none⟩ (.int .i64 ((rd_T178 l0_1 x18_2).f2))).setCell ⟨gb106, 3, none⟩ (.int .i64 ((rd_T178 l0_1 x18_2).f3))).heap[gb106]? = some (.cells #[.int .i64 ((rd_T178 l0_1 x18_2).f0), .int .i64 ((rd_T178 l0_1 x18_2).f1), .int .i64 ((rd_T178 l0_1 x18_2).f2), .int .i64 ((rd_T178 l0_1 x18_2).f3)] 178 (0, 0))) := ⟨by (with_reducible repeat (first | refine blk_drewN ?_ _ | refine blk_drew ?_ | refine blk_alloc ?_ _)); refine blk_put (cs := #[.int .i64 ((rd_T178 l0_1 x18_2).f0), .int .i64 ((rd_T178 l0_1 x18_2).f1), .int .i64 ((rd_T178 l0_1 x18_2).f2), .int .i64 0]) ?_ 3 _ rfl; (with_reducible repeat (first | refine blk_drewN ?_ _ | refine blk_drew ?_ | refine blk_alloc ?_ _)); refine blk_put (cs := #[.int .i64 ((rd_T178 l0_1 x18_2).f0), .int .i64 ((rd_T178 l0_1 x18_2).f1), .int .i64 0, .int .i64 0]) ?_ 2 _ rfl; (with_reducible repeat (first | refine blk_drewN ?_ _ | refine blk_drew ?_ | refine blk_alloc ?_ _)); refine blk_put (cs := #[.int .i64 ((rd_T178 l0_1 x18_2).f0), .int .i64 0, .int .i64 0, .int .i64 0]) ?_ 1 _ rfl; (with_reducible repeat (first | refine blk_drewN ?_ _ | refine blk_drew ?_ | refine blk_alloc ?_ _)); refine blk_put (cs := #[.int .i64 0, .int .i64 0, .int .i64 0, .int .i64 0]) ?_ 0 _ rfl; (with_reducible repeat (first | refine blk_drewN ?_ _ | refine blk_drew ?_ | refine blk_alloc ?_ _)); exact BK106.out⟩
                have n2_ : Aside0 (Below w.heap.size w ((((w14.setCell ⟨gb106, 0, none⟩ (.int .i64 ((rd_T178 l0_1 x18_2).f0))).setCell ⟨gb106, 1, none⟩ (.int .i64 ((rd_T178 l0_1 x18_2).f1))).setCell ⟨gb106, 2, none⟩ (.int .i64 ((rd_T178 l0_1 x18_2).f2))).setCell ⟨gb106, 3, none⟩ (.int .i64 ((rd_T178 l0_1 x18_2).f3)))) := ⟨by repeat (first | (with_reducible first | exact HB.out | apply below_alloc | apply pw_below_drewN | apply below_drew1 | refine below_set ?_ GE103.out | refine below_set ?_ GE106.out) | exact HB.out)⟩
                (try clear BK103)
                (try clear BK106)
                (try clear HB)
                generalize ((((w14.setCell ⟨gb106, 0, none⟩ (.int .i64 ((rd_T178 l0_1 x18_2).f0))).setCell ⟨gb106, 1, none⟩ (.int .i64 ((rd_T178 l0_1 x18_2).f1))).setCell ⟨gb106, 2, none⟩ (.int .i64 ((rd_T178 l0_1 x18_2).f2))).setCell ⟨gb106, 3, none⟩ (.int .i64 ((rd_T178 l0_1 x18_2).f3))) = w41 at n0_ n1_ n2_ ⊢
                have BK103 := n0_
                have BK106 := n1_
                have HB := n2_
                clear n0_ n1_ n2_
                have n0_ := Aside0.mk (blk_drew BK103.out)
                have n1_ := Aside0.mk (blk_drew BK106.out)
                have n2_ := Aside0.mk (below_drew1 HB.out)
                clear BK103
                clear BK106
                clear HB
                have BK103 := n0_
                have BK106 := n1_
                have HB := n2_
                clear n0_ n1_ n2_
                have p108 : 0 ≤ ((ji20) : Int) := of_decide_eq_true (by first | (with_reducible assumption) | assumption)
                have q108 : (ji20) < (l0_1.length : Int) := of_decide_eq_true (by first | (with_reducible assumption) | assumption)
                obtain ⟨ad108, e108, hx108_0, hx108_1, hx108_2, hx108_3⟩ := at_T178 HR0_1.out (ji20) p108 q108
                have hw108_3 := hx108_3
                have hw108_2 := hx108_2
                have hw108_1 := hx108_1
                have hw108_0 := hx108_0
                obtain rfl : ad105 = ad108 := (by injection e108)
                replace hx108_0 := (HB.out.cell (World.block_lt_of_cell? w _ hx108_0)).trans hx108_0
                replace hx108_1 := (HB.out.cell (World.block_lt_of_cell? w _ hx108_1)).trans hx108_1
                replace hx108_2 := (HB.out.cell (World.block_lt_of_cell? w _ hx108_2)).trans hx108_2
                replace hx108_3 := (HB.out.cell (World.block_lt_of_cell? w _ hx108_3)).trans hx108_3
                replace p108 := eq_true p108
                replace q108 := eq_true q108
                refine start_ (n := 51) (S := fun w' => w'.cell? ⟨gb106, 0, none⟩ = some (.int .i64 ((rd_T178 l0_1 x18_2).f0)) ∧ w'.cell? ⟨gb106, 1, none⟩ = some (.int .i64 ((rd_T178 l0_1 x18_2).f1)) ∧ w'.cell? ⟨gb106, 2, none⟩ = some (.int .i64 ((rd_T178 l0_1 x18_2).f2)) ∧ w'.cell? ⟨gb106, 3, none⟩ = some (.int .i64 ((rd_T178 l0_1 x18_2).f3)) ∧ w'.cell? ⟨gb103, 0, none⟩ = some (.int .i64 a0_0) ∧ w'.cell? ⟨gb103, 1, none⟩ = some (.slice (some ad105) l0_1.length c0_1) ∧ w'.cell? (ad105.add (((ji20)).toNat * 4)) = some (.int .i64 ((rd_T178 l0_1 (ji20)).f0)) ∧ w'.cell? ⟨(ad105.add (((ji20)).toNat * 4)).block, (ad105.add (((ji20)).toNat * 4)).off + 1, none⟩ = some (.int .i64 ((rd_T178 l0_1 (ji20)).f1)) ∧ w'.cell? ⟨(ad105.add (((ji20)).toNat * 4)).block, (ad105.add (((ji20)).toNat * 4)).off + 2, none⟩ = some (.int .i64 ((rd_T178 l0_1 (ji20)).f2)) ∧ w'.cell? ⟨(ad105.add (((ji20)).toNat * 4)).block, (ad105.add (((ji20)).toNat * 4)).off + 3, none⟩ = some (.int .i64 ((rd_T178 l0_1 (ji20)).f3))) (ds := []) #[false, false, false, false, false, false, false, false, false, false, false, false, false, false, false, false, false, false, false, false, false, false, false, false, false, false, false, false, false, false, false, false, false, false, false, false, false, false, false, false, false, false, false, false, false, false, false, false, false, false, false] (by kernel_rfl) rfl rfl ⟨(blk_cell BK106.out 0).trans rfl, (blk_cell BK106.out 1).trans rfl, (blk_cell BK106.out 2).trans rfl, (blk_cell BK106.out 3).trans rfl, (blk_cell BK103.out 0).trans rfl, (blk_cell BK103.out 1).trans rfl, ((HB.out.cell (World.block_lt_of_cell? w _ hw108_0)).trans hw108_0), ((HB.out.cell (World.block_lt_of_cell? w _ hw108_1)).trans hw108_1), ((HB.out.cell (World.block_lt_of_cell? w _ hw108_2)).trans hw108_2), ((HB.out.cell (World.block_lt_of_cell? w _ hw108_3)).trans hw108_3)⟩ (fun hHeld => ?_); refine with_tabW spec_GoodClock.tab6 spec_GoodClock.bits6 (fun HT_ HW_ => ?_)
                generalize w41.drew = w42 at BK103 BK106 HB hx108_0 hx108_1 hx108_2 hx108_3 hHeld ⊢
                refine pureA 0 23 (bz 51 1) rfl rfl (any_of HT_.out (by kernel_rfl)) ?_
                refine takeA 1 24 (bz 51 3) rfl rfl (take_ofW HT_.out HW_.out (by kernel_rfl)) hHeld (by rintro w' ⟨s0, s1, s2, s3, s4, s5, s6, s7, s8, s9⟩; go_simp; with_reducible rfl) ?_
                refine one_ (i := 2) (N := some 25) (bz 51 7) rfl rfl (one_of HT_.out (by kernel_rfl)) (by decide) (fun K hK => ?_)
                refine goes_ Try.func87 (by kernel_rfl) rfl #[.int .i64 ((rd_T178 l0_1 x18_2).f0), .int .i64 0, .int .i64 999] (by rfl) rfl rfl (by (try simp only [List.map_toArray, List.map_cons, List.map_nil]); first | done | rfl | (simp only [List.length_drop, List.length_take]; rfl)) ?_
                with_reducible refine (spec_l1In.calls ((rd_T178 l0_1 x18_2).f0) 0 999 true _ A17.out).mono ?_
                rintro e w' ⟨rfl, ⟨nd, rfl⟩⟩
                refine ⟨_, rfl, ?_⟩
                refine hK.out _ _ ⟨(blk_cell BK106.out 0).trans rfl, (blk_cell BK106.out 1).trans rfl, (blk_cell BK106.out 2).trans rfl, (blk_cell BK106.out 3).trans rfl, (blk_cell BK103.out 0).trans rfl, (blk_cell BK103.out 1).trans rfl, ((HB.out.cell (World.block_lt_of_cell? w _ hw108_0)).trans hw108_0), ((HB.out.cell (World.block_lt_of_cell? w _ hw108_1)).trans hw108_1), ((HB.out.cell (World.block_lt_of_cell? w _ hw108_2)).trans hw108_2), ((HB.out.cell (World.block_lt_of_cell? w _ hw108_3)).trans hw108_3)⟩ (fun hHeld => ?_)
                clear hK K
                refine norm_ (a' := ?_) ?_ ?_
                rotate_left
                ·show Act.put _ (some 25) _ = _
                 simp only [Act.put, List.setIfInBounds_toArray, List.set_cons_zero, List.set_cons_succ, i64_w, i32_w]
                 rfl
                refine pureA 3 26 (bz 51 15) rfl rfl (any_of HT_.out (by kernel_rfl)) ?_
                refine pureA 4 27 (bz 51 31) rfl rfl (any_of HT_.out (by kernel_rfl)) ?_
                refine pureA 5 28 (bz 51 63) rfl rfl (any_of HT_.out (by kernel_rfl)) ?_
                refine pureA 6 29 (bz 51 127) rfl rfl (any_of HT_.out (by kernel_rfl)) ?_
                refine pureA 7 30 (bz 51 255) rfl rfl (any_of HT_.out (by kernel_rfl)) ?_
                refine pureA 8 31 (bz 51 511) rfl rfl (any_of HT_.out (by kernel_rfl)) ?_
                refine pureA 10 33 (bz 51 1535) rfl rfl (any_of HT_.out (by kernel_rfl)) ?_
                refine pureA 11 34 (bz 51 3583) rfl rfl (any_of HT_.out (by kernel_rfl)) ?_
                refine pureA 15 38 (bz 51 36351) rfl rfl (any_of HT_.out (by kernel_rfl)) ?_
                refine takeA 9 32 (bz 51 36863) rfl rfl (take_ofW HT_.out HW_.out (by kernel_rfl)) hHeld (by rintro w' ⟨s0, s1, s2, s3, s4, s5, s6, s7, s8, s9⟩; go_simp; with_reducible rfl) ?_
                refine pureA 12 35 (bz 51 40959) rfl rfl (any_of HT_.out (by kernel_rfl)) ?_
                refine pureA 13 36 (bz 51 49151) rfl rfl (any_of HT_.out (by kernel_rfl)) ?_
                refine takeA 14 37 (bz 51 65535) rfl rfl (take_ofW HT_.out HW_.out (by kernel_rfl)) hHeld (by rintro w' ⟨s0, s1, s2, s3, s4, s5, s6, s7, s8, s9⟩; go_simp; with_reducible rfl) ?_
                refine takeA 16 39 (bz 51 131071) rfl rfl (take_ofW HT_.out HW_.out (by kernel_rfl)) hHeld (by rintro w' ⟨s0, s1, s2, s3, s4, s5, s6, s7, s8, s9⟩; go_simp; with_reducible rfl) ?_
                refine pureA 17 40 (bz 51 262143) rfl rfl (any_of HT_.out (by kernel_rfl)) ?_
                refine pureA 18 41 (bz 51 524287) rfl rfl (any_of HT_.out (by kernel_rfl)) ?_
                refine pureA 19 42 (bz 51 1048575) rfl rfl (any_of HT_.out (by kernel_rfl)) ?_
                refine pureA 20 43 (bz 51 2097151) rfl rfl (any_of HT_.out (by kernel_rfl)) ?_
                refine pureA 21 44 (bz 51 4194303) rfl rfl (any_of HT_.out (by kernel_rfl)) ?_
                refine pureA 23 46 (bz 51 12582911) rfl rfl (any_of HT_.out (by kernel_rfl)) ?_
                refine takeA 22 45 (bz 51 16777215) rfl rfl (take_ofW HT_.out HW_.out (by kernel_rfl)) hHeld (by rintro w' ⟨s0, s1, s2, s3, s4, s5, s6, s7, s8, s9⟩; go_simp; with_reducible rfl) ?_
                refine takeA 24 47 (bz 51 33554431) rfl rfl (take_ofW HT_.out HW_.out (by kernel_rfl)) hHeld (by rintro w' ⟨s0, s1, s2, s3, s4, s5, s6, s7, s8, s9⟩; go_simp; with_reducible rfl) ?_
                refine pureA 25 48 (bz 51 67108863) rfl rfl (any_of HT_.out (by kernel_rfl)) ?_
                refine one_ (i := 26) (N := some 49) (bz 51 134217727) rfl rfl (one_of HT_.out (by kernel_rfl)) (by decide) (fun K hK => ?_)
                refine goes_ Try.func87 (by kernel_rfl) rfl #[.int .i64 ((rd_T178 l0_1 x18_2).f1), .int .i64 (wrap64 (a0_0 + 1)), .int .i64 200000] (by rfl) rfl rfl (by (try simp only [List.map_toArray, List.map_cons, List.map_nil]); first | done | rfl | (simp only [List.length_drop, List.length_take]; rfl)) ?_
                with_reducible refine (spec_l1In.calls ((rd_T178 l0_1 x18_2).f1) (wrap64 (a0_0 + 1)) 200000 false _ A26.out).mono ?_
                rintro e w' ⟨rfl, ⟨nd, rfl⟩⟩
                refine ⟨_, rfl, ?_⟩
                refine hK.out _ _ ⟨(blk_cell BK106.out 0).trans rfl, (blk_cell BK106.out 1).trans rfl, (blk_cell BK106.out 2).trans rfl, (blk_cell BK106.out 3).trans rfl, (blk_cell BK103.out 0).trans rfl, (blk_cell BK103.out 1).trans rfl, ((HB.out.cell (World.block_lt_of_cell? w _ hw108_0)).trans hw108_0), ((HB.out.cell (World.block_lt_of_cell? w _ hw108_1)).trans hw108_1), ((HB.out.cell (World.block_lt_of_cell? w _ hw108_2)).trans hw108_2), ((HB.out.cell (World.block_lt_of_cell? w _ hw108_3)).trans hw108_3)⟩ (fun hHeld => ?_)
                clear hK K
                refine norm_ (a' := ?_) ?_ ?_
                rotate_left
                ·show Act.put _ (some 49) _ = _
                 simp only [Act.put, List.setIfInBounds_toArray, List.set_cons_zero, List.set_cons_succ, i64_w, i32_w]
                 rfl
                refine pureA 27 50 (bz 51 268435455) rfl rfl (any_of HT_.out (by kernel_rfl)) ?_
                refine pureA 28 51 (bz 51 536870911) rfl rfl (any_of HT_.out (by kernel_rfl)) ?_
                refine pureA 29 52 (bz 51 1073741823) rfl rfl (any_of HT_.out (by kernel_rfl)) ?_
                refine pureU 30 53 (bz 51 2147483647) rfl rfl (any_of HT_.out (by kernel_rfl)) ?_
                refine pureU 31 54 (bz 51 4294967295) rfl rfl (any_of HT_.out (by kernel_rfl)) ?_
                refine pureU 32 55 (bz 51 8589934591) rfl rfl (any_of HT_.out (by kernel_rfl)) ?_
                refine pureU 33 56 (bz 51 17179869183) rfl rfl (any_of HT_.out (by kernel_rfl)) ?_
                refine pureA 34 57 (bz 51 34359738367) rfl rfl (any_of HT_.out (by kernel_rfl)) ?_
                refine pureA 35 58 (bz 51 68719476735) rfl rfl (any_of HT_.out (by kernel_rfl)) ?_
                refine pureU 36 59 (bz 51 137438953471) rfl rfl (any_of HT_.out (by kernel_rfl)) ?_
                refine pureU 37 60 (bz 51 274877906943) rfl rfl (any_of HT_.out (by kernel_rfl)) ?_
                refine pureU 38 61 (bz 51 549755813887) rfl rfl (any_of HT_.out (by kernel_rfl)) ?_
                refine pureU 39 62 (bz 51 1099511627775) rfl rfl (any_of HT_.out (by kernel_rfl)) ?_
                refine pureA 40 63 (bz 51 2199023255551) rfl rfl (any_of HT_.out (by kernel_rfl)) ?_
                refine pureA 41 64 (bz 51 4398046511103) rfl rfl (any_of HT_.out (by kernel_rfl)) ?_
                refine pureU 42 65 (bz 51 8796093022207) rfl rfl (any_of HT_.out (by kernel_rfl)) ?_
                refine pureU 43 66 (bz 51 17592186044415) rfl rfl (any_of HT_.out (by kernel_rfl)) ?_
                refine pureU 44 67 (bz 51 35184372088831) rfl rfl (any_of HT_.out (by kernel_rfl)) ?_
                refine pureU 45 68 (bz 51 70368744177663) rfl rfl (any_of HT_.out (by kernel_rfl)) ?_
                refine pureU 46 69 (bz 51 140737488355327) rfl rfl (any_of HT_.out (by kernel_rfl)) ?_
                refine pureU 47 70 (bz 51 281474976710655) rfl rfl (any_of HT_.out (by kernel_rfl)) ?_
                refine pureU 48 71 (bz 51 562949953421311) rfl rfl (any_of HT_.out (by kernel_rfl)) ?_
                refine pureU 49 72 (bz 51 1125899906842623) rfl rfl (any_of HT_.out (by kernel_rfl)) ?_
                refine pureA 50 73 (bz 51 2251799813685247) rfl rfl (any_of HT_.out (by kernel_rfl)) ?_
                refine done_ (done_of HT_.out (by kernel_rfl)) ?_
                try go_wp2
                go_meet
                case rel => exact ⟨_, (true), (by first | rfl | (simp; done) | (simp [*]; done) | exact not_isEmpty _ | exact (not_isEmpty _).symm | exact is_empty _ | exact (is_empty _).symm), H', ⟨by have := HJ1.out; have := HK2.out; first | omega | exact Nat.le_refl _⟩, ⟨by (with_reducible repeat (first | refine blk_drewN ?_ _ | refine blk_drew ?_ | refine blk_alloc ?_ _)); exact BK103.out⟩, ⟨by (with_reducible repeat (first | refine blk_drewN ?_ _ | refine blk_drew ?_ | refine blk_alloc ?_ _)); exact BK106.out⟩, ⟨by repeat (first | (with_reducible first | exact HB.out | apply below_alloc | apply pw_below_drewN | apply below_drew1 | refine below_set ?_ GE103.out | refine below_set ?_ GE106.out) | exact HB.out)⟩⟩
             ·rw [if_neg c22] at H
              exact absurd H (by simp)
            ·rw [if_neg c21] at H
             exact absurd H (by simp)
           ·rw [if_neg c19] at H
            have c19b0 : decide (0 < x18_2) = false := decide_eq_false c19
            clear c19
            (first | rw [c19b0] | (simp only [i64_w, i32_w]; rw [c19b0]) | skip)
            replace H := Option.bind_eq_some_iff.mp H
            obtain ⟨t112, A430, H⟩ := H
            replace H : (if t112 = true then ((spec_l1In.f ((rd_T178 l0_1 x18_2).f2) 0 100000).bind fun t113 => (if t113 = true then ((spec_l1In.f ((rd_T178 l0_1 x18_2).f3) 1 1000).bind fun t114 => (if t114 = true then (if ((rd_T178 l0_1 x18_2).f2) = 0 then (spec_GoodClock.j2 k2 l0_1 (l0_1.length : Int) x18_2 (((rd_T178 l0_1 x18_2).f3) != 1) a0_0 l0_1) else (spec_GoodClock.j2 k2 l0_1 (l0_1.length : Int) x18_2 false a0_0 l0_1)) else (spec_GoodClock.j2 k2 l0_1 (l0_1.length : Int) x18_2 true a0_0 l0_1))) else (spec_GoodClock.j2 k2 l0_1 (l0_1.length : Int) x18_2 true a0_0 l0_1))) else (spec_GoodClock.j2 k2 l0_1 (l0_1.length : Int) x18_2 true a0_0 l0_1)) = some r := H
            have A43 := Aside0.mk A430
            clear A430
            by_cases c44 : t112 = true
            ·subst c44
             have H1 : ((spec_l1In.f ((rd_T178 l0_1 x18_2).f2) 0 100000).bind fun t113 => (if t113 = true then ((spec_l1In.f ((rd_T178 l0_1 x18_2).f3) 1 1000).bind fun t114 => (if t114 = true then (if ((rd_T178 l0_1 x18_2).f2) = 0 then (spec_GoodClock.j2 k2 l0_1 (l0_1.length : Int) x18_2 (((rd_T178 l0_1 x18_2).f3) != 1) a0_0 l0_1) else (spec_GoodClock.j2 k2 l0_1 (l0_1.length : Int) x18_2 false a0_0 l0_1)) else (spec_GoodClock.j2 k2 l0_1 (l0_1.length : Int) x18_2 true a0_0 l0_1))) else (spec_GoodClock.j2 k2 l0_1 (l0_1.length : Int) x18_2 true a0_0 l0_1))) = some r := by rw [if_pos rfl] at H; exact H
             clear H
             have H := H1
             clear H1
             replace H := Option.bind_eq_some_iff.mp H
             obtain ⟨t113, A450, H⟩ := H
             replace H : (if t113 = true then ((spec_l1In.f ((rd_T178 l0_1 x18_2).f3) 1 1000).bind fun t114 => (if t114 = true then (if ((rd_T178 l0_1 x18_2).f2) = 0 then (spec_GoodClock.j2 k2 l0_1 (l0_1.length : Int) x18_2 (((rd_T178 l0_1 x18_2).f3) != 1) a0_0 l0_1) else (spec_GoodClock.j2 k2 l0_1 (l0_1.length : Int) x18_2 false a0_0 l0_1)) else (spec_GoodClock.j2 k2 l0_1 (l0_1.length : Int) x18_2 true a0_0 l0_1))) else (spec_GoodClock.j2 k2 l0_1 (l0_1.length : Int) x18_2 true a0_0 l0_1)) = some r := H
             have A45 := Aside0.mk A450
             clear A450
             by_cases c46 : t113 = true
             ·subst c46
              have H1 : ((spec_l1In.f ((rd_T178 l0_1 x18_2).f3) 1 1000).bind fun t114 => (if t114 = true then (if ((rd_T178 l0_1 x18_2).f2) = 0 then (spec_GoodClock.j2 k2 l0_1 (l0_1.length : Int) x18_2 (((rd_T178 l0_1 x18_2).f3) != 1) a0_0 l0_1) else (spec_GoodClock.j2 k2 l0_1 (l0_1.length : Int) x18_2 false a0_0 l0_1)) else (spec_GoodClock.j2 k2 l0_1 (l0_1.length : Int) x18_2 true a0_0 l0_1))) = some r := by rw [if_pos rfl] at H; exact H
              clear H
              have H := H1
              clear H1
              replace H := Option.bind_eq_some_iff.mp H
              obtain ⟨t114, A470, H⟩ := H
              replace H : (if t114 = true then (if ((rd_T178 l0_1 x18_2).f2) = 0 then (spec_GoodClock.j2 k2 l0_1 (l0_1.length : Int) x18_2 (((rd_T178 l0_1 x18_2).f3) != 1) a0_0 l0_1) else (spec_GoodClock.j2 k2 l0_1 (l0_1.length : Int) x18_2 false a0_0 l0_1)) else (spec_GoodClock.j2 k2 l0_1 (l0_1.length : Int) x18_2 true a0_0 l0_1)) = some r := H
              have A47 := Aside0.mk A470
              clear A470
              by_cases c48 : t114 = true
              ·subst c48
               have H1 : (if ((rd_T178 l0_1 x18_2).f2) = 0 then (spec_GoodClock.j2 k2 l0_1 (l0_1.length : Int) x18_2 (((rd_T178 l0_1 x18_2).f3) != 1) a0_0 l0_1) else (spec_GoodClock.j2 k2 l0_1 (l0_1.length : Int) x18_2 false a0_0 l0_1)) = some r := by rw [if_pos rfl] at H; exact H
               clear H
               have H := H1
               clear H1
               by_cases c49 : ((rd_T178 l0_1 x18_2).f2) = 0
               ·rw [if_pos c49] at H
                have c49b0 : (((rd_T178 l0_1 x18_2).f2) == 0) = true := beq_iff_eq.mpr c49
                have c49b1 : (((rd_T178 l0_1 x18_2).f2) != 0) = false := bne_eq_false_iff_eq.mpr c49
                clear c49
                have H' := Aside0.mk H
                clear H
                try go_wp2
                have n0_ : Aside0 (((((w14.setCell ⟨gb106, 0, none⟩ (.int .i64 ((rd_T178 l0_1 x18_2).f0))).setCell ⟨gb106, 1, none⟩ (.int .i64 ((rd_T178 l0_1 x18_2).f1))).setCell ⟨gb106, 2, none⟩ (.int .i64 ((rd_T178 l0_1 x18_2).f2))).setCell ⟨gb106, 3, none⟩ (.int .i64 ((rd_T178 l0_1 x18_2).f3))).heap[gb103]? = some (.cells #[.int .i64 a0_0, .slice (some ad105) l0_1.length c0_1] 83 (0, 0))) := ⟨by (with_reducible repeat (first | refine blk_drewN ?_ _ | refine blk_drew ?_ | refine blk_alloc ?_ _)); refine blk_far ?_ NB103_106.out _; (with_reducible repeat (first | refine blk_drewN ?_ _ | refine blk_drew ?_ | refine blk_alloc ?_ _)); refine blk_far ?_ NB103_106.out _; (with_reducible repeat (first | refine blk_drewN ?_ _ | refine blk_drew ?_ | refine blk_alloc ?_ _)); refine blk_far ?_ NB103_106.out _; (with_reducible repeat (first | refine blk_drewN ?_ _ | refine blk_drew ?_ | refine blk_alloc ?_ _)); refine blk_far ?_ NB103_106.out _; (with_reducible repeat (first | refine blk_drewN ?_ _ | refine blk_drew ?_ | refine blk_alloc ?_ _)); exact BK103.out⟩
                have n1_ : Aside0 (((((w14.setCell ⟨gb106, 0, none⟩ (.int .i64 ((rd_T178 l0_1 x18_2).f0))).setCell ⟨gb106, 1, none⟩ (.int .i64 ((rd_T178 l0_1 x18_2).f1))).setCell ⟨gb106, 2, none⟩ (.int .i64 ((rd_T178 l0_1 x18_2).f2))).setCell ⟨gb106, 3, none⟩ (.int .i64 ((rd_T178 l0_1 x18_2).f3))).heap[gb106]? = some (.cells #[.int .i64 ((rd_T178 l0_1 x18_2).f0), .int .i64 ((rd_T178 l0_1 x18_2).f1), .int .i64 ((rd_T178 l0_1 x18_2).f2), .int .i64 ((rd_T178 l0_1 x18_2).f3)] 178 (0, 0))) := ⟨by (with_reducible repeat (first | refine blk_drewN ?_ _ | refine blk_drew ?_ | refine blk_alloc ?_ _)); refine blk_put (cs := #[.int .i64 ((rd_T178 l0_1 x18_2).f0), .int .i64 ((rd_T178 l0_1 x18_2).f1), .int .i64 ((rd_T178 l0_1 x18_2).f2), .int .i64 0]) ?_ 3 _ rfl; (with_reducible repeat (first | refine blk_drewN ?_ _ | refine blk_drew ?_ | refine blk_alloc ?_ _)); refine blk_put (cs := #[.int .i64 ((rd_T178 l0_1 x18_2).f0), .int .i64 ((rd_T178 l0_1 x18_2).f1), .int .i64 0, .int .i64 0]) ?_ 2 _ rfl; (with_reducible repeat (first | refine blk_drewN ?_ _ | refine blk_drew ?_ | refine blk_alloc ?_ _)); refine blk_put (cs := #[.int .i64 ((rd_T178 l0_1 x18_2).f0), .int .i64 0, .int .i64 0, .int .i64 0]) ?_ 1 _ rfl; (with_reducible repeat (first | refine blk_drewN ?_ _ | refine blk_drew ?_ | refine blk_alloc ?_ _)); refine blk_put (cs := #[.int .i64 0, .int .i64 0, .int .i64 0, .int .i64 0]) ?_ 0 _ rfl; (with_reducible repeat (first | refine blk_drewN ?_ _ | refine blk_drew ?_ | refine blk_alloc ?_ _)); exact BK106.out⟩
                have n2_ : Aside0 (Below w.heap.size w ((((w14.setCell ⟨gb106, 0, none⟩ (.int .i64 ((rd_T178 l0_1 x18_2).f0))).setCell ⟨gb106, 1, none⟩ (.int .i64 ((rd_T178 l0_1 x18_2).f1))).setCell ⟨gb106, 2, none⟩ (.int .i64 ((rd_T178 l0_1 x18_2).f2))).setCell ⟨gb106, 3, none⟩ (.int .i64 ((rd_T178 l0_1 x18_2).f3)))) := ⟨by repeat (first | (with_reducible first | exact HB.out | apply below_alloc | apply pw_below_drewN | apply below_drew1 | refine below_set ?_ GE103.out | refine below_set ?_ GE106.out) | exact HB.out)⟩
                (try clear BK103)
                (try clear BK106)
                (try clear HB)
                generalize ((((w14.setCell ⟨gb106, 0, none⟩ (.int .i64 ((rd_T178 l0_1 x18_2).f0))).setCell ⟨gb106, 1, none⟩ (.int .i64 ((rd_T178 l0_1 x18_2).f1))).setCell ⟨gb106, 2, none⟩ (.int .i64 ((rd_T178 l0_1 x18_2).f2))).setCell ⟨gb106, 3, none⟩ (.int .i64 ((rd_T178 l0_1 x18_2).f3))) = w50 at n0_ n1_ n2_ ⊢
                have BK103 := n0_
                have BK106 := n1_
                have HB := n2_
                clear n0_ n1_ n2_
                have n0_ := Aside0.mk (blk_drew BK103.out)
                have n1_ := Aside0.mk (blk_drew BK106.out)
                have n2_ := Aside0.mk (below_drew1 HB.out)
                clear BK103
                clear BK106
                clear HB
                have BK103 := n0_
                have BK106 := n1_
                have HB := n2_
                clear n0_ n1_ n2_
                refine start_ (n := 51) (S := fun w' => w'.cell? ⟨gb106, 0, none⟩ = some (.int .i64 ((rd_T178 l0_1 x18_2).f0)) ∧ w'.cell? ⟨gb106, 1, none⟩ = some (.int .i64 ((rd_T178 l0_1 x18_2).f1)) ∧ w'.cell? ⟨gb106, 2, none⟩ = some (.int .i64 ((rd_T178 l0_1 x18_2).f2)) ∧ w'.cell? ⟨gb106, 3, none⟩ = some (.int .i64 ((rd_T178 l0_1 x18_2).f3)) ∧ w'.cell? ⟨gb103, 0, none⟩ = some (.int .i64 a0_0) ∧ w'.cell? ⟨gb103, 1, none⟩ = some (.slice (some ad105) l0_1.length c0_1)) (ds := []) #[false, false, false, false, false, false, false, false, false, false, false, false, false, false, false, false, false, false, false, false, false, false, false, false, false, false, false, false, false, false, false, false, false, false, false, false, false, false, false, false, false, false, false, false, false, false, false, false, false, false, false] (by kernel_rfl) rfl rfl ⟨(blk_cell BK106.out 0).trans rfl, (blk_cell BK106.out 1).trans rfl, (blk_cell BK106.out 2).trans rfl, (blk_cell BK106.out 3).trans rfl, (blk_cell BK103.out 0).trans rfl, (blk_cell BK103.out 1).trans rfl⟩ (fun hHeld => ?_); refine with_tabW spec_GoodClock.tab6 spec_GoodClock.bits6 (fun HT_ HW_ => ?_)
                generalize w50.drew = w51 at BK103 BK106 HB hHeld ⊢
                refine pureA 0 23 (bz 51 1) rfl rfl (any_of HT_.out (by kernel_rfl)) ?_
                refine takeA 1 24 (bz 51 3) rfl rfl (take_ofW HT_.out HW_.out (by kernel_rfl)) hHeld (by rintro w' ⟨s0, s1, s2, s3, s4, s5⟩; go_simp; with_reducible rfl) ?_
                refine one_ (i := 2) (N := some 25) (bz 51 7) rfl rfl (one_of HT_.out (by kernel_rfl)) (by decide) (fun K hK => ?_)
                refine goes_ Try.func87 (by kernel_rfl) rfl #[.int .i64 ((rd_T178 l0_1 x18_2).f0), .int .i64 0, .int .i64 999] (by rfl) rfl rfl (by (try simp only [List.map_toArray, List.map_cons, List.map_nil]); first | done | rfl | (simp only [List.length_drop, List.length_take]; rfl)) ?_
                with_reducible refine (spec_l1In.calls ((rd_T178 l0_1 x18_2).f0) 0 999 true _ A17.out).mono ?_
                rintro e w' ⟨rfl, ⟨nd, rfl⟩⟩
                refine ⟨_, rfl, ?_⟩
                refine hK.out _ _ ⟨(blk_cell BK106.out 0).trans rfl, (blk_cell BK106.out 1).trans rfl, (blk_cell BK106.out 2).trans rfl, (blk_cell BK106.out 3).trans rfl, (blk_cell BK103.out 0).trans rfl, (blk_cell BK103.out 1).trans rfl⟩ (fun hHeld => ?_)
                clear hK K
                refine norm_ (a' := ?_) ?_ ?_
                rotate_left
                ·show Act.put _ (some 25) _ = _
                 simp only [Act.put, List.setIfInBounds_toArray, List.set_cons_zero, List.set_cons_succ, i64_w, i32_w]
                 rfl
                refine pureA 3 26 (bz 51 15) rfl rfl (any_of HT_.out (by kernel_rfl)) ?_
                refine pureA 4 27 (bz 51 31) rfl rfl (any_of HT_.out (by kernel_rfl)) ?_
                refine pureA 5 28 (bz 51 63) rfl rfl (any_of HT_.out (by kernel_rfl)) ?_
                refine pureA 6 29 (bz 51 127) rfl rfl (any_of HT_.out (by kernel_rfl)) ?_
                refine pureA 7 30 (bz 51 255) rfl rfl (any_of HT_.out (by kernel_rfl)) ?_
                refine pureU 8 31 (bz 51 511) rfl rfl (any_of HT_.out (by kernel_rfl)) ?_
                refine pureU 9 32 (bz 51 1023) rfl rfl (any_of HT_.out (by kernel_rfl)) ?_
                refine pureU 10 33 (bz 51 2047) rfl rfl (any_of HT_.out (by kernel_rfl)) ?_
                refine pureU 11 34 (bz 51 4095) rfl rfl (any_of HT_.out (by kernel_rfl)) ?_
                refine pureU 12 35 (bz 51 8191) rfl rfl (any_of HT_.out (by kernel_rfl)) ?_
                refine pureU 13 36 (bz 51 16383) rfl rfl (any_of HT_.out (by kernel_rfl)) ?_
                refine pureU 14 37 (bz 51 32767) rfl rfl (any_of HT_.out (by kernel_rfl)) ?_
                refine pureU 15 38 (bz 51 65535) rfl rfl (any_of HT_.out (by kernel_rfl)) ?_
                refine pureU 16 39 (bz 51 131071) rfl rfl (any_of HT_.out (by kernel_rfl)) ?_
                refine pureU 17 40 (bz 51 262143) rfl rfl (any_of HT_.out (by kernel_rfl)) ?_
                refine pureA 18 41 (bz 51 524287) rfl rfl (any_of HT_.out (by kernel_rfl)) ?_
                refine pureA 19 42 (bz 51 1048575) rfl rfl (any_of HT_.out (by kernel_rfl)) ?_
                refine pureA 20 43 (bz 51 2097151) rfl rfl (any_of HT_.out (by kernel_rfl)) ?_
                refine pureA 21 44 (bz 51 4194303) rfl rfl (any_of HT_.out (by kernel_rfl)) ?_
                refine pureA 23 46 (bz 51 12582911) rfl rfl (any_of HT_.out (by kernel_rfl)) ?_
                refine takeA 22 45 (bz 51 16777215) rfl rfl (take_ofW HT_.out HW_.out (by kernel_rfl)) hHeld (by rintro w' ⟨s0, s1, s2, s3, s4, s5⟩; go_simp; with_reducible rfl) ?_
                refine takeA 24 47 (bz 51 33554431) rfl rfl (take_ofW HT_.out HW_.out (by kernel_rfl)) hHeld (by rintro w' ⟨s0, s1, s2, s3, s4, s5⟩; go_simp; with_reducible rfl) ?_
                refine pureA 25 48 (bz 51 67108863) rfl rfl (any_of HT_.out (by kernel_rfl)) ?_
                refine one_ (i := 26) (N := some 49) (bz 51 134217727) rfl rfl (one_of HT_.out (by kernel_rfl)) (by decide) (fun K hK => ?_)
                refine goes_ Try.func87 (by kernel_rfl) rfl #[.int .i64 ((rd_T178 l0_1 x18_2).f1), .int .i64 (wrap64 (a0_0 + 1)), .int .i64 200000] (by rfl) rfl rfl (by (try simp only [List.map_toArray, List.map_cons, List.map_nil]); first | done | rfl | (simp only [List.length_drop, List.length_take]; rfl)) ?_
                with_reducible refine (spec_l1In.calls ((rd_T178 l0_1 x18_2).f1) (wrap64 (a0_0 + 1)) 200000 true _ A43.out).mono ?_
                rintro e w' ⟨rfl, ⟨nd, rfl⟩⟩
                refine ⟨_, rfl, ?_⟩
                refine hK.out _ _ ⟨(blk_cell BK106.out 0).trans rfl, (blk_cell BK106.out 1).trans rfl, (blk_cell BK106.out 2).trans rfl, (blk_cell BK106.out 3).trans rfl, (blk_cell BK103.out 0).trans rfl, (blk_cell BK103.out 1).trans rfl⟩ (fun hHeld => ?_)
                clear hK K
                refine norm_ (a' := ?_) ?_ ?_
                rotate_left
                ·show Act.put _ (some 49) _ = _
                 simp only [Act.put, List.setIfInBounds_toArray, List.set_cons_zero, List.set_cons_succ, i64_w, i32_w]
                 rfl
                refine pureA 27 50 (bz 51 268435455) rfl rfl (any_of HT_.out (by kernel_rfl)) ?_
                refine pureA 28 51 (bz 51 536870911) rfl rfl (any_of HT_.out (by kernel_rfl)) ?_
                refine pureA 29 52 (bz 51 1073741823) rfl rfl (any_of HT_.out (by kernel_rfl)) ?_
                refine pureA 30 53 (bz 51 2147483647) rfl rfl (any_of HT_.out (by kernel_rfl)) ?_
                refine takeA 31 54 (bz 51 4294967295) rfl rfl (take_ofW HT_.out HW_.out (by kernel_rfl)) hHeld (by rintro w' ⟨s0, s1, s2, s3, s4, s5⟩; go_simp; with_reducible rfl) ?_
                refine one_ (i := 32) (N := some 55) (bz 51 8589934591) rfl rfl (one_of HT_.out (by kernel_rfl)) (by decide) (fun K hK => ?_)
                refine goes_ Try.func87 (by kernel_rfl) rfl #[.int .i64 ((rd_T178 l0_1 x18_2).f2), .int .i64 0, .int .i64 100000] (by rfl) rfl rfl (by (try simp only [List.map_toArray, List.map_cons, List.map_nil]); first | done | rfl | (simp only [List.length_drop, List.length_take]; rfl)) ?_
                with_reducible refine (spec_l1In.calls ((rd_T178 l0_1 x18_2).f2) 0 100000 true _ A45.out).mono ?_
                rintro e w' ⟨rfl, ⟨nd, rfl⟩⟩
                refine ⟨_, rfl, ?_⟩
                refine hK.out _ _ ⟨(blk_cell BK106.out 0).trans rfl, (blk_cell BK106.out 1).trans rfl, (blk_cell BK106.out 2).trans rfl, (blk_cell BK106.out 3).trans rfl, (blk_cell BK103.out 0).trans rfl, (blk_cell BK103.out 1).trans rfl⟩ (fun hHeld => ?_)
                clear hK K
                refine norm_ (a' := ?_) ?_ ?_
                rotate_left
                ·show Act.put _ (some 55) _ = _
                 simp only [Act.put, List.setIfInBounds_toArray, List.set_cons_zero, List.set_cons_succ, i64_w, i32_w]
                 rfl
                refine pureA 33 56 (bz 51 17179869183) rfl rfl (any_of HT_.out (by kernel_rfl)) ?_
                refine pureA 34 57 (bz 51 34359738367) rfl rfl (any_of HT_.out (by kernel_rfl)) ?_
                refine pureA 35 58 (bz 51 68719476735) rfl rfl (any_of HT_.out (by kernel_rfl)) ?_
                refine pureA 36 59 (bz 51 137438953471) rfl rfl (any_of HT_.out (by kernel_rfl)) ?_
                refine takeA 37 60 (bz 51 274877906943) rfl rfl (take_ofW HT_.out HW_.out (by kernel_rfl)) hHeld (by rintro w' ⟨s0, s1, s2, s3, s4, s5⟩; go_simp; with_reducible rfl) ?_
                refine one_ (i := 38) (N := some 61) (bz 51 549755813887) rfl rfl (one_of HT_.out (by kernel_rfl)) (by decide) (fun K hK => ?_)
                refine goes_ Try.func87 (by kernel_rfl) rfl #[.int .i64 ((rd_T178 l0_1 x18_2).f3), .int .i64 1, .int .i64 1000] (by rfl) rfl rfl (by (try simp only [List.map_toArray, List.map_cons, List.map_nil]); first | done | rfl | (simp only [List.length_drop, List.length_take]; rfl)) ?_
                with_reducible refine (spec_l1In.calls ((rd_T178 l0_1 x18_2).f3) 1 1000 true _ A47.out).mono ?_
                rintro e w' ⟨rfl, ⟨nd, rfl⟩⟩
                refine ⟨_, rfl, ?_⟩
                refine hK.out _ _ ⟨(blk_cell BK106.out 0).trans rfl, (blk_cell BK106.out 1).trans rfl, (blk_cell BK106.out 2).trans rfl, (blk_cell BK106.out 3).trans rfl, (blk_cell BK103.out 0).trans rfl, (blk_cell BK103.out 1).trans rfl⟩ (fun hHeld => ?_)
                clear hK K
                refine norm_ (a' := ?_) ?_ ?_
                rotate_left
                ·show Act.put _ (some 61) _ = _
                 simp only [Act.put, List.setIfInBounds_toArray, List.set_cons_zero, List.set_cons_succ, i64_w, i32_w]
                 rfl
                refine pureA 39 62 (bz 51 1099511627775) rfl rfl (any_of HT_.out (by kernel_rfl)) ?_
                refine pureA 40 63 (bz 51 2199023255551) rfl rfl (any_of HT_.out (by kernel_rfl)) ?_
                refine pureA 41 64 (bz 51 4398046511103) rfl rfl (any_of HT_.out (by kernel_rfl)) ?_
                refine pureA 42 65 (bz 51 8796093022207) rfl rfl (any_of HT_.out (by kernel_rfl)) ?_
                refine takeA 43 66 (bz 51 17592186044415) rfl rfl (take_ofW HT_.out HW_.out (by kernel_rfl)) hHeld (by rintro w' ⟨s0, s1, s2, s3, s4, s5⟩; go_simp; with_reducible rfl) ?_
                refine pureA 44 67 (bz 51 35184372088831) rfl rfl (any_of HT_.out (by kernel_rfl)) ?_
                refine pureA 45 68 (bz 51 70368744177663) rfl rfl (any_of HT_.out (by kernel_rfl)) ?_
                refine pureA 46 69 (bz 51 140737488355327) rfl rfl (any_of HT_.out (by kernel_rfl)) ?_
                refine takeA 47 70 (bz 51 281474976710655) rfl rfl (take_ofW HT_.out HW_.out (by kernel_rfl)) hHeld (by rintro w' ⟨s0, s1, s2, s3, s4, s5⟩; go_simp; with_reducible rfl) ?_
                refine pureA 48 71 (bz 51 562949953421311) rfl rfl (any_of HT_.out (by kernel_rfl)) ?_
                refine pureA 49 72 (bz 51 1125899906842623) rfl rfl (any_of HT_.out (by kernel_rfl)) ?_
                refine pureA 50 73 (bz 51 2251799813685247) rfl rfl (any_of HT_.out (by kernel_rfl)) ?_
                refine done_ (done_of HT_.out (by kernel_rfl)) ?_
                try go_wp2
                go_meet
                case rel => exact ⟨_, ((((rd_T178 l0_1 x18_2).f3) != 1)), (by first | rfl | (simp; done) | (simp [*]; done) | exact not_isEmpty _ | exact (not_isEmpty _).symm | exact is_empty _ | exact (is_empty _).symm), H', ⟨by have := HJ1.out; have := HK2.out; first | omega | exact Nat.le_refl _⟩, ⟨by (with_reducible repeat (first | refine blk_drewN ?_ _ | refine blk_drew ?_ | refine blk_alloc ?_ _)); exact BK103.out⟩, ⟨by (with_reducible repeat (first | refine blk_drewN ?_ _ | refine blk_drew ?_ | refine blk_alloc ?_ _)); exact BK106.out⟩, ⟨by repeat (first | (with_reducible first | exact HB.out | apply below_alloc | apply pw_below_drewN | apply below_drew1 | refine below_set ?_ GE103.out | refine below_set ?_ GE106.out) | exact HB.out)⟩⟩
               ·rw [if_neg c49] at H
                have c49b0 : (((rd_T178 l0_1 x18_2).f2) == 0) = false := beq_eq_false_iff_ne.mpr c49
                have c49b1 : (((rd_T178 l0_1 x18_2).f2) != 0) = true := bne_iff_ne.mpr c49
                have H' := Aside0.mk H
                clear H
                try go_wp2
                have n0_ : Aside0 (((((w14.setCell ⟨gb106, 0, none⟩ (.int .i64 ((rd_T178 l0_1 x18_2).f0))).setCell ⟨gb106, 1, none⟩ (.int .i64 ((rd_T178 l0_1 x18_2).f1))).setCell ⟨gb106, 2, none⟩ (.int .i64 ((rd_T178 l0_1 x18_2).f2))).setCell ⟨gb106, 3, none⟩ (.int .i64 ((rd_T178 l0_1 x18_2).f3))).heap[gb103]? = some (.cells #[.int .i64 a0_0, .slice (some ad105) l0_1.length c0_1] 83 (0, 0))) := ⟨by (with_reducible repeat (first | refine blk_drewN ?_ _ | refine blk_drew ?_ | refine blk_alloc ?_ _)); refine blk_far ?_ NB103_106.out _; (with_reducible repeat (first | refine blk_drewN ?_ _ | refine blk_drew ?_ | refine blk_alloc ?_ _)); refine blk_far ?_ NB103_106.out _; (with_reducible repeat (first | refine blk_drewN ?_ _ | refine blk_drew ?_ | refine blk_alloc ?_ _)); refine blk_far ?_ NB103_106.out _; (with_reducible repeat (first | refine blk_drewN ?_ _ | refine blk_drew ?_ | refine blk_alloc ?_ _)); refine blk_far ?_ NB103_106.out _; (with_reducible repeat (first | refine blk_drewN ?_ _ | refine blk_drew ?_ | refine blk_alloc ?_ _)); exact BK103.out⟩
                have n1_ : Aside0 (((((w14.setCell ⟨gb106, 0, none⟩ (.int .i64 ((rd_T178 l0_1 x18_2).f0))).setCell ⟨gb106, 1, none⟩ (.int .i64 ((rd_T178 l0_1 x18_2).f1))).setCell ⟨gb106, 2, none⟩ (.int .i64 ((rd_T178 l0_1 x18_2).f2))).setCell ⟨gb106, 3, none⟩ (.int .i64 ((rd_T178 l0_1 x18_2).f3))).heap[gb106]? = some (.cells #[.int .i64 ((rd_T178 l0_1 x18_2).f0), .int .i64 ((rd_T178 l0_1 x18_2).f1), .int .i64 ((rd_T178 l0_1 x18_2).f2), .int .i64 ((rd_T178 l0_1 x18_2).f3)] 178 (0, 0))) := ⟨by (with_reducible repeat (first | refine blk_drewN ?_ _ | refine blk_drew ?_ | refine blk_alloc ?_ _)); refine blk_put (cs := #[.int .i64 ((rd_T178 l0_1 x18_2).f0), .int .i64 ((rd_T178 l0_1 x18_2).f1), .int .i64 ((rd_T178 l0_1 x18_2).f2), .int .i64 0]) ?_ 3 _ rfl; (with_reducible repeat (first | refine blk_drewN ?_ _ | refine blk_drew ?_ | refine blk_alloc ?_ _)); refine blk_put (cs := #[.int .i64 ((rd_T178 l0_1 x18_2).f0), .int .i64 ((rd_T178 l0_1 x18_2).f1), .int .i64 0, .int .i64 0]) ?_ 2 _ rfl; (with_reducible repeat (first | refine blk_drewN ?_ _ | refine blk_drew ?_ | refine blk_alloc ?_ _)); refine blk_put (cs := #[.int .i64 ((rd_T178 l0_1 x18_2).f0), .int .i64 0, .int .i64 0, .int .i64 0]) ?_ 1 _ rfl; (with_reducible repeat (first | refine blk_drewN ?_ _ | refine blk_drew ?_ | refine blk_alloc ?_ _)); refine blk_put (cs := #[.int .i64 0, .int .i64 0, .int .i64 0, .int .i64 0]) ?_ 0 _ rfl; (with_reducible repeat (first | refine blk_drewN ?_ _ | refine blk_drew ?_ | refine blk_alloc ?_ _)); exact BK106.out⟩
                have n2_ : Aside0 (Below w.heap.size w ((((w14.setCell ⟨gb106, 0, none⟩ (.int .i64 ((rd_T178 l0_1 x18_2).f0))).setCell ⟨gb106, 1, none⟩ (.int .i64 ((rd_T178 l0_1 x18_2).f1))).setCell ⟨gb106, 2, none⟩ (.int .i64 ((rd_T178 l0_1 x18_2).f2))).setCell ⟨gb106, 3, none⟩ (.int .i64 ((rd_T178 l0_1 x18_2).f3)))) := ⟨by repeat (first | (with_reducible first | exact HB.out | apply below_alloc | apply pw_below_drewN | apply below_drew1 | refine below_set ?_ GE103.out | refine below_set ?_ GE106.out) | exact HB.out)⟩
                (try clear BK103)
                (try clear BK106)
                (try clear HB)
                generalize ((((w14.setCell ⟨gb106, 0, none⟩ (.int .i64 ((rd_T178 l0_1 x18_2).f0))).setCell ⟨gb106, 1, none⟩ (.int .i64 ((rd_T178 l0_1 x18_2).f1))).setCell ⟨gb106, 2, none⟩ (.int .i64 ((rd_T178 l0_1 x18_2).f2))).setCell ⟨gb106, 3, none⟩ (.int .i64 ((rd_T178 l0_1 x18_2).f3))) = w52 at n0_ n1_ n2_ ⊢
                have BK103 := n0_
                have BK106 := n1_
                have HB := n2_
                clear n0_ n1_ n2_
                have n0_ := Aside0.mk (blk_drew BK103.out)
                have n1_ := Aside0.mk (blk_drew BK106.out)
                have n2_ := Aside0.mk (below_drew1 HB.out)
                clear BK103
                clear BK106
                clear HB
                have BK103 := n0_
                have BK106 := n1_
                have HB := n2_
                clear n0_ n1_ n2_
                refine start_ (n := 51) (S := fun w' => w'.cell? ⟨gb106, 0, none⟩ = some (.int .i64 ((rd_T178 l0_1 x18_2).f0)) ∧ w'.cell? ⟨gb106, 1, none⟩ = some (.int .i64 ((rd_T178 l0_1 x18_2).f1)) ∧ w'.cell? ⟨gb106, 2, none⟩ = some (.int .i64 ((rd_T178 l0_1 x18_2).f2)) ∧ w'.cell? ⟨gb106, 3, none⟩ = some (.int .i64 ((rd_T178 l0_1 x18_2).f3)) ∧ w'.cell? ⟨gb103, 0, none⟩ = some (.int .i64 a0_0) ∧ w'.cell? ⟨gb103, 1, none⟩ = some (.slice (some ad105) l0_1.length c0_1)) (ds := []) #[false, false, false, false, false, false, false, false, false, false, false, false, false, false, false, false, false, false, false, false, false, false, false, false, false, false, false, false, false, false, false, false, false, false, false, false, false, false, false, false, false, false, false, false, false, false, false, false, false, false, false] (by kernel_rfl) rfl rfl ⟨(blk_cell BK106.out 0).trans rfl, (blk_cell BK106.out 1).trans rfl, (blk_cell BK106.out 2).trans rfl, (blk_cell BK106.out 3).trans rfl, (blk_cell BK103.out 0).trans rfl, (blk_cell BK103.out 1).trans rfl⟩ (fun hHeld => ?_); refine with_tabW spec_GoodClock.tab6 spec_GoodClock.bits6 (fun HT_ HW_ => ?_)
                generalize w52.drew = w53 at BK103 BK106 HB hHeld ⊢
                refine pureA 0 23 (bz 51 1) rfl rfl (any_of HT_.out (by kernel_rfl)) ?_
                refine takeA 1 24 (bz 51 3) rfl rfl (take_ofW HT_.out HW_.out (by kernel_rfl)) hHeld (by rintro w' ⟨s0, s1, s2, s3, s4, s5⟩; go_simp; with_reducible rfl) ?_
                refine one_ (i := 2) (N := some 25) (bz 51 7) rfl rfl (one_of HT_.out (by kernel_rfl)) (by decide) (fun K hK => ?_)
                refine goes_ Try.func87 (by kernel_rfl) rfl #[.int .i64 ((rd_T178 l0_1 x18_2).f0), .int .i64 0, .int .i64 999] (by rfl) rfl rfl (by (try simp only [List.map_toArray, List.map_cons, List.map_nil]); first | done | rfl | (simp only [List.length_drop, List.length_take]; rfl)) ?_
                with_reducible refine (spec_l1In.calls ((rd_T178 l0_1 x18_2).f0) 0 999 true _ A17.out).mono ?_
                rintro e w' ⟨rfl, ⟨nd, rfl⟩⟩
                refine ⟨_, rfl, ?_⟩
                refine hK.out _ _ ⟨(blk_cell BK106.out 0).trans rfl, (blk_cell BK106.out 1).trans rfl, (blk_cell BK106.out 2).trans rfl, (blk_cell BK106.out 3).trans rfl, (blk_cell BK103.out 0).trans rfl, (blk_cell BK103.out 1).trans rfl⟩ (fun hHeld => ?_)
                clear hK K
                refine norm_ (a' := ?_) ?_ ?_
                rotate_left
                ·show Act.put _ (some 25) _ = _
                 simp only [Act.put, List.setIfInBounds_toArray, List.set_cons_zero, List.set_cons_succ, i64_w, i32_w]
                 rfl
                refine pureA 3 26 (bz 51 15) rfl rfl (any_of HT_.out (by kernel_rfl)) ?_
                refine pureA 4 27 (bz 51 31) rfl rfl (any_of HT_.out (by kernel_rfl)) ?_
                refine pureA 5 28 (bz 51 63) rfl rfl (any_of HT_.out (by kernel_rfl)) ?_
                refine pureA 6 29 (bz 51 127) rfl rfl (any_of HT_.out (by kernel_rfl)) ?_
                refine pureA 7 30 (bz 51 255) rfl rfl (any_of HT_.out (by kernel_rfl)) ?_
                refine pureU 8 31 (bz 51 511) rfl rfl (any_of HT_.out (by kernel_rfl)) ?_
                refine pureU 9 32 (bz 51 1023) rfl rfl (any_of HT_.out (by kernel_rfl)) ?_
                refine pureU 10 33 (bz 51 2047) rfl rfl (any_of HT_.out (by kernel_rfl)) ?_
                refine pureU 11 34 (bz 51 4095) rfl rfl (any_of HT_.out (by kernel_rfl)) ?_
                refine pureU 12 35 (bz 51 8191) rfl rfl (any_of HT_.out (by kernel_rfl)) ?_
                refine pureU 13 36 (bz 51 16383) rfl rfl (any_of HT_.out (by kernel_rfl)) ?_
                refine pureU 14 37 (bz 51 32767) rfl rfl (any_of HT_.out (by kernel_rfl)) ?_
                refine pureU 15 38 (bz 51 65535) rfl rfl (any_of HT_.out (by kernel_rfl)) ?_
                refine pureU 16 39 (bz 51 131071) rfl rfl (any_of HT_.out (by kernel_rfl)) ?_
                refine pureU 17 40 (bz 51 262143) rfl rfl (any_of HT_.out (by kernel_rfl)) ?_
                refine pureA 18 41 (bz 51 524287) rfl rfl (any_of HT_.out (by kernel_rfl)) ?_
                refine pureA 19 42 (bz 51 1048575) rfl rfl (any_of HT_.out (by kernel_rfl)) ?_
                refine pureA 20 43 (bz 51 2097151) rfl rfl (any_of HT_.out (by kernel_rfl)) ?_
                refine pureA 21 44 (bz 51 4194303) rfl rfl (any_of HT_.out (by kernel_rfl)) ?_
                refine pureA 23 46 (bz 51 12582911) rfl rfl (any_of HT_.out (by kernel_rfl)) ?_
                refine takeA 22 45 (bz 51 16777215) rfl rfl (take_ofW HT_.out HW_.out (by kernel_rfl)) hHeld (by rintro w' ⟨s0, s1, s2, s3, s4, s5⟩; go_simp; with_reducible rfl) ?_
                refine takeA 24 47 (bz 51 33554431) rfl rfl (take_ofW HT_.out HW_.out (by kernel_rfl)) hHeld (by rintro w' ⟨s0, s1, s2, s3, s4, s5⟩; go_simp; with_reducible rfl) ?_
                refine pureA 25 48 (bz 51 67108863) rfl rfl (any_of HT_.out (by kernel_rfl)) ?_
                refine one_ (i := 26) (N := some 49) (bz 51 134217727) rfl rfl (one_of HT_.out (by kernel_rfl)) (by decide) (fun K hK => ?_)
                refine goes_ Try.func87 (by kernel_rfl) rfl #[.int .i64 ((rd_T178 l0_1 x18_2).f1), .int .i64 (wrap64 (a0_0 + 1)), .int .i64 200000] (by rfl) rfl rfl (by (try simp only [List.map_toArray, List.map_cons, List.map_nil]); first | done | rfl | (simp only [List.length_drop, List.length_take]; rfl)) ?_
                with_reducible refine (spec_l1In.calls ((rd_T178 l0_1 x18_2).f1) (wrap64 (a0_0 + 1)) 200000 true _ A43.out).mono ?_
                rintro e w' ⟨rfl, ⟨nd, rfl⟩⟩
                refine ⟨_, rfl, ?_⟩
                refine hK.out _ _ ⟨(blk_cell BK106.out 0).trans rfl, (blk_cell BK106.out 1).trans rfl, (blk_cell BK106.out 2).trans rfl, (blk_cell BK106.out 3).trans rfl, (blk_cell BK103.out 0).trans rfl, (blk_cell BK103.out 1).trans rfl⟩ (fun hHeld => ?_)
                clear hK K
                refine norm_ (a' := ?_) ?_ ?_
                rotate_left
                ·show Act.put _ (some 49) _ = _
                 simp only [Act.put, List.setIfInBounds_toArray, List.set_cons_zero, List.set_cons_succ, i64_w, i32_w]
                 rfl
                refine pureA 27 50 (bz 51 268435455) rfl rfl (any_of HT_.out (by kernel_rfl)) ?_
                refine pureA 28 51 (bz 51 536870911) rfl rfl (any_of HT_.out (by kernel_rfl)) ?_
                refine pureA 29 52 (bz 51 1073741823) rfl rfl (any_of HT_.out (by kernel_rfl)) ?_
                refine pureA 30 53 (bz 51 2147483647) rfl rfl (any_of HT_.out (by kernel_rfl)) ?_
                refine takeA 31 54 (bz 51 4294967295) rfl rfl (take_ofW HT_.out HW_.out (by kernel_rfl)) hHeld (by rintro w' ⟨s0, s1, s2, s3, s4, s5⟩; go_simp; with_reducible rfl) ?_
                refine one_ (i := 32) (N := some 55) (bz 51 8589934591) rfl rfl (one_of HT_.out (by kernel_rfl)) (by decide) (fun K hK => ?_)
                refine goes_ Try.func87 (by kernel_rfl) rfl #[.int .i64 ((rd_T178 l0_1 x18_2).f2), .int .i64 0, .int .i64 100000] (by rfl) rfl rfl (by (try simp only [List.map_toArray, List.map_cons, List.map_nil]); first | done | rfl | (simp only [List.length_drop, List.length_take]; rfl)) ?_
                with_reducible refine (spec_l1In.calls ((rd_T178 l0_1 x18_2).f2) 0 100000 true _ A45.out).mono ?_
                rintro e w' ⟨rfl, ⟨nd, rfl⟩⟩
                refine ⟨_, rfl, ?_⟩
                refine hK.out _ _ ⟨(blk_cell BK106.out 0).trans rfl, (blk_cell BK106.out 1).trans rfl, (blk_cell BK106.out 2).trans rfl, (blk_cell BK106.out 3).trans rfl, (blk_cell BK103.out 0).trans rfl, (blk_cell BK103.out 1).trans rfl⟩ (fun hHeld => ?_)
                clear hK K
                refine norm_ (a' := ?_) ?_ ?_
                rotate_left
                ·show Act.put _ (some 55) _ = _
                 simp only [Act.put, List.setIfInBounds_toArray, List.set_cons_zero, List.set_cons_succ, i64_w, i32_w]
                 rfl
                refine pureA 33 56 (bz 51 17179869183) rfl rfl (any_of HT_.out (by kernel_rfl)) ?_
                refine pureA 34 57 (bz 51 34359738367) rfl rfl (any_of HT_.out (by kernel_rfl)) ?_
                refine pureA 35 58 (bz 51 68719476735) rfl rfl (any_of HT_.out (by kernel_rfl)) ?_
                refine pureA 36 59 (bz 51 137438953471) rfl rfl (any_of HT_.out (by kernel_rfl)) ?_
                refine takeA 37 60 (bz 51 274877906943) rfl rfl (take_ofW HT_.out HW_.out (by kernel_rfl)) hHeld (by rintro w' ⟨s0, s1, s2, s3, s4, s5⟩; go_simp; with_reducible rfl) ?_
                refine one_ (i := 38) (N := some 61) (bz 51 549755813887) rfl rfl (one_of HT_.out (by kernel_rfl)) (by decide) (fun K hK => ?_)
                refine goes_ Try.func87 (by kernel_rfl) rfl #[.int .i64 ((rd_T178 l0_1 x18_2).f3), .int .i64 1, .int .i64 1000] (by rfl) rfl rfl (by (try simp only [List.map_toArray, List.map_cons, List.map_nil]); first | done | rfl | (simp only [List.length_drop, List.length_take]; rfl)) ?_
                with_reducible refine (spec_l1In.calls ((rd_T178 l0_1 x18_2).f3) 1 1000 true _ A47.out).mono ?_
                rintro e w' ⟨rfl, ⟨nd, rfl⟩⟩
                refine ⟨_, rfl, ?_⟩
                refine hK.out _ _ ⟨(blk_cell BK106.out 0).trans rfl, (blk_cell BK106.out 1).trans rfl, (blk_cell BK106.out 2).trans rfl, (blk_cell BK106.out 3).trans rfl, (blk_cell BK103.out 0).trans rfl, (blk_cell BK103.out 1).trans rfl⟩ (fun hHeld => ?_)
                clear hK K
                refine norm_ (a' := ?_) ?_ ?_
                rotate_left
                ·show Act.put _ (some 61) _ = _
                 simp only [Act.put, List.setIfInBounds_toArray, List.set_cons_zero, List.set_cons_succ, i64_w, i32_w]
                 rfl
                refine pureA 39 62 (bz 51 1099511627775) rfl rfl (any_of HT_.out (by kernel_rfl)) ?_
                refine pureA 40 63 (bz 51 2199023255551) rfl rfl (any_of HT_.out (by kernel_rfl)) ?_
                refine pureA 41 64 (bz 51 4398046511103) rfl rfl (any_of HT_.out (by kernel_rfl)) ?_
                refine pureA 42 65 (bz 51 8796093022207) rfl rfl (any_of HT_.out (by kernel_rfl)) ?_
                refine takeA 43 66 (bz 51 17592186044415) rfl rfl (take_ofW HT_.out HW_.out (by kernel_rfl)) hHeld (by rintro w' ⟨s0, s1, s2, s3, s4, s5⟩; go_simp; with_reducible rfl) ?_
                refine pureA 44 67 (bz 51 35184372088831) rfl rfl (any_of HT_.out (by kernel_rfl)) ?_
                refine pureA 45 68 (bz 51 70368744177663) rfl rfl (any_of HT_.out (by kernel_rfl)) ?_
                refine pureU 46 69 (bz 51 140737488355327) rfl rfl (any_of HT_.out (by kernel_rfl)) ?_
                refine pureU 47 70 (bz 51 281474976710655) rfl rfl (any_of HT_.out (by kernel_rfl)) ?_
                refine pureU 48 71 (bz 51 562949953421311) rfl rfl (any_of HT_.out (by kernel_rfl)) ?_
                refine pureA 49 72 (bz 51 1125899906842623) rfl rfl (any_of HT_.out (by kernel_rfl)) ?_
                refine pureA 50 73 (bz 51 2251799813685247) rfl rfl (any_of HT_.out (by kernel_rfl)) ?_
                refine done_ (done_of HT_.out (by kernel_rfl)) ?_
                try go_wp2
                go_meet
                case rel => exact ⟨_, (false), (by first | rfl | (simp; done) | (simp [*]; done) | exact not_isEmpty _ | exact (not_isEmpty _).symm | exact is_empty _ | exact (is_empty _).symm), H', ⟨by have := HJ1.out; have := HK2.out; first | omega | exact Nat.le_refl _⟩, ⟨by (with_reducible repeat (first | refine blk_drewN ?_ _ | refine blk_drew ?_ | refine blk_alloc ?_ _)); exact BK103.out⟩, ⟨by (with_reducible repeat (first | refine blk_drewN ?_ _ | refine blk_drew ?_ | refine blk_alloc ?_ _)); exact BK106.out⟩, ⟨by repeat (first | (with_reducible first | exact HB.out | apply below_alloc | apply pw_below_drewN | apply below_drew1 | refine below_set ?_ GE103.out | refine below_set ?_ GE106.out) | exact HB.out)⟩⟩
              ·replace c48 := Bool.eq_false_iff.mpr c48
               subst c48
               have H1 : (spec_GoodClock.j2 k2 l0_1 (l0_1.length : Int) x18_2 true a0_0 l0_1) = some r := by rw [if_neg (show ¬ (false = true) by decide)] at H; exact H
               clear H
               have H := H1
               clear H1
               have H' := Aside0.mk H
               clear H
               try go_wp2
               have n0_ : Aside0 (((((w14.setCell ⟨gb106, 0, none⟩ (.int .i64 ((rd_T178 l0_1 x18_2).f0))).setCell ⟨gb106, 1, none⟩ (.int .i64 ((rd_T178 l0_1 x18_2).f1))).setCell ⟨gb106, 2, none⟩ (.int .i64 ((rd_T178 l0_1 x18_2).f2))).setCell ⟨gb106, 3, none⟩ (.int .i64 ((rd_T178 l0_1 x18_2).f3))).heap[gb103]? = some (.cells #[.int .i64 a0_0, .slice (some ad105) l0_1.length c0_1] 83 (0, 0))) := ⟨by (with_reducible repeat (first | refine blk_drewN ?_ _ | refine blk_drew ?_ | refine blk_alloc ?_ _)); refine blk_far ?_ NB103_106.out _; (with_reducible repeat (first | refine blk_drewN ?_ _ | refine blk_drew ?_ | refine blk_alloc ?_ _)); refine blk_far ?_ NB103_106.out _; (with_reducible repeat (first | refine blk_drewN ?_ _ | refine blk_drew ?_ | refine blk_alloc ?_ _)); refine blk_far ?_ NB103_106.out _; (with_reducible repeat (first | refine blk_drewN ?_ _ | refine blk_drew ?_ | refine blk_alloc ?_ _)); refine blk_far ?_ NB103_106.out _; (with_reducible repeat (first | refine blk_drewN ?_ _ | refine blk_drew ?_ | refine blk_alloc ?_ _)); exact BK103.out⟩
               have n1_ : Aside0 (((((w14.setCell ⟨gb106, 0, none⟩ (.int .i64 ((rd_T178 l0_1 x18_2).f0))).setCell ⟨gb106, 1, none⟩ (.int .i64 ((rd_T178 l0_1 x18_2).f1))).setCell ⟨gb106, 2, none⟩ (.int .i64 ((rd_T178 l0_1 x18_2).f2))).setCell ⟨gb106, 3, none⟩ (.int .i64 ((rd_T178 l0_1 x18_2).f3))).heap[gb106]? = some (.cells #[.int .i64 ((rd_T178 l0_1 x18_2).f0), .int .i64 ((rd_T178 l0_1 x18_2).f1), .int .i64 ((rd_T178 l0_1 x18_2).f2), .int .i64 ((rd_T178 l0_1 x18_2).f3)] 178 (0, 0))) := ⟨by (with_reducible repeat (first | refine blk_drewN ?_ _ | refine blk_drew ?_ | refine blk_alloc ?_ _)); refine blk_put (cs := #[.int .i64 ((rd_T178 l0_1 x18_2).f0), .int .i64 ((rd_T178 l0_1 x18_2).f1), .int .i64 ((rd_T178 l0_1 x18_2).f2), .int .i64 0]) ?_ 3 _ rfl; (with_reducible repeat (first | refine blk_drewN ?_ _ | refine blk_drew ?_ | refine blk_alloc ?_ _)); refine blk_put (cs := #[.int .i64 ((rd_T178 l0_1 x18_2).f0), .int .i64 ((rd_T178 l0_1 x18_2).f1), .int .i64 0, .int .i64 0]) ?_ 2 _ rfl; (with_reducible repeat (first | refine blk_drewN ?_ _ | refine blk_drew ?_ | refine blk_alloc ?_ _)); refine blk_put (cs := #[.int .i64 ((rd_T178 l0_1 x18_2).f0), .int .i64 0, .int .i64 0, .int .i64 0]) ?_ 1 _ rfl; (with_reducible repeat (first | refine blk_drewN ?_ _ | refine blk_drew ?_ | refine blk_alloc ?_ _)); refine blk_put (cs := #[.int .i64 0, .int .i64 0, .int .i64 0, .int .i64 0]) ?_ 0 _ rfl; (with_reducible repeat (first | refine blk_drewN ?_ _ | refine blk_drew ?_ | refine blk_alloc ?_ _)); exact BK106.out⟩
               have n2_ : Aside0 (Below w.heap.size w ((((w14.setCell ⟨gb106, 0, none⟩ (.int .i64 ((rd_T178 l0_1 x18_2).f0))).setCell ⟨gb106, 1, none⟩ (.int .i64 ((rd_T178 l0_1 x18_2).f1))).setCell ⟨gb106, 2, none⟩ (.int .i64 ((rd_T178 l0_1 x18_2).f2))).setCell ⟨gb106, 3, none⟩ (.int .i64 ((rd_T178 l0_1 x18_2).f3)))) := ⟨by repeat (first | (with_reducible first | exact HB.out | apply below_alloc | apply pw_below_drewN | apply below_drew1 | refine below_set ?_ GE103.out | refine below_set ?_ GE106.out) | exact HB.out)⟩
               (try clear BK103)
               (try clear BK106)
               (try clear HB)
               generalize ((((w14.setCell ⟨gb106, 0, none⟩ (.int .i64 ((rd_T178 l0_1 x18_2).f0))).setCell ⟨gb106, 1, none⟩ (.int .i64 ((rd_T178 l0_1 x18_2).f1))).setCell ⟨gb106, 2, none⟩ (.int .i64 ((rd_T178 l0_1 x18_2).f2))).setCell ⟨gb106, 3, none⟩ (.int .i64 ((rd_T178 l0_1 x18_2).f3))) = w54 at n0_ n1_ n2_ ⊢
               have BK103 := n0_
               have BK106 := n1_
               have HB := n2_
               clear n0_ n1_ n2_
               have n0_ := Aside0.mk (blk_drew BK103.out)
               have n1_ := Aside0.mk (blk_drew BK106.out)
               have n2_ := Aside0.mk (below_drew1 HB.out)
               clear BK103
               clear BK106
               clear HB
               have BK103 := n0_
               have BK106 := n1_
               have HB := n2_
               clear n0_ n1_ n2_
               refine start_ (n := 51) (S := fun w' => w'.cell? ⟨gb106, 0, none⟩ = some (.int .i64 ((rd_T178 l0_1 x18_2).f0)) ∧ w'.cell? ⟨gb106, 1, none⟩ = some (.int .i64 ((rd_T178 l0_1 x18_2).f1)) ∧ w'.cell? ⟨gb106, 2, none⟩ = some (.int .i64 ((rd_T178 l0_1 x18_2).f2)) ∧ w'.cell? ⟨gb106, 3, none⟩ = some (.int .i64 ((rd_T178 l0_1 x18_2).f3)) ∧ w'.cell? ⟨gb103, 0, none⟩ = some (.int .i64 a0_0) ∧ w'.cell? ⟨gb103, 1, none⟩ = some (.slice (some ad105) l0_1.length c0_1)) (ds := []) #[false, false, false, false, false, false, false, false, false, false, false, false, false, false, false, false, false, false, false, false, false, false, false, false, false, false, false, false, false, false, false, false, false, false, false, false, false, false, false, false, false, false, false, false, false, false, false, false, false, false, false] (by kernel_rfl) rfl rfl ⟨(blk_cell BK106.out 0).trans rfl, (blk_cell BK106.out 1).trans rfl, (blk_cell BK106.out 2).trans rfl, (blk_cell BK106.out 3).trans rfl, (blk_cell BK103.out 0).trans rfl, (blk_cell BK103.out 1).trans rfl⟩ (fun hHeld => ?_); refine with_tabW spec_GoodClock.tab6 spec_GoodClock.bits6 (fun HT_ HW_ => ?_)
               generalize w54.drew = w55 at BK103 BK106 HB hHeld ⊢
               refine pureA 0 23 (bz 51 1) rfl rfl (any_of HT_.out (by kernel_rfl)) ?_
               refine takeA 1 24 (bz 51 3) rfl rfl (take_ofW HT_.out HW_.out (by kernel_rfl)) hHeld (by rintro w' ⟨s0, s1, s2, s3, s4, s5⟩; go_simp; with_reducible rfl) ?_
               refine one_ (i := 2) (N := some 25) (bz 51 7) rfl rfl (one_of HT_.out (by kernel_rfl)) (by decide) (fun K hK => ?_)
               refine goes_ Try.func87 (by kernel_rfl) rfl #[.int .i64 ((rd_T178 l0_1 x18_2).f0), .int .i64 0, .int .i64 999] (by rfl) rfl rfl (by (try simp only [List.map_toArray, List.map_cons, List.map_nil]); first | done | rfl | (simp only [List.length_drop, List.length_take]; rfl)) ?_
               with_reducible refine (spec_l1In.calls ((rd_T178 l0_1 x18_2).f0) 0 999 true _ A17.out).mono ?_
               rintro e w' ⟨rfl, ⟨nd, rfl⟩⟩
               refine ⟨_, rfl, ?_⟩
               refine hK.out _ _ ⟨(blk_cell BK106.out 0).trans rfl, (blk_cell BK106.out 1).trans rfl, (blk_cell BK106.out 2).trans rfl, (blk_cell BK106.out 3).trans rfl, (blk_cell BK103.out 0).trans rfl, (blk_cell BK103.out 1).trans rfl⟩ (fun hHeld => ?_)
               clear hK K
               refine norm_ (a' := ?_) ?_ ?_
               rotate_left
               ·show Act.put _ (some 25) _ = _
                simp only [Act.put, List.setIfInBounds_toArray, List.set_cons_zero, List.set_cons_succ, i64_w, i32_w]
                rfl
               refine pureA 3 26 (bz 51 15) rfl rfl (any_of HT_.out (by kernel_rfl)) ?_
               refine pureA 4 27 (bz 51 31) rfl rfl (any_of HT_.out (by kernel_rfl)) ?_
               refine pureA 5 28 (bz 51 63) rfl rfl (any_of HT_.out (by kernel_rfl)) ?_
               refine pureA 6 29 (bz 51 127) rfl rfl (any_of HT_.out (by kernel_rfl)) ?_
               refine pureA 7 30 (bz 51 255) rfl rfl (any_of HT_.out (by kernel_rfl)) ?_
               refine pureU 8 31 (bz 51 511) rfl rfl (any_of HT_.out (by kernel_rfl)) ?_
               refine pureU 9 32 (bz 51 1023) rfl rfl (any_of HT_.out (by kernel_rfl)) ?_
               refine pureU 10 33 (bz 51 2047) rfl rfl (any_of HT_.out (by kernel_rfl)) ?_
               refine pureU 11 34 (bz 51 4095) rfl rfl (any_of HT_.out (by kernel_rfl)) ?_
               refine pureU 12 35 (bz 51 8191) rfl rfl (any_of HT_.out (by kernel_rfl)) ?_
               refine pureU 13 36 (bz 51 16383) rfl rfl (any_of HT_.out (by kernel_rfl)) ?_
               refine pureU 14 37 (bz 51 32767) rfl rfl (any_of HT_.out (by kernel_rfl)) ?_
               refine pureU 15 38 (bz 51 65535) rfl rfl (any_of HT_.out (by kernel_rfl)) ?_
               refine pureU 16 39 (bz 51 131071) rfl rfl (any_of HT_.out (by kernel_rfl)) ?_
               refine pureU 17 40 (bz 51 262143) rfl rfl (any_of HT_.out (by kernel_rfl)) ?_
               refine pureA 18 41 (bz 51 524287) rfl rfl (any_of HT_.out (by kernel_rfl)) ?_
               refine pureA 19 42 (bz 51 1048575) rfl rfl (any_of HT_.out (by kernel_rfl)) ?_
               refine pureA 20 43 (bz 51 2097151) rfl rfl (any_of HT_.out (by kernel_rfl)) ?_
               refine pureA 21 44 (bz 51 4194303) rfl rfl (any_of HT_.out (by kernel_rfl)) ?_
               refine pureA 23 46 (bz 51 12582911) rfl rfl (any_of HT_.out (by kernel_rfl)) ?_
               refine takeA 22 45 (bz 51 16777215) rfl rfl (take_ofW HT_.out HW_.out (by kernel_rfl)) hHeld (by rintro w' ⟨s0, s1, s2, s3, s4, s5⟩; go_simp; with_reducible rfl) ?_
               refine takeA 24 47 (bz 51 33554431) rfl rfl (take_ofW HT_.out HW_.out (by kernel_rfl)) hHeld (by rintro w' ⟨s0, s1, s2, s3, s4, s5⟩; go_simp; with_reducible rfl) ?_
               refine pureA 25 48 (bz 51 67108863) rfl rfl (any_of HT_.out (by kernel_rfl)) ?_
               refine one_ (i := 26) (N := some 49) (bz 51 134217727) rfl rfl (one_of HT_.out (by kernel_rfl)) (by decide) (fun K hK => ?_)
               refine goes_ Try.func87 (by kernel_rfl) rfl #[.int .i64 ((rd_T178 l0_1 x18_2).f1), .int .i64 (wrap64 (a0_0 + 1)), .int .i64 200000] (by rfl) rfl rfl (by (try simp only [List.map_toArray, List.map_cons, List.map_nil]); first | done | rfl | (simp only [List.length_drop, List.length_take]; rfl)) ?_
               with_reducible refine (spec_l1In.calls ((rd_T178 l0_1 x18_2).f1) (wrap64 (a0_0 + 1)) 200000 true _ A43.out).mono ?_
               rintro e w' ⟨rfl, ⟨nd, rfl⟩⟩
               refine ⟨_, rfl, ?_⟩
               refine hK.out _ _ ⟨(blk_cell BK106.out 0).trans rfl, (blk_cell BK106.out 1).trans rfl, (blk_cell BK106.out 2).trans rfl, (blk_cell BK106.out 3).trans rfl, (blk_cell BK103.out 0).trans rfl, (blk_cell BK103.out 1).trans rfl⟩ (fun hHeld => ?_)
               clear hK K
               refine norm_ (a' := ?_) ?_ ?_
               rotate_left
               ·show Act.put _ (some 49) _ = _
                simp only [Act.put, List.setIfInBounds_toArray, List.set_cons_zero, List.set_cons_succ, i64_w, i32_w]
                rfl
               refine pureA 27 50 (bz 51 268435455) rfl rfl (any_of HT_.out (by kernel_rfl)) ?_
               refine pureA 28 51 (bz 51 536870911) rfl rfl (any_of HT_.out (by kernel_rfl)) ?_
               refine pureA 29 52 (bz 51 1073741823) rfl rfl (any_of HT_.out (by kernel_rfl)) ?_
               refine pureA 30 53 (bz 51 2147483647) rfl rfl (any_of HT_.out (by kernel_rfl)) ?_
               refine takeA 31 54 (bz 51 4294967295) rfl rfl (take_ofW HT_.out HW_.out (by kernel_rfl)) hHeld (by rintro w' ⟨s0, s1, s2, s3, s4, s5⟩; go_simp; with_reducible rfl) ?_
               refine one_ (i := 32) (N := some 55) (bz 51 8589934591) rfl rfl (one_of HT_.out (by kernel_rfl)) (by decide) (fun K hK => ?_)
               refine goes_ Try.func87 (by kernel_rfl) rfl #[.int .i64 ((rd_T178 l0_1 x18_2).f2), .int .i64 0, .int .i64 100000] (by rfl) rfl rfl (by (try simp only [List.map_toArray, List.map_cons, List.map_nil]); first | done | rfl | (simp only [List.length_drop, List.length_take]; rfl)) ?_
               with_reducible refine (spec_l1In.calls ((rd_T178 l0_1 x18_2).f2) 0 100000 true _ A45.out).mono ?_
               rintro e w' ⟨rfl, ⟨nd, rfl⟩⟩
               refine ⟨_, rfl, ?_⟩
               refine hK.out _ _ ⟨(blk_cell BK106.out 0).trans rfl, (blk_cell BK106.out 1).trans rfl, (blk_cell BK106.out 2).trans rfl, (blk_cell BK106.out 3).trans rfl, (blk_cell BK103.out 0).trans rfl, (blk_cell BK103.out 1).trans rfl⟩ (fun hHeld => ?_)
               clear hK K
               refine norm_ (a' := ?_) ?_ ?_
               rotate_left
               ·show Act.put _ (some 55) _ = _
                simp only [Act.put, List.setIfInBounds_toArray, List.set_cons_zero, List.set_cons_succ, i64_w, i32_w]
                rfl
               refine pureA 33 56 (bz 51 17179869183) rfl rfl (any_of HT_.out (by kernel_rfl)) ?_
               refine pureA 34 57 (bz 51 34359738367) rfl rfl (any_of HT_.out (by kernel_rfl)) ?_
               refine pureA 35 58 (bz 51 68719476735) rfl rfl (any_of HT_.out (by kernel_rfl)) ?_
               refine pureA 36 59 (bz 51 137438953471) rfl rfl (any_of HT_.out (by kernel_rfl)) ?_
               refine takeA 37 60 (bz 51 274877906943) rfl rfl (take_ofW HT_.out HW_.out (by kernel_rfl)) hHeld (by rintro w' ⟨s0, s1, s2, s3, s4, s5⟩; go_simp; with_reducible rfl) ?_
               refine one_ (i := 38) (N := some 61) (bz 51 549755813887) rfl rfl (one_of HT_.out (by kernel_rfl)) (by decide) (fun K hK => ?_)
               refine goes_ Try.func87 (by kernel_rfl) rfl #[.int .i64 ((rd_T178 l0_1 x18_2).f3), .int .i64 1, .int .i64 1000] (by rfl) rfl rfl (by (try simp only [List.map_toArray, List.map_cons, List.map_nil]); first | done | rfl | (simp only [List.length_drop, List.length_take]; rfl)) ?_
               with_reducible refine (spec_l1In.calls ((rd_T178 l0_1 x18_2).f3) 1 1000 false _ A47.out).mono ?_
               rintro e w' ⟨rfl, ⟨nd, rfl⟩⟩
               refine ⟨_, rfl, ?_⟩
               refine hK.out _ _ ⟨(blk_cell BK106.out 0).trans rfl, (blk_cell BK106.out 1).trans rfl, (blk_cell BK106.out 2).trans rfl, (blk_cell BK106.out 3).trans rfl, (blk_cell BK103.out 0).trans rfl, (blk_cell BK103.out 1).trans rfl⟩ (fun hHeld => ?_)
               clear hK K
               refine norm_ (a' := ?_) ?_ ?_
               rotate_left
               ·show Act.put _ (some 61) _ = _
                simp only [Act.put, List.setIfInBounds_toArray, List.set_cons_zero, List.set_cons_succ, i64_w, i32_w]
                rfl
               refine pureA 39 62 (bz 51 1099511627775) rfl rfl (any_of HT_.out (by kernel_rfl)) ?_
               refine pureA 40 63 (bz 51 2199023255551) rfl rfl (any_of HT_.out (by kernel_rfl)) ?_
               refine pureA 41 64 (bz 51 4398046511103) rfl rfl (any_of HT_.out (by kernel_rfl)) ?_
               refine pureU 42 65 (bz 51 8796093022207) rfl rfl (any_of HT_.out (by kernel_rfl)) ?_
               refine pureU 43 66 (bz 51 17592186044415) rfl rfl (any_of HT_.out (by kernel_rfl)) ?_
               refine pureU 44 67 (bz 51 35184372088831) rfl rfl (any_of HT_.out (by kernel_rfl)) ?_
               refine pureU 45 68 (bz 51 70368744177663) rfl rfl (any_of HT_.out (by kernel_rfl)) ?_
               refine pureU 46 69 (bz 51 140737488355327) rfl rfl (any_of HT_.out (by kernel_rfl)) ?_
               refine pureU 47 70 (bz 51 281474976710655) rfl rfl (any_of HT_.out (by kernel_rfl)) ?_
               refine pureU 48 71 (bz 51 562949953421311) rfl rfl (any_of HT_.out (by kernel_rfl)) ?_
               refine pureU 49 72 (bz 51 1125899906842623) rfl rfl (any_of HT_.out (by kernel_rfl)) ?_
               refine pureA 50 73 (bz 51 2251799813685247) rfl rfl (any_of HT_.out (by kernel_rfl)) ?_
               refine done_ (done_of HT_.out (by kernel_rfl)) ?_
               try go_wp2
               go_meet
               case rel => exact ⟨_, (true), (by first | rfl | (simp; done) | (simp [*]; done) | exact not_isEmpty _ | exact (not_isEmpty _).symm | exact is_empty _ | exact (is_empty _).symm), H', ⟨by have := HJ1.out; have := HK2.out; first | omega | exact Nat.le_refl _⟩, ⟨by (with_reducible repeat (first | refine blk_drewN ?_ _ | refine blk_drew ?_ | refine blk_alloc ?_ _)); exact BK103.out⟩, ⟨by (with_reducible repeat (first | refine blk_drewN ?_ _ | refine blk_drew ?_ | refine blk_alloc ?_ _)); exact BK106.out⟩, ⟨by repeat (first | (with_reducible first | exact HB.out | apply below_alloc | apply pw_below_drewN | apply below_drew1 | refine below_set ?_ GE103.out | refine below_set ?_ GE106.out) | exact HB.out)⟩⟩
             ·replace c46 := Bool.eq_false_iff.mpr c46
              subst c46
              have H1 : (spec_GoodClock.j2 k2 l0_1 (l0_1.length : Int) x18_2 true a0_0 l0_1) = some r := by rw [if_neg (show ¬ (false = true) by decide)] at H; exact H
              clear H
              have H := H1
              clear H1
              have H' := Aside0.mk H
              clear H
              try go_wp2
              have n0_ : Aside0 (((((w14.setCell ⟨gb106, 0, none⟩ (.int .i64 ((rd_T178 l0_1 x18_2).f0))).setCell ⟨gb106, 1, none⟩ (.int .i64 ((rd_T178 l0_1 x18_2).f1))).setCell ⟨gb106, 2, none⟩ (.int .i64 ((rd_T178 l0_1 x18_2).f2))).setCell ⟨gb106, 3, none⟩ (.int .i64 ((rd_T178 l0_1 x18_2).f3))).heap[gb103]? = some (.cells #[.int .i64 a0_0, .slice (some ad105) l0_1.length c0_1] 83 (0, 0))) := ⟨by (with_reducible repeat (first | refine blk_drewN ?_ _ | refine blk_drew ?_ | refine blk_alloc ?_ _)); refine blk_far ?_ NB103_106.out _; (with_reducible repeat (first | refine blk_drewN ?_ _ | refine blk_drew ?_ | refine blk_alloc ?_ _)); refine blk_far ?_ NB103_106.out _; (with_reducible repeat (first | refine blk_drewN ?_ _ | refine blk_drew ?_ | refine blk_alloc ?_ _)); refine blk_far ?_ NB103_106.out _; (with_reducible repeat (first | refine blk_drewN ?_ _ | refine blk_drew ?_ | refine blk_alloc ?_ _)); refine blk_far ?_ NB103_106.out _; (with_reducible repeat (first | refine blk_drewN ?_ _ | refine blk_drew ?_ | refine blk_alloc ?_ _)); exact BK103.out⟩
              have n1_ : Aside0 (((((w14.setCell ⟨gb106, 0, none⟩ (.int .i64 ((rd_T178 l0_1 x18_2).f0))).setCell ⟨gb106, 1, none⟩ (.int .i64 ((rd_T178 l0_1 x18_2).f1))).setCell ⟨gb106, 2, none⟩ (.int .i64 ((rd_T178 l0_1 x18_2).f2))).setCell ⟨gb106, 3, none⟩ (.int .i64 ((rd_T178 l0_1 x18_2).f3))).heap[gb106]? = some (.cells #[.int .i64 ((rd_T178 l0_1 x18_2).f0), .int .i64 ((rd_T178 l0_1 x18_2).f1), .int .i64 ((rd_T178 l0_1 x18_2).f2), .int .i64 ((rd_T178 l0_1 x18_2).f3)] 178 (0, 0))) := ⟨by (with_reducible repeat (first | refine blk_drewN ?_ _ | refine blk_drew ?_ | refine blk_alloc ?_ _)); refine blk_put (cs := #[.int .i64 ((rd_T178 l0_1 x18_2).f0), .int .i64 ((rd_T178 l0_1 x18_2).f1), .int .i64 ((rd_T178 l0_1 x18_2).f2), .int .i64 0]) ?_ 3 _ rfl; (with_reducible repeat (first | refine blk_drewN ?_ _ | refine blk_drew ?_ | refine blk_alloc ?_ _)); refine blk_put (cs := #[.int .i64 ((rd_T178 l0_1 x18_2).f0), .int .i64 ((rd_T178 l0_1 x18_2).f1), .int .i64 0, .int .i64 0]) ?_ 2 _ rfl; (with_reducible repeat (first | refine blk_drewN ?_ _ | refine blk_drew ?_ | refine blk_alloc ?_ _)); refine blk_put (cs := #[.int .i64 ((rd_T178 l0_1 x18_2).f0), .int .i64 0, .int .i64 0, .int .i64 0]) ?_ 1 _ rfl; (with_reducible repeat (first | refine blk_drewN ?_ _ | refine blk_drew ?_ | refine blk_alloc ?_ _)); refine blk_put (cs := #[.int .i64 0, .int .i64 0, .int .i64 0, .int .i64 0]) ?_ 0 _ rfl; (with_reducible repeat (first | refine blk_drewN ?_ _ | refine blk_drew ?_ | refine blk_alloc ?_ _)); exact BK106.out⟩
              have n2_ : Aside0 (Below w.heap.size w ((((w14.setCell ⟨gb106, 0, none⟩ (.int .i64 ((rd_T178 l0_1 x18_2).f0))).setCell ⟨gb106, 1, none⟩ (.int .i64 ((rd_T178 l0_1 x18_2).f1))).setCell ⟨gb106, 2, none⟩ (.int .i64 ((rd_T178 l0_1 x18_2).f2))).setCell ⟨gb106, 3, none⟩ (.int .i64 ((rd_T178 l0_1 x18_2).f3)))) := ⟨by repeat (first | (with_reducible first | exact HB.out | apply below_alloc | apply pw_below_drewN | apply below_drew1 | refine below_set ?_ GE103.out | refine below_set ?_ GE106.out) | exact HB.out)⟩
              (try clear BK103)
              (try clear BK106)
              (try clear HB)
              generalize ((((w14.setCell ⟨gb106, 0, none⟩ (.int .i64 ((rd_T178 l0_1 x18_2).f0))).setCell ⟨gb106, 1, none⟩ (.int .i64 ((rd_T178 l0_1 x18_2).f1))).setCell ⟨gb106, 2, none⟩ (.int .i64 ((rd_T178 l0_1 x18_2).f2))).setCell ⟨gb106, 3, none⟩ (.int .i64 ((rd_T178 l0_1 x18_2).f3))) = w56 at n0_ n1_ n2_ ⊢
              have BK103 := n0_
              have BK106 := n1_
              have HB := n2_
              clear n0_ n1_ n2_
              have n0_ := Aside0.mk (blk_drew BK103.out)
              have n1_ := Aside0.mk (blk_drew BK106.out)
              have n2_ := Aside0.mk (below_drew1 HB.out)
              clear BK103
              clear BK106
              clear HB
              have BK103 := n0_
              have BK106 := n1_
              have HB := n2_
              clear n0_ n1_ n2_
              refine start_ (n := 51) (S := fun w' => w'.cell? ⟨gb106, 0, none⟩ = some (.int .i64 ((rd_T178 l0_1 x18_2).f0)) ∧ w'.cell? ⟨gb106, 1, none⟩ = some (.int .i64 ((rd_T178 l0_1 x18_2).f1)) ∧ w'.cell? ⟨gb106, 2, none⟩ = some (.int .i64 ((rd_T178 l0_1 x18_2).f2)) ∧ w'.cell? ⟨gb106, 3, none⟩ = some (.int .i64 ((rd_T178 l0_1 x18_2).f3)) ∧ w'.cell? ⟨gb103, 0, none⟩ = some (.int .i64 a0_0) ∧ w'.cell? ⟨gb103, 1, none⟩ = some (.slice (some ad105) l0_1.length c0_1)) (ds := []) #[false, false, false, false, false, false, false, false, false, false, false, false, false, false, false, false, false, false, false, false, false, false, false, false, false, false, false, false, false, false, false, false, false, false, false, false, false, false, false, false, false, false, false, false, false, false, false, false, false, false, false] (by kernel_rfl) rfl rfl ⟨(blk_cell BK106.out 0).trans rfl, (blk_cell BK106.out 1).trans rfl, (blk_cell BK106.out 2).trans rfl, (blk_cell BK106.out 3).trans rfl, (blk_cell BK103.out 0).trans rfl, (blk_cell BK103.out 1).trans rfl⟩ (fun hHeld => ?_); refine with_tabW spec_GoodClock.tab6 spec_GoodClock.bits6 (fun HT_ HW_ => ?_)
              generalize w56.drew = w57 at BK103 BK106 HB hHeld ⊢
              refine pureA 0 23 (bz 51 1) rfl rfl (any_of HT_.out (by kernel_rfl)) ?_
              refine takeA 1 24 (bz 51 3) rfl rfl (take_ofW HT_.out HW_.out (by kernel_rfl)) hHeld (by rintro w' ⟨s0, s1, s2, s3, s4, s5⟩; go_simp; with_reducible rfl) ?_
              refine one_ (i := 2) (N := some 25) (bz 51 7) rfl rfl (one_of HT_.out (by kernel_rfl)) (by decide) (fun K hK => ?_)
              refine goes_ Try.func87 (by kernel_rfl) rfl #[.int .i64 ((rd_T178 l0_1 x18_2).f0), .int .i64 0, .int .i64 999] (by rfl) rfl rfl (by (try simp only [List.map_toArray, List.map_cons, List.map_nil]); first | done | rfl | (simp only [List.length_drop, List.length_take]; rfl)) ?_
              with_reducible refine (spec_l1In.calls ((rd_T178 l0_1 x18_2).f0) 0 999 true _ A17.out).mono ?_
              rintro e w' ⟨rfl, ⟨nd, rfl⟩⟩
              refine ⟨_, rfl, ?_⟩
              refine hK.out _ _ ⟨(blk_cell BK106.out 0).trans rfl, (blk_cell BK106.out 1).trans rfl, (blk_cell BK106.out 2).trans rfl, (blk_cell BK106.out 3).trans rfl, (blk_cell BK103.out 0).trans rfl, (blk_cell BK103.out 1).trans rfl⟩ (fun hHeld => ?_)
              clear hK K
              refine norm_ (a' := ?_) ?_ ?_
              rotate_left
              ·show Act.put _ (some 25) _ = _
               simp only [Act.put, List.setIfInBounds_toArray, List.set_cons_zero, List.set_cons_succ, i64_w, i32_w]
               rfl
              refine pureA 3 26 (bz 51 15) rfl rfl (any_of HT_.out (by kernel_rfl)) ?_
              refine pureA 4 27 (bz 51 31) rfl rfl (any_of HT_.out (by kernel_rfl)) ?_
              refine pureA 5 28 (bz 51 63) rfl rfl (any_of HT_.out (by kernel_rfl)) ?_
              refine pureA 6 29 (bz 51 127) rfl rfl (any_of HT_.out (by kernel_rfl)) ?_
              refine pureA 7 30 (bz 51 255) rfl rfl (any_of HT_.out (by kernel_rfl)) ?_
              refine pureU 8 31 (bz 51 511) rfl rfl (any_of HT_.out (by kernel_rfl)) ?_
              refine pureU 9 32 (bz 51 1023) rfl rfl (any_of HT_.out (by kernel_rfl)) ?_
              refine pureU 10 33 (bz 51 2047) rfl rfl (any_of HT_.out (by kernel_rfl)) ?_
              refine pureU 11 34 (bz 51 4095) rfl rfl (any_of HT_.out (by kernel_rfl)) ?_
              refine pureU 12 35 (bz 51 8191) rfl rfl (any_of HT_.out (by kernel_rfl)) ?_
              refine pureU 13 36 (bz 51 16383) rfl rfl (any_of HT_.out (by kernel_rfl)) ?_
              refine pureU 14 37 (bz 51 32767) rfl rfl (any_of HT_.out (by kernel_rfl)) ?_
              refine pureU 15 38 (bz 51 65535) rfl rfl (any_of HT_.out (by kernel_rfl)) ?_
              refine pureU 16 39 (bz 51 131071) rfl rfl (any_of HT_.out (by kernel_rfl)) ?_
              refine pureU 17 40 (bz 51 262143) rfl rfl (any_of HT_.out (by kernel_rfl)) ?_
              refine pureA 18 41 (bz 51 524287) rfl rfl (any_of HT_.out (by kernel_rfl)) ?_
              refine pureA 19 42 (bz 51 1048575) rfl rfl (any_of HT_.out (by kernel_rfl)) ?_
              refine pureA 20 43 (bz 51 2097151) rfl rfl (any_of HT_.out (by kernel_rfl)) ?_
              refine pureA 21 44 (bz 51 4194303) rfl rfl (any_of HT_.out (by kernel_rfl)) ?_
              refine pureA 23 46 (bz 51 12582911) rfl rfl (any_of HT_.out (by kernel_rfl)) ?_
              refine takeA 22 45 (bz 51 16777215) rfl rfl (take_ofW HT_.out HW_.out (by kernel_rfl)) hHeld (by rintro w' ⟨s0, s1, s2, s3, s4, s5⟩; go_simp; with_reducible rfl) ?_
              refine takeA 24 47 (bz 51 33554431) rfl rfl (take_ofW HT_.out HW_.out (by kernel_rfl)) hHeld (by rintro w' ⟨s0, s1, s2, s3, s4, s5⟩; go_simp; with_reducible rfl) ?_
              refine pureA 25 48 (bz 51 67108863) rfl rfl (any_of HT_.out (by kernel_rfl)) ?_
              refine one_ (i := 26) (N := some 49) (bz 51 134217727) rfl rfl (one_of HT_.out (by kernel_rfl)) (by decide) (fun K hK => ?_)
              refine goes_ Try.func87 (by kernel_rfl) rfl #[.int .i64 ((rd_T178 l0_1 x18_2).f1), .int .i64 (wrap64 (a0_0 + 1)), .int .i64 200000] (by rfl) rfl rfl (by (try simp only [List.map_toArray, List.map_cons, List.map_nil]); first | done | rfl | (simp only [List.length_drop, List.length_take]; rfl)) ?_
              with_reducible refine (spec_l1In.calls ((rd_T178 l0_1 x18_2).f1) (wrap64 (a0_0 + 1)) 200000 true _ A43.out).mono ?_
              rintro e w' ⟨rfl, ⟨nd, rfl⟩⟩
              refine ⟨_, rfl, ?_⟩
              refine hK.out _ _ ⟨(blk_cell BK106.out 0).trans rfl, (blk_cell BK106.out 1).trans rfl, (blk_cell BK106.out 2).trans rfl, (blk_cell BK106.out 3).trans rfl, (blk_cell BK103.out 0).trans rfl, (blk_cell BK103.out 1).trans rfl⟩ (fun hHeld => ?_)
              clear hK K
              refine norm_ (a' := ?_) ?_ ?_
              rotate_left
              ·show Act.put _ (some 49) _ = _
               simp only [Act.put, List.setIfInBounds_toArray, List.set_cons_zero, List.set_cons_succ, i64_w, i32_w]
               rfl
              refine pureA 27 50 (bz 51 268435455) rfl rfl (any_of HT_.out (by kernel_rfl)) ?_
              refine pureA 28 51 (bz 51 536870911) rfl rfl (any_of HT_.out (by kernel_rfl)) ?_
              refine pureA 29 52 (bz 51 1073741823) rfl rfl (any_of HT_.out (by kernel_rfl)) ?_
              refine pureA 30 53 (bz 51 2147483647) rfl rfl (any_of HT_.out (by kernel_rfl)) ?_
              refine takeA 31 54 (bz 51 4294967295) rfl rfl (take_ofW HT_.out HW_.out (by kernel_rfl)) hHeld (by rintro w' ⟨s0, s1, s2, s3, s4, s5⟩; go_simp; with_reducible rfl) ?_
              refine one_ (i := 32) (N := some 55) (bz 51 8589934591) rfl rfl (one_of HT_.out (by kernel_rfl)) (by decide) (fun K hK => ?_)
              refine goes_ Try.func87 (by kernel_rfl) rfl #[.int .i64 ((rd_T178 l0_1 x18_2).f2), .int .i64 0, .int .i64 100000] (by rfl) rfl rfl (by (try simp only [List.map_toArray, List.map_cons, List.map_nil]); first | done | rfl | (simp only [List.length_drop, List.length_take]; rfl)) ?_
              with_reducible refine (spec_l1In.calls ((rd_T178 l0_1 x18_2).f2) 0 100000 false _ A45.out).mono ?_
              rintro e w' ⟨rfl, ⟨nd, rfl⟩⟩
              refine ⟨_, rfl, ?_⟩
              refine hK.out _ _ ⟨(blk_cell BK106.out 0).trans rfl, (blk_cell BK106.out 1).trans rfl, (blk_cell BK106.out 2).trans rfl, (blk_cell BK106.out 3).trans rfl, (blk_cell BK103.out 0).trans rfl, (blk_cell BK103.out 1).trans rfl⟩ (fun hHeld => ?_)
              clear hK K
              refine norm_ (a' := ?_) ?_ ?_
              rotate_left
              ·show Act.put _ (some 55) _ = _
               simp only [Act.put, List.setIfInBounds_toArray, List.set_cons_zero, List.set_cons_succ, i64_w, i32_w]
               rfl
              refine pureA 33 56 (bz 51 17179869183) rfl rfl (any_of HT_.out (by kernel_rfl)) ?_
              refine pureA 34 57 (bz 51 34359738367) rfl rfl (any_of HT_.out (by kernel_rfl)) ?_
              refine pureA 35 58 (bz 51 68719476735) rfl rfl (any_of HT_.out (by kernel_rfl)) ?_
              refine pureU 36 59 (bz 51 137438953471) rfl rfl (any_of HT_.out (by kernel_rfl)) ?_
              refine pureU 37 60 (bz 51 274877906943) rfl rfl (any_of HT_.out (by kernel_rfl)) ?_
              refine pureU 38 61 (bz 51 549755813887) rfl rfl (any_of HT_.out (by kernel_rfl)) ?_
              refine pureU 39 62 (bz 51 1099511627775) rfl rfl (any_of HT_.out (by kernel_rfl)) ?_
              refine pureA 40 63 (bz 51 2199023255551) rfl rfl (any_of HT_.out (by kernel_rfl)) ?_
              refine pureA 41 64 (bz 51 4398046511103) rfl rfl (any_of HT_.out (by kernel_rfl)) ?_
              refine pureU 42 65 (bz 51 8796093022207) rfl rfl (any_of HT_.out (by kernel_rfl)) ?_
              refine pureU 43 66 (bz 51 17592186044415) rfl rfl (any_of HT_.out (by kernel_rfl)) ?_
              refine pureU 44 67 (bz 51 35184372088831) rfl rfl (any_of HT_.out (by kernel_rfl)) ?_
              refine pureU 45 68 (bz 51 70368744177663) rfl rfl (any_of HT_.out (by kernel_rfl)) ?_
              refine pureU 46 69 (bz 51 140737488355327) rfl rfl (any_of HT_.out (by kernel_rfl)) ?_
              refine pureU 47 70 (bz 51 281474976710655) rfl rfl (any_of HT_.out (by kernel_rfl)) ?_
              refine pureU 48 71 (bz 51 562949953421311) rfl rfl (any_of HT_.out (by kernel_rfl)) ?_
              refine pureU 49 72 (bz 51 1125899906842623) rfl rfl (any_of HT_.out (by kernel_rfl)) ?_
              refine pureA 50 73 (bz 51 2251799813685247) rfl rfl (any_of HT_.out (by kernel_rfl)) ?_
              refine done_ (done_of HT_.out (by kernel_rfl)) ?_
              try go_wp2
              go_meet
              case rel => exact ⟨_, (true), (by first | rfl | (simp; done) | (simp [*]; done) | exact not_isEmpty _ | exact (not_isEmpty _).symm | exact is_empty _ | exact (is_empty _).symm), H', ⟨by have := HJ1.out; have := HK2.out; first | omega | exact Nat.le_refl _⟩, ⟨by (with_reducible repeat (first | refine blk_drewN ?_ _ | refine blk_drew ?_ | refine blk_alloc ?_ _)); exact BK103.out⟩, ⟨by (with_reducible repeat (first | refine blk_drewN ?_ _ | refine blk_drew ?_ | refine blk_alloc ?_ _)); exact BK106.out⟩, ⟨by repeat (first | (with_reducible first | exact HB.out | apply below_alloc | apply pw_below_drewN | apply below_drew1 | refine below_set ?_ GE103.out | refine below_set ?_ GE106.out) | exact HB.out)⟩⟩
            ·replace c44 := Bool.eq_false_iff.mpr c44
             subst c44
             have H1 : (spec_GoodClock.j2 k2 l0_1 (l0_1.length : Int) x18_2 true a0_0 l0_1) = some r := by rw [if_neg (show ¬ (false = true) by decide)] at H; exact H
             clear H
             have H := H1
             clear H1
             have H' := Aside0.mk H
             clear H
             try go_wp2
             have n0_ : Aside0 (((((w14.setCell ⟨gb106, 0, none⟩ (.int .i64 ((rd_T178 l0_1 x18_2).f0))).setCell ⟨gb106, 1, none⟩ (.int .i64 ((rd_T178 l0_1 x18_2).f1))).setCell ⟨gb106, 2, none⟩ (.int .i64 ((rd_T178 l0_1 x18_2).f2))).setCell ⟨gb106, 3, none⟩ (.int .i64 ((rd_T178 l0_1 x18_2).f3))).heap[gb103]? = some (.cells #[.int .i64 a0_0, .slice (some ad105) l0_1.length c0_1] 83 (0, 0))) := ⟨by (with_reducible repeat (first | refine blk_drewN ?_ _ | refine blk_drew ?_ | refine blk_alloc ?_ _)); refine blk_far ?_ NB103_106.out _; (with_reducible repeat (first | refine blk_drewN ?_ _ | refine blk_drew ?_ | refine blk_alloc ?_ _)); refine blk_far ?_ NB103_106.out _; (with_reducible repeat (first | refine blk_drewN ?_ _ | refine blk_drew ?_ | refine blk_alloc ?_ _)); refine blk_far ?_ NB103_106.out _; (with_reducible repeat (first | refine blk_drewN ?_ _ | refine blk_drew ?_ | refine blk_alloc ?_ _)); refine blk_far ?_ NB103_106.out _; (with_reducible repeat (first | refine blk_drewN ?_ _ | refine blk_drew ?_ | refine blk_alloc ?_ _)); exact BK103.out⟩
             have n1_ : Aside0 (((((w14.setCell ⟨gb106, 0, none⟩ (.int .i64 ((rd_T178 l0_1 x18_2).f0))).setCell ⟨gb106, 1, none⟩ (.int .i64 ((rd_T178 l0_1 x18_2).f1))).setCell ⟨gb106, 2, none⟩ (.int .i64 ((rd_T178 l0_1 x18_2).f2))).setCell ⟨gb106, 3, none⟩ (.int .i64 ((rd_T178 l0_1 x18_2).f3))).heap[gb106]? = some (.cells #[.int .i64 ((rd_T178 l0_1 x18_2).f0), .int .i64 ((rd_T178 l0_1 x18_2).f1), .int .i64 ((rd_T178 l0_1 x18_2).f2), .int .i64 ((rd_T178 l0_1 x18_2).f3)] 178 (0, 0))) := ⟨by (with_reducible repeat (first | refine blk_drewN ?_ _ | refine blk_drew ?_ | refine blk_alloc ?_ _)); refine blk_put (cs := #[.int .i64 ((rd_T178 l0_1 x18_2).f0), .int .i64 ((rd_T178 l0_1 x18_2).f1), .int .i64 ((rd_T178 l0_1 x18_2).f2), .int .i64 0]) ?_ 3 _ rfl; (with_reducible repeat (first | refine blk_drewN ?_ _ | refine blk_drew ?_ | refine blk_alloc ?_ _)); refine blk_put (cs := #[.int .i64 ((rd_T178 l0_1 x18_2).f0), .int .i64 ((rd_T178 l0_1 x18_2).f1), .int .i64 0, .int .i64 0]) ?_ 2 _ rfl; (with_reducible repeat (first | refine blk_drewN ?_ _ | refine blk_drew ?_ | refine blk_alloc ?_ _)); refine blk_put (cs := #[.int .i64 ((rd_T178 l0_1 x18_2).f0), .int .i64 0, .int .i64 0, .int .i64 0]) ?_ 1 _ rfl; (with_reducible repeat (first | refine blk_drewN ?_ _ | refine blk_drew ?_ | refine blk_alloc ?_ _)); refine blk_put (cs := #[.int .i64 0, .int .i64 0, .int .i64 0, .int .i64 0]) ?_ 0 _ rfl; (with_reducible repeat (first | refine blk_drewN ?_ _ | refine blk_drew ?_ | refine blk_alloc ?_ _)); exact BK106.out⟩
             have n2_ : Aside0 (Below w.heap.size w ((((w14.setCell ⟨gb106, 0, none⟩ (.int .i64 ((rd_T178 l0_1 x18_2).f0))).setCell ⟨gb106, 1, none⟩ (.int .i64 ((rd_T178 l0_1 x18_2).f1))).setCell ⟨gb106, 2, none⟩ (.int .i64 ((rd_T178 l0_1 x18_2).f2))).setCell ⟨gb106, 3, none⟩ (.int .i64 ((rd_T178 l0_1 x18_2).f3)))) := ⟨by repeat (first | (with_reducible first | exact HB.out | apply below_alloc | apply pw_below_drewN | apply below_drew1 | refine below_set ?_ GE103.out | refine below_set ?_ GE106.out) | exact HB.out)⟩
             (try clear BK103)
             (try clear BK106)
             (try clear HB)
             generalize ((((w14.setCell ⟨gb106, 0, none⟩ (.int .i64 ((rd_T178 l0_1 x18_2).f0))).setCell ⟨gb106, 1, none⟩ (.int .i64 ((rd_T178 l0_1 x18_2).f1))).setCell ⟨gb106, 2, none⟩ (.int .i64 ((rd_T178 l0_1 x18_2).f2))).setCell ⟨gb106, 3, none⟩ (.int .i64 ((rd_T178 l0_1 x18_2).f3))) = w58 at n0_ n1_ n2_ ⊢
             have BK103 := n0_
             have BK106 := n1_
             have HB := n2_
             clear n0_ n1_ n2_
             have n0_ := Aside0.mk (blk_drew BK103.out)
             have n1_ := Aside0.mk (blk_drew BK106.out)
             have n2_ := Aside0.mk (below_drew1 HB.out)
             clear BK103
             clear BK106
             clear HB
             have BK103 := n0_
             have BK106 := n1_
             have HB := n2_
             clear n0_ n1_ n2_
             refine start_ (n := 51) (S := fun w' => w'.cell? ⟨gb106, 0, none⟩ = some (.int .i64 ((rd_T178 l0_1 x18_2).f0)) ∧ w'.cell? ⟨gb106, 1, none⟩ = some (.int .i64 ((rd_T178 l0_1 x18_2).f1)) ∧ w'.cell? ⟨gb106, 2, none⟩ = some (.int .i64 ((rd_T178 l0_1 x18_2).f2)) ∧ w'.cell? ⟨gb106, 3, none⟩ = some (.int .i64 ((rd_T178 l0_1 x18_2).f3)) ∧ w'.cell? ⟨gb103, 0, none⟩ = some (.int .i64 a0_0) ∧ w'.cell? ⟨gb103, 1, none⟩ = some (.slice (some ad105) l0_1.length c0_1)) (ds := []) #[false, false, false, false, false, false, false, false, false, false, false, false, false, false, false, false, false, false, false, false, false, false, false, false, false, false, false, false, false, false, false, false, false, false, false, false, false, false, false, false, false, false, false, false, false, false, false, false, false, false, false] (by kernel_rfl) rfl rfl ⟨(blk_cell BK106.out 0).trans rfl, (blk_cell BK106.out 1).trans rfl, (blk_cell BK106.out 2).trans rfl, (blk_cell BK106.out 3).trans rfl, (blk_cell BK103.out 0).trans rfl, (blk_cell BK103.out 1).trans rfl⟩ (fun hHeld => ?_); refine with_tabW spec_GoodClock.tab6 spec_GoodClock.bits6 (fun HT_ HW_ => ?_)
             generalize w58.drew = w59 at BK103 BK106 HB hHeld ⊢
             refine pureA 0 23 (bz 51 1) rfl rfl (any_of HT_.out (by kernel_rfl)) ?_
             refine takeA 1 24 (bz 51 3) rfl rfl (take_ofW HT_.out HW_.out (by kernel_rfl)) hHeld (by rintro w' ⟨s0, s1, s2, s3, s4, s5⟩; go_simp; with_reducible rfl) ?_
             refine one_ (i := 2) (N := some 25) (bz 51 7) rfl rfl (one_of HT_.out (by kernel_rfl)) (by decide) (fun K hK => ?_)
             refine goes_ Try.func87 (by kernel_rfl) rfl #[.int .i64 ((rd_T178 l0_1 x18_2).f0), .int .i64 0, .int .i64 999] (by rfl) rfl rfl (by (try simp only [List.map_toArray, List.map_cons, List.map_nil]); first | done | rfl | (simp only [List.length_drop, List.length_take]; rfl)) ?_
             with_reducible refine (spec_l1In.calls ((rd_T178 l0_1 x18_2).f0) 0 999 true _ A17.out).mono ?_
             rintro e w' ⟨rfl, ⟨nd, rfl⟩⟩
             refine ⟨_, rfl, ?_⟩
             refine hK.out _ _ ⟨(blk_cell BK106.out 0).trans rfl, (blk_cell BK106.out 1).trans rfl, (blk_cell BK106.out 2).trans rfl, (blk_cell BK106.out 3).trans rfl, (blk_cell BK103.out 0).trans rfl, (blk_cell BK103.out 1).trans rfl⟩ (fun hHeld => ?_)
             clear hK K
             refine norm_ (a' := ?_) ?_ ?_
             rotate_left
             ·show Act.put _ (some 25) _ = _
              simp only [Act.put, List.setIfInBounds_toArray, List.set_cons_zero, List.set_cons_succ, i64_w, i32_w]
              rfl
             refine pureA 3 26 (bz 51 15) rfl rfl (any_of HT_.out (by kernel_rfl)) ?_
             refine pureA 4 27 (bz 51 31) rfl rfl (any_of HT_.out (by kernel_rfl)) ?_
             refine pureA 5 28 (bz 51 63) rfl rfl (any_of HT_.out (by kernel_rfl)) ?_
             refine pureA 6 29 (bz 51 127) rfl rfl (any_of HT_.out (by kernel_rfl)) ?_
             refine pureA 7 30 (bz 51 255) rfl rfl (any_of HT_.out (by kernel_rfl)) ?_
             refine pureU 8 31 (bz 51 511) rfl rfl (any_of HT_.out (by kernel_rfl)) ?_
             refine pureU 9 32 (bz 51 1023) rfl rfl (any_of HT_.out (by kernel_rfl)) ?_
             refine pureU 10 33 (bz 51 2047) rfl rfl (any_of HT_.out (by kernel_rfl)) ?_
             refine pureU 11 34 (bz 51 4095) rfl rfl (any_of HT_.out (by kernel_rfl)) ?_
             refine pureU 12 35 (bz 51 8191) rfl rfl (any_of HT_.out (by kernel_rfl)) ?_
             refine pureU 13 36 (bz 51 16383) rfl rfl (any_of HT_.out (by kernel_rfl)) ?_
             refine pureU 14 37 (bz 51 32767) rfl rfl (any_of HT_.out (by kernel_rfl)) ?_
             refine pureU 15 38 (bz 51 65535) rfl rfl (any_of HT_.out (by kernel_rfl)) ?_
             refine pureU 16 39 (bz 51 131071) rfl rfl (any_of HT_.out (by kernel_rfl)) ?_
             refine pureU 17 40 (bz 51 262143) rfl rfl (any_of HT_.out (by kernel_rfl)) ?_
             refine pureA 18 41 (bz 51 524287) rfl rfl (any_of HT_.out (by kernel_rfl)) ?_
             refine pureA 19 42 (bz 51 1048575) rfl rfl (any_of HT_.out (by kernel_rfl)) ?_
             refine pureA 20 43 (bz 51 2097151) rfl rfl (any_of HT_.out (by kernel_rfl)) ?_
             refine pureA 21 44 (bz 51 4194303) rfl rfl (any_of HT_.out (by kernel_rfl)) ?_
             refine pureA 23 46 (bz 51 12582911) rfl rfl (any_of HT_.out (by kernel_rfl)) ?_
             refine takeA 22 45 (bz 51 16777215) rfl rfl (take_ofW HT_.out HW_.out (by kernel_rfl)) hHeld (by rintro w' ⟨s0, s1, s2, s3, s4, s5⟩; go_simp; with_reducible rfl) ?_
             refine takeA 24 47 (bz 51 33554431) rfl rfl (take_ofW HT_.out HW_.out (by kernel_rfl)) hHeld (by rintro w' ⟨s0, s1, s2, s3, s4, s5⟩; go_simp; with_reducible rfl) ?_
             refine pureA 25 48 (bz 51 67108863) rfl rfl (any_of HT_.out (by kernel_rfl)) ?_
             refine one_ (i := 26) (N := some 49) (bz 51 134217727) rfl rfl (one_of HT_.out (by kernel_rfl)) (by decide) (fun K hK => ?_)
             refine goes_ Try.func87 (by kernel_rfl) rfl #[.int .i64 ((rd_T178 l0_1 x18_2).f1), .int .i64 (wrap64 (a0_0 + 1)), .int .i64 200000] (by rfl) rfl rfl (by (try simp only [List.map_toArray, List.map_cons, List.map_nil]); first | done | rfl | (simp only [List.length_drop, List.length_take]; rfl)) ?_
             with_reducible refine (spec_l1In.calls ((rd_T178 l0_1 x18_2).f1) (wrap64 (a0_0 + 1)) 200000 false _ A43.out).mono ?_
             rintro e w' ⟨rfl, ⟨nd, rfl⟩⟩
             refine ⟨_, rfl, ?_⟩
             refine hK.out _ _ ⟨(blk_cell BK106.out 0).trans rfl, (blk_cell BK106.out 1).trans rfl, (blk_cell BK106.out 2).trans rfl, (blk_cell BK106.out 3).trans rfl, (blk_cell BK103.out 0).trans rfl, (blk_cell BK103.out 1).trans rfl⟩ (fun hHeld => ?_)
             clear hK K
             refine norm_ (a' := ?_) ?_ ?_
             rotate_left
             ·show Act.put _ (some 49) _ = _
              simp only [Act.put, List.setIfInBounds_toArray, List.set_cons_zero, List.set_cons_succ, i64_w, i32_w]
              rfl
             refine pureA 27 50 (bz 51 268435455) rfl rfl (any_of HT_.out (by kernel_rfl)) ?_
             refine pureA 28 51 (bz 51 536870911) rfl rfl (any_of HT_.out (by kernel_rfl)) ?_
             refine pureA 29 52 (bz 51 1073741823) rfl rfl (any_of HT_.out (by kernel_rfl)) ?_
             refine pureU 30 53 (bz 51 2147483647) rfl rfl (any_of HT_.out (by kernel_rfl)) ?_
             refine pureU 31 54 (bz 51 4294967295) rfl rfl (any_of HT_.out (by kernel_rfl)) ?_
             refine pureU 32 55 (bz 51 8589934591) rfl rfl (any_of HT_.out (by kernel_rfl)) ?_
             refine pureU 33 56 (bz 51 17179869183) rfl rfl (any_of HT_.out (by kernel_rfl)) ?_
             refine pureA 34 57 (bz 51 34359738367) rfl rfl (any_of HT_.out (by kernel_rfl)) ?_
             refine pureA 35 58 (bz 51 68719476735) rfl rfl (any_of HT_.out (by kernel_rfl)) ?_
             refine pureU 36 59 (bz 51 137438953471) rfl rfl (any_of HT_.out (by kernel_rfl)) ?_
             refine pureU 37 60 (bz 51 274877906943) rfl rfl (any_of HT_.out (by kernel_rfl)) ?_
             refine pureU 38 61 (bz 51 549755813887) rfl rfl (any_of HT_.out (by kernel_rfl)) ?_
             refine pureU 39 62 (bz 51 1099511627775) rfl rfl (any_of HT_.out (by kernel_rfl)) ?_
             refine pureA 40 63 (bz 51 2199023255551) rfl rfl (any_of HT_.out (by kernel_rfl)) ?_
             refine pureA 41 64 (bz 51 4398046511103) rfl rfl (any_of HT_.out (by kernel_rfl)) ?_
             refine pureU 42 65 (bz 51 8796093022207) rfl rfl (any_of HT_.out (by kernel_rfl)) ?_
             refine pureU 43 66 (bz 51 17592186044415) rfl rfl (any_of HT_.out (by kernel_rfl)) ?_
             refine pureU 44 67 (bz 51 35184372088831) rfl rfl (any_of HT_.out (by kernel_rfl)) ?_
             refine pureU 45 68 (bz 51 70368744177663) rfl rfl (any_of HT_.out (by kernel_rfl)) ?_
             refine pureU 46 69 (bz 51 140737488355327) rfl rfl (any_of HT_.out (by kernel_rfl)) ?_
             refine pureU 47 70 (bz 51 281474976710655) rfl rfl (any_of HT_.out (by kernel_rfl)) ?_
             refine pureU 48 71 (bz 51 562949953421311) rfl rfl (any_of HT_.out (by kernel_rfl)) ?_
             refine pureU 49 72 (bz 51 1125899906842623) rfl rfl (any_of HT_.out (by kernel_rfl)) ?_
             refine pureA 50 73 (bz 51 2251799813685247) rfl rfl (any_of HT_.out (by kernel_rfl)) ?_
             refine done_ (done_of HT_.out (by kernel_rfl)) ?_
             try go_wp2
             go_meet
             case rel => exact ⟨_, (true), (by first | rfl | (simp; done) | (simp [*]; done) | exact not_isEmpty _ | exact (not_isEmpty _).symm | exact is_empty _ | exact (is_empty _).symm), H', ⟨by have := HJ1.out; have := HK2.out; first | omega | exact Nat.le_refl _⟩, ⟨by (with_reducible repeat (first | refine blk_drewN ?_ _ | refine blk_drew ?_ | refine blk_alloc ?_ _)); exact BK103.out⟩, ⟨by (with_reducible repeat (first | refine blk_drewN ?_ _ | refine blk_drew ?_ | refine blk_alloc ?_ _)); exact BK106.out⟩, ⟨by repeat (first | (with_reducible first | exact HB.out | apply below_alloc | apply pw_below_drewN | apply below_drew1 | refine below_set ?_ GE103.out | refine below_set ?_ GE106.out) | exact HB.out)⟩⟩
          ·replace c18 := Bool.eq_false_iff.mpr c18
           subst c18
           have H1 : (spec_GoodClock.j2 k2 l0_1 (l0_1.length : Int) x18_2 true a0_0 l0_1) = some r := by rw [if_neg (show ¬ (false = true) by decide)] at H; exact H
           clear H
           have H := H1
           clear H1
           have H' := Aside0.mk H
           clear H
           try go_wp2
           have n0_ : Aside0 (((((w14.setCell ⟨gb106, 0, none⟩ (.int .i64 ((rd_T178 l0_1 x18_2).f0))).setCell ⟨gb106, 1, none⟩ (.int .i64 ((rd_T178 l0_1 x18_2).f1))).setCell ⟨gb106, 2, none⟩ (.int .i64 ((rd_T178 l0_1 x18_2).f2))).setCell ⟨gb106, 3, none⟩ (.int .i64 ((rd_T178 l0_1 x18_2).f3))).heap[gb103]? = some (.cells #[.int .i64 a0_0, .slice (some ad105) l0_1.length c0_1] 83 (0, 0))) := ⟨by (with_reducible repeat (first | refine blk_drewN ?_ _ | refine blk_drew ?_ | refine blk_alloc ?_ _)); refine blk_far ?_ NB103_106.out _; (with_reducible repeat (first | refine blk_drewN ?_ _ | refine blk_drew ?_ | refine blk_alloc ?_ _)); refine blk_far ?_ NB103_106.out _; (with_reducible repeat (first | refine blk_drewN ?_ _ | refine blk_drew ?_ | refine blk_alloc ?_ _)); refine blk_far ?_ NB103_106.out _; (with_reducible repeat (first | refine blk_drewN ?_ _ | refine blk_drew ?_ | refine blk_alloc ?_ _)); refine blk_far ?_ NB103_106.out _; (with_reducible repeat (first | refine blk_drewN ?_ _ | refine blk_drew ?_ | refine blk_alloc ?_ _)); exact BK103.out⟩
           have n1_ : Aside0 (((((w14.setCell ⟨gb106, 0, none⟩ (.int .i64 ((rd_T178 l0_1 x18_2).f0))).setCell ⟨gb106, 1, none⟩ (.int .i64 ((rd_T178 l0_1 x18_2).f1))).setCell ⟨gb106, 2, none⟩ (.int .i64 ((rd_T178 l0_1 x18_2).f2))).setCell ⟨gb106, 3, none⟩ (.int .i64 ((rd_T178 l0_1 x18_2).f3))).heap[gb106]? = some (.cells #[.int .i64 ((rd_T178 l0_1 x18_2).f0), .int .i64 ((rd_T178 l0_1 x18_2).f1), .int .i64 ((rd_T178 l0_1 x18_2).f2), .int .i64 ((rd_T178 l0_1 x18_2).f3)] 178 (0, 0))) := ⟨by (with_reducible repeat (first | refine blk_drewN ?_ _ | refine blk_drew ?_ | refine blk_alloc ?_ _)); refine blk_put (cs := #[.int .i64 ((rd_T178 l0_1 x18_2).f0), .int .i64 ((rd_T178 l0_1 x18_2).f1), .int .i64 ((rd_T178 l0_1 x18_2).f2), .int .i64 0]) ?_ 3 _ rfl; (with_reducible repeat (first | refine blk_drewN ?_ _ | refine blk_drew ?_ | refine blk_alloc ?_ _)); refine blk_put (cs := #[.int .i64 ((rd_T178 l0_1 x18_2).f0), .int .i64 ((rd_T178 l0_1 x18_2).f1), .int .i64 0, .int .i64 0]) ?_ 2 _ rfl; (with_reducible repeat (first | refine blk_drewN ?_ _ | refine blk_drew ?_ | refine blk_alloc ?_ _)); refine blk_put (cs := #[.int .i64 ((rd_T178 l0_1 x18_2).f0), .int .i64 0, .int .i64 0, .int .i64 0]) ?_ 1 _ rfl; (with_reducible repeat (first | refine blk_drewN ?_ _ | refine blk_drew ?_ | refine blk_alloc ?_ _)); refine blk_put (cs := #[.int .i64 0, .int .i64 0, .int .i64 0, .int .i64 0]) ?_ 0 _ rfl; (with_reducible repeat (first | refine blk_drewN ?_ _ | refine blk_drew ?_ | refine blk_alloc ?_ _)); exact BK106.out⟩
           have n2_ : Aside0 (Below w.heap.size w ((((w14.setCell ⟨gb106, 0, none⟩ (.int .i64 ((rd_T178 l0_1 x18_2).f0))).setCell ⟨gb106, 1, none⟩ (.int .i64 ((rd_T178 l0_1 x18_2).f1))).setCell ⟨gb106, 2, none⟩ (.int .i64 ((rd_T178 l0_1 x18_2).f2))).setCell ⟨gb106, 3, none⟩ (.int .i64 ((rd_T178 l0_1 x18_2).f3)))) := ⟨by repeat (first | (with_reducible first | exact HB.out | apply below_alloc | apply pw_below_drewN | apply below_drew1 | refine below_set ?_ GE103.out | refine below_set ?_ GE106.out) | exact HB.out)⟩
           (try clear BK103)
           (try clear BK106)
           (try clear HB)
           generalize ((((w14.setCell ⟨gb106, 0, none⟩ (.int .i64 ((rd_T178 l0_1 x18_2).f0))).setCell ⟨gb106, 1, none⟩ (.int .i64 ((rd_T178 l0_1 x18_2).f1))).setCell ⟨gb106, 2, none⟩ (.int .i64 ((rd_T178 l0_1 x18_2).f2))).setCell ⟨gb106, 3, none⟩ (.int .i64 ((rd_T178 l0_1 x18_2).f3))) = w60 at n0_ n1_ n2_ ⊢
           have BK103 := n0_
           have BK106 := n1_
           have HB := n2_
           clear n0_ n1_ n2_
           have n0_ := Aside0.mk (blk_drew BK103.out)
           have n1_ := Aside0.mk (blk_drew BK106.out)
           have n2_ := Aside0.mk (below_drew1 HB.out)
           clear BK103
           clear BK106
           clear HB
           have BK103 := n0_
           have BK106 := n1_
           have HB := n2_
           clear n0_ n1_ n2_
           refine start_ (n := 51) (S := fun w' => w'.cell? ⟨gb106, 0, none⟩ = some (.int .i64 ((rd_T178 l0_1 x18_2).f0)) ∧ w'.cell? ⟨gb106, 1, none⟩ = some (.int .i64 ((rd_T178 l0_1 x18_2).f1)) ∧ w'.cell? ⟨gb106, 2, none⟩ = some (.int .i64 ((rd_T178 l0_1 x18_2).f2)) ∧ w'.cell? ⟨gb106, 3, none⟩ = some (.int .i64 ((rd_T178 l0_1 x18_2).f3))) (ds := []) #[false, false, false, false, false, false, false, false, false, false, false, false, false, false, false, false, false, false, false, false, false, false, false, false, false, false, false, false, false, false, false, false, false, false, false, false, false, false, false, false, false, false, false, false, false, false, false, false, false, false, false] (by kernel_rfl) rfl rfl ⟨(blk_cell BK106.out 0).trans rfl, (blk_cell BK106.out 1).trans rfl, (blk_cell BK106.out 2).trans rfl, (blk_cell BK106.out 3).trans rfl⟩ (fun hHeld => ?_); refine with_tabW spec_GoodClock.tab6 spec_GoodClock.bits6 (fun HT_ HW_ => ?_)
           generalize w60.drew = w61 at BK103 BK106 HB hHeld ⊢
           refine pureA 0 23 (bz 51 1) rfl rfl (any_of HT_.out (by kernel_rfl)) ?_
           refine takeA 1 24 (bz 51 3) rfl rfl (take_ofW HT_.out HW_.out (by kernel_rfl)) hHeld (by rintro w' ⟨s0, s1, s2, s3⟩; go_simp; with_reducible rfl) ?_
           refine one_ (i := 2) (N := some 25) (bz 51 7) rfl rfl (one_of HT_.out (by kernel_rfl)) (by decide) (fun K hK => ?_)
           refine goes_ Try.func87 (by kernel_rfl) rfl #[.int .i64 ((rd_T178 l0_1 x18_2).f0), .int .i64 0, .int .i64 999] (by rfl) rfl rfl (by (try simp only [List.map_toArray, List.map_cons, List.map_nil]); first | done | rfl | (simp only [List.length_drop, List.length_take]; rfl)) ?_
           with_reducible refine (spec_l1In.calls ((rd_T178 l0_1 x18_2).f0) 0 999 false _ A17.out).mono ?_
           rintro e w' ⟨rfl, ⟨nd, rfl⟩⟩
           refine ⟨_, rfl, ?_⟩
           refine hK.out _ _ ⟨(blk_cell BK106.out 0).trans rfl, (blk_cell BK106.out 1).trans rfl, (blk_cell BK106.out 2).trans rfl, (blk_cell BK106.out 3).trans rfl⟩ (fun hHeld => ?_)
           clear hK K
           refine norm_ (a' := ?_) ?_ ?_
           rotate_left
           ·show Act.put _ (some 25) _ = _
            simp only [Act.put, List.setIfInBounds_toArray, List.set_cons_zero, List.set_cons_succ, i64_w, i32_w]
            rfl
           refine pureA 3 26 (bz 51 15) rfl rfl (any_of HT_.out (by kernel_rfl)) ?_
           refine pureA 4 27 (bz 51 31) rfl rfl (any_of HT_.out (by kernel_rfl)) ?_
           refine pureU 5 28 (bz 51 63) rfl rfl (any_of HT_.out (by kernel_rfl)) ?_
           refine pureU 6 29 (bz 51 127) rfl rfl (any_of HT_.out (by kernel_rfl)) ?_
           refine pureU 7 30 (bz 51 255) rfl rfl (any_of HT_.out (by kernel_rfl)) ?_
           refine pureU 8 31 (bz 51 511) rfl rfl (any_of HT_.out (by kernel_rfl)) ?_
           refine pureU 9 32 (bz 51 1023) rfl rfl (any_of HT_.out (by kernel_rfl)) ?_
           refine pureU 10 33 (bz 51 2047) rfl rfl (any_of HT_.out (by kernel_rfl)) ?_
           refine pureU 11 34 (bz 51 4095) rfl rfl (any_of HT_.out (by kernel_rfl)) ?_
           refine pureU 12 35 (bz 51 8191) rfl rfl (any_of HT_.out (by kernel_rfl)) ?_
           refine pureU 13 36 (bz 51 16383) rfl rfl (any_of HT_.out (by kernel_rfl)) ?_
           refine pureU 14 37 (bz 51 32767) rfl rfl (any_of HT_.out (by kernel_rfl)) ?_
           refine pureU 15 38 (bz 51 65535) rfl rfl (any_of HT_.out (by kernel_rfl)) ?_
           refine pureU 16 39 (bz 51 131071) rfl rfl (any_of HT_.out (by kernel_rfl)) ?_
           refine pureU 17 40 (bz 51 262143) rfl rfl (any_of HT_.out (by kernel_rfl)) ?_
           refine pureU 18 41 (bz 51 524287) rfl rfl (any_of HT_.out (by kernel_rfl)) ?_
           refine pureA 19 42 (bz 51 1048575) rfl rfl (any_of HT_.out (by kernel_rfl)) ?_
           refine pureA 20 43 (bz 51 2097151) rfl rfl (any_of HT_.out (by kernel_rfl)) ?_
           refine pureU 21 44 (bz 51 4194303) rfl rfl (any_of HT_.out (by kernel_rfl)) ?_
           refine pureU 22 45 (bz 51 8388607) rfl rfl (any_of HT_.out (by kernel_rfl)) ?_
           refine pureU 23 46 (bz 51 16777215) rfl rfl (any_of HT_.out (by kernel_rfl)) ?_
           refine pureU 24 47 (bz 51 33554431) rfl rfl (any_of HT_.out (by kernel_rfl)) ?_
           refine pureU 25 48 (bz 51 67108863) rfl rfl (any_of HT_.out (by kernel_rfl)) ?_
           refine pureU 26 49 (bz 51 134217727) rfl rfl (any_of HT_.out (by kernel_rfl)) ?_
           refine pureU 27 50 (bz 51 268435455) rfl rfl (any_of HT_.out (by kernel_rfl)) ?_
           refine pureA 28 51 (bz 51 536870911) rfl rfl (any_of HT_.out (by kernel_rfl)) ?_
           refine pureA 29 52 (bz 51 1073741823) rfl rfl (any_of HT_.out (by kernel_rfl)) ?_
           refine pureU 30 53 (bz 51 2147483647) rfl rfl (any_of HT_.out (by kernel_rfl)) ?_
           refine pureU 31 54 (bz 51 4294967295) rfl rfl (any_of HT_.out (by kernel_rfl)) ?_
           refine pureU 32 55 (bz 51 8589934591) rfl rfl (any_of HT_.out (by kernel_rfl)) ?_
           refine pureU 33 56 (bz 51 17179869183) rfl rfl (any_of HT_.out (by kernel_rfl)) ?_
           refine pureA 34 57 (bz 51 34359738367) rfl rfl (any_of HT_.out (by kernel_rfl)) ?_
           refine pureA 35 58 (bz 51 68719476735) rfl rfl (any_of HT_.out (by kernel_rfl)) ?_
           refine pureU 36 59 (bz 51 137438953471) rfl rfl (any_of HT_.out (by kernel_rfl)) ?_
           refine pureU 37 60 (bz 51 274877906943) rfl rfl (any_of HT_.out (by kernel_rfl)) ?_
           refine pureU 38 61 (bz 51 549755813887) rfl rfl (any_of HT_.out (by kernel_rfl)) ?_
           refine pureU 39 62 (bz 51 1099511627775) rfl rfl (any_of HT_.out (by kernel_rfl)) ?_
           refine pureA 40 63 (bz 51 2199023255551) rfl rfl (any_of HT_.out (by kernel_rfl)) ?_
           refine pureA 41 64 (bz 51 4398046511103) rfl rfl (any_of HT_.out (by kernel_rfl)) ?_
           refine pureU 42 65 (bz 51 8796093022207) rfl rfl (any_of HT_.out (by kernel_rfl)) ?_
           refine pureU 43 66 (bz 51 17592186044415) rfl rfl (any_of HT_.out (by kernel_rfl)) ?_
           refine pureU 44 67 (bz 51 35184372088831) rfl rfl (any_of HT_.out (by kernel_rfl)) ?_
           refine pureU 45 68 (bz 51 70368744177663) rfl rfl (any_of HT_.out (by kernel_rfl)) ?_
           refine pureU 46 69 (bz 51 140737488355327) rfl rfl (any_of HT_.out (by kernel_rfl)) ?_
           refine pureU 47 70 (bz 51 281474976710655) rfl rfl (any_of HT_.out (by kernel_rfl)) ?_
           refine pureU 48 71 (bz 51 562949953421311) rfl rfl (any_of HT_.out (by kernel_rfl)) ?_
           refine pureU 49 72 (bz 51 1125899906842623) rfl rfl (any_of HT_.out (by kernel_rfl)) ?_
           refine pureA 50 73 (bz 51 2251799813685247) rfl rfl (any_of HT_.out (by kernel_rfl)) ?_
           refine done_ (done_of HT_.out (by kernel_rfl)) ?_
           try go_wp2
           go_meet
           case rel => exact ⟨_, (true), (by first | rfl | (simp; done) | (simp [*]; done) | exact not_isEmpty _ | exact (not_isEmpty _).symm | exact is_empty _ | exact (is_empty _).symm), H', ⟨by have := HJ1.out; have := HK2.out; first | omega | exact Nat.le_refl _⟩, ⟨by (with_reducible repeat (first | refine blk_drewN ?_ _ | refine blk_drew ?_ | refine blk_alloc ?_ _)); exact BK103.out⟩, ⟨by (with_reducible repeat (first | refine blk_drewN ?_ _ | refine blk_drew ?_ | refine blk_alloc ?_ _)); exact BK106.out⟩, ⟨by repeat (first | (with_reducible first | exact HB.out | apply below_alloc | apply pw_below_drewN | apply below_drew1 | refine below_set ?_ GE103.out | refine below_set ?_ GE106.out) | exact HB.out)⟩⟩
         case rest =>
          clear HC13
          try clear c1
          try clear p2
          try clear p6
          try clear c8
          try clear c18
          obtain ⟨kq, x73_12, rfl, HA, HJ12, BK103, BK106, HB⟩ := hcut
          cases kq with
          | zero => exact absurd HA.out (by simp [spec_GoodClock.j2])
          | succ kj12 =>
           have H := HA.out
           clear HA
           simp only [spec_GoodClock.j2] at H
           by_cases c62 : x73_12 = true
           ·subst c62
            have H1 : (some false) = some r := by rw [if_pos rfl] at H; exact H
            clear H
            have H := H1
            clear H1
            obtain rfl := Option.some.inj H
            go_wp2
            go_ret
            exact ⟨by first | rfl | (simp [errW_none, errW_some] <;> rfl) | (simp [*, errW_none, errW_some] <;> rfl), by repeat (first | (with_reducible first | exact HB.out | apply below_alloc | apply pw_below_drewN | apply below_drew1 | refine below_set ?_ GE103.out | refine below_set ?_ GE106.out) | exact HB.out)⟩
           ·replace c62 := Bool.eq_false_iff.mpr c62
            subst c62
            have H1 : (spec_GoodClock.l0 kj12 l0_1 (l0_1.length : Int) (wrap64 (x18_2 + 1)) a0_0 l0_1) = some r := by rw [if_neg (show ¬ (false = true) by decide)] at H; exact H
            clear H
            have H := H1
            clear H1
            have H' := Aside0.mk H
            clear H
            go_wp2
            go_roundg kj12
            case measure => have := HJ1.out; have := HK2.out; have := HJ12.out; omega
            case rel => exact ⟨(wrap64 (x18_2 + 1)), (by first | rfl | (simp; done) | (simp [*]; done) | exact not_isEmpty _ | exact (not_isEmpty _).symm | exact is_empty _ | exact (is_empty _).symm), H', ⟨by have := HJ1.out; have := HK2.out; have := HJ12.out; omega⟩, ⟨by (with_reducible repeat (first | refine blk_drewN ?_ _ | refine blk_drew ?_ | refine blk_alloc ?_ _)); exact BK103.out⟩, ⟨by repeat (first | (with_reducible first | exact HB.out | apply below_alloc | apply pw_below_drewN | apply below_drew1 | refine below_set ?_ GE103.out | refine below_set ?_ GE106.out) | exact HB.out)⟩⟩
        ·rw [if_neg c12] at H
         exact absurd H (by simp)
       ·rw [if_neg c11] at H
        exact absurd H (by simp)
      ·rw [if_neg c10] at H
       have c10b0 : decide (x18_2 < (l0_1.length : Int)) = false := decide_eq_false c10
       clear c10
       obtain rfl := Option.some.inj H
       go_wp2
       go_ret
       exact ⟨by first | rfl | (simp [errW_none, errW_some] <;> rfl) | (simp [*, errW_none, errW_some] <;> rfl), by repeat (first | (with_reducible first | exact HB.out | apply below_alloc | apply pw_below_drewN | apply below_drew1 | refine below_set ?_ GE103.out) | exact HB.out)⟩
end Go.Proofs.Ytligkajfedkldaa.PFnExactDropTimer
