/- Texts of the row of the law FnExactDropTimer, laid together. -/
import Derived.Test.YtligkajfedkldaaZFnExactDropTimer1
import Derived.Test.YtligkajfedkldaaZFnExactDropTimer2
import Derived.Test.YtligkajfedkldaaZFnExactDropTimer3
import Derived.Test.YtligkajfedkldaaZFnExactDropTimer0
import Derived.SizedLaws
import Derived.ChangeArms
import Derived.OpenShut
import Derived.WideShapes
import Derived.WalkKit
import Derived.KernelRfl
import Derived.Laws.BitsLemmas
namespace Go.Proofs.Ytligkajfedkldaa.PFnExactDropTimer
open Go.RowKit Go.Proofs.YtligkajfedkldaaW.PrintWords Go.Proofs.YtligkajfedkldaaW.PrintLast Go.Proofs.YtligkajfedkldaaW.PrintMore
attribute [local go_sem] max2_int min2_int max_two min_two max_three min_three max_four min_four   -- for this text's walks alone
set_option linter.unusedVariables false
set_option linter.unusedSimpArgs false
mutual
def laws_FnExactDropTimer.j0 : Nat → Int → Bool → Bool → Bool → Int → List (S254) → Int → List (S178) → Int → List (S178) → Int → List (S178) → Option (Bool)
 | 0, _, _, _, _, _, _, _, _, _, _, _, _ => none
 | k + 1, x1, x7, x10, x44, x196000, x196001, x207000, x207001, x212000, x212001, x218000, x218001 => if x44 = true then (some false) else ((laws_toClock.f k x196000 x196001).bind fun bt219 => ((laws_eqClock.f k x212000 x212001 bt219.1 bt219.2).bind fun t223 => (if t223 = true then ((laws_markClock.f k x212000 x212001 1).bind fun bt224 => (if bt224.1 < 0 then (laws_FnExactDropTimer.j1 k x1 x7 true x196000 x196001 x207000 x207001 x218000 x218001) else ((laws_eqClock.f k x218000 x218001 x207000 x207001).bind fun t226 => (if t226 = true then (laws_FnExactDropTimer.j1 k x1 x7 (x10 != x7) x196000 x196001 x207000 x207001 x218000 x218001) else (laws_FnExactDropTimer.j1 k x1 x7 true x196000 x196001 x207000 x207001 x218000 x218001))))) else (some false))))
def laws_FnExactDropTimer.j1 : Nat → Int → Bool → Bool → Int → List (S254) → Int → List (S178) → Int → List (S178) → Option (Bool)
 | 0, _, _, _, _, _, _, _, _, _ => none
 | k + 1, x1, x7, x65, x196000, x196001, x207000, x207001, x218000, x218001 => if x65 = true then (some false) else ((laws_markClock.f k x218000 x218001 1).bind fun bt227 => ((laws_heldClock.f k x218000 bt227.2 1).bind fun t229 => (if t229 < 0 then (some false) else (if t229 = bt227.1 then ((laws_toClock.f k x196000 x196001).bind fun bt230 => ((impl_DropTimer.f k bt230.1 bt230.2 x1).bind fun bt234 => ((laws_eqClock.f k bt234.1 bt234.2.1 x207000 x207001).bind fun t240 => (if t240 = true then (laws_FnExactDropTimer.j2 k bt227.1 (bt234.2.2 != x7) x218000 bt227.2) else (laws_FnExactDropTimer.j2 k bt227.1 true x218000 bt227.2))))) else (some false)))))
def laws_FnExactDropTimer.j2 : Nat → Int → Bool → Int → List (S178) → Option (Bool)
 | 0, _, _, _, _ => none
 | k + 1, x12, x92, x218000, x218001 => if x92 = true then (some false) else ((laws_heldClock.f k x218000 x218001 1).bind fun t241 => (if t241 < 0 then (some false) else (if t241 = x12 then (some true) else (some false))))
end
def laws_FnExactDropTimer.f (k : Nat) (a0_0 : Int) (l0_1 : List (S254)) (a1 : Int) : Option (Bool) := (laws_szClock.f a0_0 l0_1 1048576).bind fun t196 => (if t196 < 0 then (some true) else ((laws_toClock.f k a0_0 l0_1).bind fun bt197 => ((spec_DropTimer.f k bt197.1 bt197.2 a1).bind fun bt201 => ((laws_toClock.f k a0_0 l0_1).bind fun bt207 => ((impl_DropTimer.f k bt207.1 bt207.2 a1).bind fun bt212 => ((laws_eqClock.f k bt212.1 bt212.2.1 bt201.1 bt201.2.1).bind fun t218 => (if t218 = true then (laws_FnExactDropTimer.j0 k a1 bt201.2.2 bt212.2.2 (bt212.2.2 != bt201.2.2) a0_0 l0_1 bt201.1 bt201.2.1 bt207.1 bt207.2 bt212.1 bt212.2.1) else (laws_FnExactDropTimer.j0 k a1 bt201.2.2 bt212.2.2 true a0_0 l0_1 bt201.1 bt201.2.1 bt207.1 bt207.2 bt212.1 bt212.2.1))))))))
theorem laws_FnExactDropTimer.mono_l : ∀ k, (∀ y0 y1 y2 y3 y4 y5 y6 y7 y8 y9 y10 y11, LeO (laws_FnExactDropTimer.j0 k y0 y1 y2 y3 y4 y5 y6 y7 y8 y9 y10 y11) (laws_FnExactDropTimer.j0 (k + 1) y0 y1 y2 y3 y4 y5 y6 y7 y8 y9 y10 y11)) ∧ (∀ y0 y1 y2 y3 y4 y5 y6 y7 y8, LeO (laws_FnExactDropTimer.j1 k y0 y1 y2 y3 y4 y5 y6 y7 y8) (laws_FnExactDropTimer.j1 (k + 1) y0 y1 y2 y3 y4 y5 y6 y7 y8)) ∧ (∀ y0 y1 y2 y3, LeO (laws_FnExactDropTimer.j2 k y0 y1 y2 y3) (laws_FnExactDropTimer.j2 (k + 1) y0 y1 y2 y3))
 | 0 => ⟨fun _ _ _ _ _ _ _ _ _ _ _ _ r h => by simp [laws_FnExactDropTimer.j0] at h, fun _ _ _ _ _ _ _ _ _ r h => by simp [laws_FnExactDropTimer.j1] at h, fun _ _ _ _ r h => by simp [laws_FnExactDropTimer.j2] at h⟩
 | k + 1 => by
  obtain ⟨ih0, ih1, ih2⟩ := laws_FnExactDropTimer.mono_l k
  refine ⟨?_, ?_, ?_⟩
  ·intro y0 y1 y2 y3 y4 y5 y6 y7 y8 y9 y10 y11
   unfold laws_FnExactDropTimer.j0
   repeat' first
   | (with_reducible exact ih0 _ _ _ _ _ _ _ _ _ _ _ _)
   | (with_reducible exact ih1 _ _ _ _ _ _ _ _ _)
   | (with_reducible exact ih2 _ _ _ _)
   | (with_reducible exact impl_DropTimer.mono _ _ _ _)
   | (with_reducible exact laws_eqClock.mono _ _ _ _ _)
   | (with_reducible exact laws_heldClock.mono _ _ _ _)
   | (with_reducible exact laws_markClock.mono _ _ _ _)
   | (with_reducible exact laws_toClock.mono _ _ _)
   | (with_reducible exact spec_DropTimer.mono _ _ _ _)
   | (with_reducible exact LeO.refl _)
   | (with_reducible exact LeO.none _)
   | (with_reducible refine LeO.ite ?_ ?_)
   | (with_reducible refine LeO.bind ?_ (fun _ => ?_))
   | exact ih0 _ _ _ _ _ _ _ _ _ _ _ _
   | exact ih1 _ _ _ _ _ _ _ _ _
   | exact ih2 _ _ _ _
   | exact impl_DropTimer.mono _ _ _ _
   | exact laws_eqClock.mono _ _ _ _ _
   | exact laws_heldClock.mono _ _ _ _
   | exact laws_markClock.mono _ _ _ _
   | exact laws_toClock.mono _ _ _
   | exact spec_DropTimer.mono _ _ _ _
   | exact LeO.none _
   | refine LeO.ite ?_ ?_
   | refine LeO.bind ?_ (fun _ => ?_)
  ·intro y0 y1 y2 y3 y4 y5 y6 y7 y8
   unfold laws_FnExactDropTimer.j1
   repeat' first
   | (with_reducible exact ih0 _ _ _ _ _ _ _ _ _ _ _ _)
   | (with_reducible exact ih1 _ _ _ _ _ _ _ _ _)
   | (with_reducible exact ih2 _ _ _ _)
   | (with_reducible exact impl_DropTimer.mono _ _ _ _)
   | (with_reducible exact laws_eqClock.mono _ _ _ _ _)
   | (with_reducible exact laws_heldClock.mono _ _ _ _)
   | (with_reducible exact laws_markClock.mono _ _ _ _)
   | (with_reducible exact laws_toClock.mono _ _ _)
   | (with_reducible exact spec_DropTimer.mono _ _ _ _)
   | (with_reducible exact LeO.refl _)
   | (with_reducible exact LeO.none _)
   | (with_reducible refine LeO.ite ?_ ?_)
   | (with_reducible refine LeO.bind ?_ (fun _ => ?_))
   | exact ih0 _ _ _ _ _ _ _ _ _ _ _ _
   | exact ih1 _ _ _ _ _ _ _ _ _
   | exact ih2 _ _ _ _
   | exact impl_DropTimer.mono _ _ _ _
   | exact laws_eqClock.mono _ _ _ _ _
   | exact laws_heldClock.mono _ _ _ _
   | exact laws_markClock.mono _ _ _ _
   | exact laws_toClock.mono _ _ _
   | exact spec_DropTimer.mono _ _ _ _
   | exact LeO.none _
   | refine LeO.ite ?_ ?_
   | refine LeO.bind ?_ (fun _ => ?_)
  ·intro y0 y1 y2 y3
   unfold laws_FnExactDropTimer.j2
   repeat' first
   | (with_reducible exact ih0 _ _ _ _ _ _ _ _ _ _ _ _)
   | (with_reducible exact ih1 _ _ _ _ _ _ _ _ _)
   | (with_reducible exact ih2 _ _ _ _)
   | (with_reducible exact impl_DropTimer.mono _ _ _ _)
   | (with_reducible exact laws_eqClock.mono _ _ _ _ _)
   | (with_reducible exact laws_heldClock.mono _ _ _ _)
   | (with_reducible exact laws_markClock.mono _ _ _ _)
   | (with_reducible exact laws_toClock.mono _ _ _)
   | (with_reducible exact spec_DropTimer.mono _ _ _ _)
   | (with_reducible exact LeO.refl _)
   | (with_reducible exact LeO.none _)
   | (with_reducible refine LeO.ite ?_ ?_)
   | (with_reducible refine LeO.bind ?_ (fun _ => ?_))
   | exact ih0 _ _ _ _ _ _ _ _ _ _ _ _
   | exact ih1 _ _ _ _ _ _ _ _ _
   | exact ih2 _ _ _ _
   | exact impl_DropTimer.mono _ _ _ _
   | exact laws_eqClock.mono _ _ _ _ _
   | exact laws_heldClock.mono _ _ _ _
   | exact laws_markClock.mono _ _ _ _
   | exact laws_toClock.mono _ _ _
   | exact spec_DropTimer.mono _ _ _ _
   | exact LeO.none _
   | refine LeO.ite ?_ ?_
   | refine LeO.bind ?_ (fun _ => ?_)
theorem laws_FnExactDropTimer.mono : ∀ a0 a1 a2 k, LeO (laws_FnExactDropTimer.f k a0 a1 a2) (laws_FnExactDropTimer.f (k + 1) a0 a1 a2) := by
 intro a0 a1 a2 k
 obtain ⟨ih0, ih1, ih2⟩ := laws_FnExactDropTimer.mono_l k
 unfold laws_FnExactDropTimer.f
 repeat' first
   | (with_reducible exact ih0 _ _ _ _ _ _ _ _ _ _ _ _)
   | (with_reducible exact ih1 _ _ _ _ _ _ _ _ _)
   | (with_reducible exact ih2 _ _ _ _)
   | (with_reducible exact impl_DropTimer.mono _ _ _ _)
   | (with_reducible exact laws_eqClock.mono _ _ _ _ _)
   | (with_reducible exact laws_heldClock.mono _ _ _ _)
   | (with_reducible exact laws_markClock.mono _ _ _ _)
   | (with_reducible exact laws_toClock.mono _ _ _)
   | (with_reducible exact spec_DropTimer.mono _ _ _ _)
   | (with_reducible exact LeO.refl _)
   | (with_reducible exact LeO.none _)
   | (with_reducible refine LeO.ite ?_ ?_)
   | (with_reducible refine LeO.bind ?_ (fun _ => ?_))
   | exact ih0 _ _ _ _ _ _ _ _ _ _ _ _
   | exact ih1 _ _ _ _ _ _ _ _ _
   | exact ih2 _ _ _ _
   | exact impl_DropTimer.mono _ _ _ _
   | exact laws_eqClock.mono _ _ _ _ _
   | exact laws_heldClock.mono _ _ _ _
   | exact laws_markClock.mono _ _ _ _
   | exact laws_toClock.mono _ _ _
   | exact spec_DropTimer.mono _ _ _ _
   | exact LeO.none _
   | refine LeO.ite ?_ ?_
   | refine LeO.bind ?_ (fun _ => ?_)
set_option maxHeartbeats 8000000 in
set_option maxRecDepth 100000 in
theorem laws_FnExactDropTimer.calls (k : Nat) (a0_0 : Int) (A0_1 : Option Addr) (c0_1 : Nat) (l0_1 : List (S254)) (a1 : Int) (r : Bool) (w : World) (hr0_1 : Kd.C k254 w A0_1 l0_1.length l0_1) (hc0_1 : l0_1.length ≤ c0_1) (h : laws_FnExactDropTimer.f k a0_0 l0_1 a1 = some r) :
  Calls Try.prog 7 #[.agg #[.int .i64 a0_0, .slice A0_1 l0_1.length c0_1], .int .i64 a1] w fun e w' => e = .returned (.bool r) ∧ Below w.heap.size w w' := by
 have hu79 := Try.underlying79
 have hu83 := Try.underlying83
 have HR0_1 := Aside0.mk hr0_1
 have HC0_1 := Aside0.mk hc0_1
 clear hr0_1 hc0_1
 have HB := Aside0.mk (Below.refl w.heap.size w)
 have H : ((laws_szClock.f a0_0 l0_1 1048576).bind fun t196 => (if t196 < 0 then (some true) else ((laws_toClock.f k a0_0 l0_1).bind fun bt197 => ((spec_DropTimer.f k bt197.1 bt197.2 a1).bind fun bt201 => ((laws_toClock.f k a0_0 l0_1).bind fun bt207 => ((impl_DropTimer.f k bt207.1 bt207.2 a1).bind fun bt212 => ((laws_eqClock.f k bt212.1 bt212.2.1 bt201.1 bt201.2.1).bind fun t218 => (if t218 = true then (laws_FnExactDropTimer.j0 k a1 bt201.2.2 bt212.2.2 (bt212.2.2 != bt201.2.2) a0_0 l0_1 bt201.1 bt201.2.1 bt207.1 bt207.2 bt212.1 bt212.2.1) else (laws_FnExactDropTimer.j0 k a1 bt201.2.2 bt212.2.2 true a0_0 l0_1 bt201.1 bt201.2.1 bt207.1 bt207.2 bt212.1 bt212.2.1))))))))) = some r := h
 clear h
 replace H := Option.bind_eq_some_iff.mp H
 obtain ⟨t196, A30, H⟩ := H
 replace H : (if t196 < 0 then (some true) else ((laws_toClock.f k a0_0 l0_1).bind fun bt197 => ((spec_DropTimer.f k bt197.1 bt197.2 a1).bind fun bt201 => ((laws_toClock.f k a0_0 l0_1).bind fun bt207 => ((impl_DropTimer.f k bt207.1 bt207.2 a1).bind fun bt212 => ((laws_eqClock.f k bt212.1 bt212.2.1 bt201.1 bt201.2.1).bind fun t218 => (if t218 = true then (laws_FnExactDropTimer.j0 k a1 bt201.2.2 bt212.2.2 (bt212.2.2 != bt201.2.2) a0_0 l0_1 bt201.1 bt201.2.1 bt207.1 bt207.2 bt212.1 bt212.2.1) else (laws_FnExactDropTimer.j0 k a1 bt201.2.2 bt212.2.2 true a0_0 l0_1 bt201.1 bt201.2.1 bt207.1 bt207.2 bt212.1 bt212.2.1)))))))) = some r := H
 have A3 := Aside0.mk A30
 clear A30
 by_cases c4 : t196 < 0
 ·rw [if_pos c4] at H
  have c4b0 : decide (t196 < 0) = true := decide_eq_true c4
  clear c4
  obtain rfl := Option.some.inj H
  go_enter Try.func7, Try.ntmps7
  go_wp2_with (first | ((with_reducible refine gate_dst (N := 2) rfl ?_); refine box_event ?hg (N := 2) ?hd (cs := #[.int .i64 a0_0, .slice A0_1 l0_1.length c0_1]) (t := 79) ?hr ?_; (case hd => rfl); (case hg => rfl); (case hr => first | (go_simp; done) | (go_simp; rfl)); intro gb195 hg w5 hbox hb; have n0_ := Aside0.mk (below_step (by repeat (first | (with_reducible first | exact HB.out | apply below_alloc | apply pw_below_drewN | apply below_drew1) | exact HB.out)) hb); have n1_ := Aside0.mk (hbox); have n2_ := Aside0.mk ((by rw [hg]; exact (below_size (by repeat (first | (with_reducible first | exact HB.out | apply below_alloc | apply pw_below_drewN | apply below_drew1) | exact HB.out))) : w.heap.size ≤ gb195)); have n3_ := Aside0.mk ((by rw [hg]; exact (below_size (by repeat (first | (with_reducible first | exact HB.out | apply below_alloc | apply pw_below_drewN | apply below_drew1) | exact HB.out))) : w.heap.size ≤ gb195)); clear HB; have HB := n0_; have BK195 := n1_; have GW195 := n2_; have GE195 := n3_; clear n0_ n1_ n2_ n3_; clear hb hbox hg; have hcz6_0 : w5.cell? ⟨gb195, 0, none⟩ = some (.int .i64 a0_0) := (blk_cell BK195.out 0).trans rfl; have hcz6_1 : w5.cell? ⟨gb195, 1, none⟩ = some (.slice A0_1 l0_1.length c0_1) := (blk_cell BK195.out 1).trans rfl; have hfz6_0 := blk_frozen BK195.out 0; have hfz6_1 := blk_frozen BK195.out 1) | ((with_reducible refine gate_callee (f := 44) rfl ?_); refine goesL_ (some 18) rfl rfl Try.func44 (by kernel_rfl) rfl #[.agg #[.int .i64 a0_0, .slice A0_1 l0_1.length c0_1], .int .i64 1048576] rfl (by (try simp only [List.map_toArray, List.map_cons, List.map_nil]); first | done | rfl | (simp only [List.length_drop, List.length_take]; rfl)) ?_; (with_reducible refine (laws_szClock.calls a0_0 _ _ l0_1 1048576 t196 _ ?side1 ?side2 A3.out).mono ?_); (case side1 => repeat (first | exact (Kd.C_below HR0_1.out HB.out) | (with_reducible refine Kd.C_alloc ?_ _) | (with_reducible refine Kd.C_drewN ?_ _) | (with_reducible refine Kd.C_drew ?_))); (case side2 => exact HC0_1.out); rintro e w7 ⟨rfl, hb⟩; refine ⟨_, rfl, ?_⟩; have n0_ := Aside0.mk (blk_below (g := gb195) (o := .cells #[.int .i64 a0_0, .slice A0_1 l0_1.length c0_1] 79 (0, 0)) (by (with_reducible repeat (first | refine blk_drewN ?_ _ | refine blk_drew ?_ | refine blk_alloc ?_ _)); exact BK195.out) hb); have n1_ := Aside0.mk (below_step (by repeat (first | (with_reducible first | exact HB.out | apply below_alloc | apply pw_below_drewN | apply below_drew1 | refine below_set ?_ GE195.out) | exact HB.out)) hb); clear BK195; clear HB; have BK195 := n0_; have HB := n1_; clear n0_ n1_; (try clear hb); (try clear hb2); (try clear hk); (try clear hi)))
  go_ret
  exact ⟨by first | rfl | (simp [errW_none, errW_some] <;> rfl) | (simp [*, errW_none, errW_some] <;> rfl), by repeat (first | (with_reducible first | exact HB.out | apply below_alloc | apply pw_below_drewN | apply below_drew1 | refine below_set ?_ GE195.out) | exact HB.out)⟩
 ·rw [if_neg c4] at H
  have c4b0 : decide (t196 < 0) = false := decide_eq_false c4
  clear c4
  replace H := Option.bind_eq_some_iff.mp H
  obtain ⟨⟨t197, t198⟩, A80, H⟩ := H
  replace H : ((spec_DropTimer.f k t197 t198 a1).bind fun bt201 => ((laws_toClock.f k a0_0 l0_1).bind fun bt207 => ((impl_DropTimer.f k bt207.1 bt207.2 a1).bind fun bt212 => ((laws_eqClock.f k bt212.1 bt212.2.1 bt201.1 bt201.2.1).bind fun t218 => (if t218 = true then (laws_FnExactDropTimer.j0 k a1 bt201.2.2 bt212.2.2 (bt212.2.2 != bt201.2.2) a0_0 l0_1 bt201.1 bt201.2.1 bt207.1 bt207.2 bt212.1 bt212.2.1) else (laws_FnExactDropTimer.j0 k a1 bt201.2.2 bt212.2.2 true a0_0 l0_1 bt201.1 bt201.2.1 bt207.1 bt207.2 bt212.1 bt212.2.1)))))) = some r := H
  have A8 := Aside0.mk A80
  clear A80
  replace H := Option.bind_eq_some_iff.mp H
  obtain ⟨⟨t201, t202, t205⟩, A90, H⟩ := H
  replace H : ((laws_toClock.f k a0_0 l0_1).bind fun bt207 => ((impl_DropTimer.f k bt207.1 bt207.2 a1).bind fun bt212 => ((laws_eqClock.f k bt212.1 bt212.2.1 t201 t202).bind fun t218 => (if t218 = true then (laws_FnExactDropTimer.j0 k a1 t205 bt212.2.2 (bt212.2.2 != t205) a0_0 l0_1 t201 t202 bt207.1 bt207.2 bt212.1 bt212.2.1) else (laws_FnExactDropTimer.j0 k a1 t205 bt212.2.2 true a0_0 l0_1 t201 t202 bt207.1 bt207.2 bt212.1 bt212.2.1))))) = some r := H
  have A9 := Aside0.mk A90
  clear A90
  replace H := Option.bind_eq_some_iff.mp H
  obtain ⟨⟨t207, t208⟩, A100, H⟩ := H
  replace H : ((impl_DropTimer.f k t207 t208 a1).bind fun bt212 => ((laws_eqClock.f k bt212.1 bt212.2.1 t201 t202).bind fun t218 => (if t218 = true then (laws_FnExactDropTimer.j0 k a1 t205 bt212.2.2 (bt212.2.2 != t205) a0_0 l0_1 t201 t202 t207 t208 bt212.1 bt212.2.1) else (laws_FnExactDropTimer.j0 k a1 t205 bt212.2.2 true a0_0 l0_1 t201 t202 t207 t208 bt212.1 bt212.2.1)))) = some r := H
  have A10 := Aside0.mk A100
  clear A100
  replace H := Option.bind_eq_some_iff.mp H
  obtain ⟨⟨t212, t213, t216⟩, A110, H⟩ := H
  replace H : ((laws_eqClock.f k t212 t213 t201 t202).bind fun t218 => (if t218 = true then (laws_FnExactDropTimer.j0 k a1 t205 t216 (t216 != t205) a0_0 l0_1 t201 t202 t207 t208 t212 t213) else (laws_FnExactDropTimer.j0 k a1 t205 t216 true a0_0 l0_1 t201 t202 t207 t208 t212 t213))) = some r := H
  have A11 := Aside0.mk A110
  clear A110
  have HC12 := Aside0.mk H
  clear H
  go_enter Try.func7, Try.ntmps7
  go_upto_region 8 with (first | ((with_reducible refine gate_dst (N := 2) rfl ?_); refine box_event ?hg (N := 2) ?hd (cs := #[.int .i64 a0_0, .slice A0_1 l0_1.length c0_1]) (t := 79) ?hr ?_; (case hd => rfl); (case hg => rfl); (case hr => first | (go_simp; done) | (go_simp; rfl)); intro gb195 hg w13 hbox hb; have n0_ := Aside0.mk (below_step (by repeat (first | (with_reducible first | exact HB.out | apply below_alloc | apply pw_below_drewN | apply below_drew1) | exact HB.out)) hb); have n1_ := Aside0.mk (hbox); have n2_ := Aside0.mk ((by rw [hg]; exact (below_size (by repeat (first | (with_reducible first | exact HB.out | apply below_alloc | apply pw_below_drewN | apply below_drew1) | exact HB.out))) : w.heap.size ≤ gb195)); have n3_ := Aside0.mk ((by rw [hg]; exact (below_size (by repeat (first | (with_reducible first | exact HB.out | apply below_alloc | apply pw_below_drewN | apply below_drew1) | exact HB.out))) : w.heap.size ≤ gb195)); clear HB; have HB := n0_; have BK195 := n1_; have GW195 := n2_; have GE195 := n3_; clear n0_ n1_ n2_ n3_; clear hb hbox hg; have hcz14_0 : w13.cell? ⟨gb195, 0, none⟩ = some (.int .i64 a0_0) := (blk_cell BK195.out 0).trans rfl; have hcz14_1 : w13.cell? ⟨gb195, 1, none⟩ = some (.slice A0_1 l0_1.length c0_1) := (blk_cell BK195.out 1).trans rfl; have hfz14_0 := blk_frozen BK195.out 0; have hfz14_1 := blk_frozen BK195.out 1) | ((with_reducible refine gate_callee (f := 44) rfl ?_); refine goesL_ (some 18) rfl rfl Try.func44 (by kernel_rfl) rfl #[.agg #[.int .i64 a0_0, .slice A0_1 l0_1.length c0_1], .int .i64 1048576] rfl (by (try simp only [List.map_toArray, List.map_cons, List.map_nil]); first | done | rfl | (simp only [List.length_drop, List.length_take]; rfl)) ?_; (with_reducible refine (laws_szClock.calls a0_0 _ _ l0_1 1048576 t196 _ ?side1 ?side2 A3.out).mono ?_); (case side1 => repeat (first | exact (Kd.C_below HR0_1.out HB.out) | (with_reducible refine Kd.C_alloc ?_ _) | (with_reducible refine Kd.C_drewN ?_ _) | (with_reducible refine Kd.C_drew ?_))); (case side2 => exact HC0_1.out); rintro e w15 ⟨rfl, hb⟩; refine ⟨_, rfl, ?_⟩; have n0_ := Aside0.mk (blk_below (g := gb195) (o := .cells #[.int .i64 a0_0, .slice A0_1 l0_1.length c0_1] 79 (0, 0)) (by (with_reducible repeat (first | refine blk_drewN ?_ _ | refine blk_drew ?_ | refine blk_alloc ?_ _)); exact BK195.out) hb); have n1_ := Aside0.mk (below_step (by repeat (first | (with_reducible first | exact HB.out | apply below_alloc | apply pw_below_drewN | apply below_drew1 | refine below_set ?_ GE195.out) | exact HB.out)) hb); clear BK195; clear HB; have BK195 := n0_; have HB := n1_; clear n0_ n1_; (try clear hb); (try clear hb2); (try clear hk); (try clear hi); have hcz16_0 : w15.cell? ⟨gb195, 0, none⟩ = some (.int .i64 a0_0) := (blk_cell BK195.out 0).trans rfl; have hcz16_1 : w15.cell? ⟨gb195, 1, none⟩ = some (.slice A0_1 l0_1.length c0_1) := (blk_cell BK195.out 1).trans rfl; have hfz16_0 := blk_frozen BK195.out 0; have hfz16_1 := blk_frozen BK195.out 1) | ((with_reducible refine gate_callee (f := 46) rfl ?_); refine goesL_ (some 23) rfl rfl Try.func46 (by kernel_rfl) rfl #[.agg #[.int .i64 a0_0, .slice A0_1 l0_1.length c0_1]] rfl (by (try simp only [List.map_toArray, List.map_cons, List.map_nil]); first | done | rfl | (simp only [List.length_drop, List.length_take]; rfl)) ?_; (with_reducible refine (laws_toClock.calls k a0_0 _ _ l0_1 t197 t198 _ ?side1 ?side2 A8.out).mono ?_); (case side1 => repeat (first | exact (Kd.C_below HR0_1.out HB.out) | (with_reducible refine Kd.C_alloc ?_ _) | (with_reducible refine Kd.C_drewN ?_ _) | (with_reducible refine Kd.C_drew ?_))); (case side2 => exact HC0_1.out); rintro e w17 ⟨v199, rfl, ho0, hb⟩; refine ⟨_, rfl, ?_⟩; have n0_ := Aside0.mk (Kd.R_lower ho0 (below_size (by repeat (first | (with_reducible first | exact HB.out | apply below_alloc | apply pw_below_drewN | apply below_drew1 | refine below_set ?_ GE195.out) | exact HB.out)))); have n1_ := Aside0.mk (blk_below (g := gb195) (o := .cells #[.int .i64 a0_0, .slice A0_1 l0_1.length c0_1] 79 (0, 0)) (by (with_reducible repeat (first | refine blk_drewN ?_ _ | refine blk_drew ?_ | refine blk_alloc ?_ _)); exact BK195.out) hb); have n2_ := Aside0.mk (below_step (by repeat (first | (with_reducible first | exact HB.out | apply below_alloc | apply pw_below_drewN | apply below_drew1 | refine below_set ?_ GE195.out) | exact HB.out)) hb); clear BK195; clear HB; have HO200 := n0_; have BK195 := n1_; have HB := n2_; clear n0_ n1_ n2_; (try clear hb); (try clear hb2); (try clear hk); (try clear hi); (try clear ho0); obtain ⟨Ao18, co18, eo18⟩ := Kd.R_slice HO200.out; subst eo18) | ((with_reducible refine gate_callee (f := 45) rfl ?_); refine goesL_ (some 25) rfl rfl Try.func45 (by kernel_rfl) rfl #[.agg #[.int .i64 t197, .slice Ao18 t198.length co18], .int .i64 a1] rfl (by (try simp only [List.map_toArray, List.map_cons, List.map_nil]); first | done | rfl | (simp only [List.length_drop, List.length_take]; rfl)) ?_; (with_reducible refine (spec_DropTimer.calls k t197 _ _ t198 a1 t201 t202 t205 _ ?side1 ?side2 A9.out).mono ?_); (case side1 => repeat (first | exact (Kd.R_reads' HO200.out).2.2 | (with_reducible refine Kd.C_alloc ?_ _) | (with_reducible refine Kd.C_drewN ?_ _) | (with_reducible refine Kd.C_drew ?_))); (case side2 => exact (Kd.R_reads' HO200.out).2.1); rintro e w19 ⟨v203, rfl, ho0, hb⟩; refine ⟨_, rfl, ?_⟩; have n0_ := Aside0.mk (Kd.R_elder' (by (with_reducible repeat (first | apply Kd.R_alloc | apply Kd.R_drewN | apply Kd.R_drew)); exact HO200.out) (Kd.R_base ho0) hb); have n1_ := Aside0.mk (Kd.R_lower (Kd.R_new' ho0 (Kd.R_lt (by (with_reducible repeat (first | apply Kd.R_alloc | apply Kd.R_drewN | apply Kd.R_drew)); exact HO200.out))) (below_size (by repeat (first | (with_reducible first | exact HB.out | apply below_alloc | apply pw_below_drewN | apply below_drew1 | refine below_set ?_ GE195.out) | exact HB.out)))); have n2_ := Aside0.mk (blk_below (g := gb195) (o := .cells #[.int .i64 a0_0, .slice A0_1 l0_1.length c0_1] 79 (0, 0)) (by (with_reducible repeat (first | refine blk_drewN ?_ _ | refine blk_drew ?_ | refine blk_alloc ?_ _)); exact BK195.out) hb); have n3_ := Aside0.mk (below_step (by repeat (first | (with_reducible first | exact HB.out | apply below_alloc | apply pw_below_drewN | apply below_drew1 | refine below_set ?_ GE195.out) | exact HB.out)) hb); clear HO200; clear BK195; clear HB; have HO200 := n0_; have HO204 := n1_; have BK195 := n2_; have HB := n3_; clear n0_ n1_ n2_ n3_; (try clear hb); (try clear hb2); (try clear hk); (try clear hi); (try clear ho0)) | ((with_reducible refine gate_dst (N := 6) rfl ?_); refine box_event ?hg (N := 6) ?hd (cs := #[.int .i64 0, .slice none 0 0]) (t := 83) ?hr ?_; (case hd => rfl); (case hg => rfl); (case hr => first | (go_simp; done) | (go_simp; rfl)); intro gb206 hg w20 hbox hb; have n0_ := Aside0.mk (Kd.R_below (by (with_reducible repeat (first | apply Kd.R_alloc | apply Kd.R_drewN | apply Kd.R_drew)); exact HO200.out) hb); have n1_ := Aside0.mk (Kd.R_below (by (with_reducible repeat (first | apply Kd.R_alloc | apply Kd.R_drewN | apply Kd.R_drew)); exact HO204.out) hb); have n2_ := Aside0.mk (blk_below (g := gb195) (o := .cells #[.int .i64 a0_0, .slice A0_1 l0_1.length c0_1] 79 (0, 0)) (by (with_reducible repeat (first | refine blk_drewN ?_ _ | refine blk_drew ?_ | refine blk_alloc ?_ _)); exact BK195.out) hb); have n3_ := Aside0.mk (below_step (by repeat (first | (with_reducible first | exact HB.out | apply below_alloc | apply pw_below_drewN | apply below_drew1 | refine below_set ?_ GE195.out) | exact HB.out)) hb); have n4_ := Aside0.mk (hbox); have n5_ := Aside0.mk ((by rw [hg]; exact (below_size (by repeat (first | (with_reducible first | exact HB.out | apply below_alloc | apply pw_below_drewN | apply below_drew1 | refine below_set ?_ GE195.out) | exact HB.out))) : w.heap.size ≤ gb206)); have n6_ := Aside0.mk ((by rw [hg]; exact (below_size (by repeat (first | (with_reducible first | exact HB.out | apply below_alloc | apply pw_below_drewN | apply below_drew1 | refine below_set ?_ GE195.out) | exact HB.out))) : w.heap.size ≤ gb206)); have n7_ := Aside0.mk ((by rw [hg]; exact Nat.ne_of_lt (blk_lt (g := gb195) (o := .cells #[.int .i64 a0_0, .slice A0_1 l0_1.length c0_1] 79 (0, 0)) (by (with_reducible repeat (first | refine blk_drewN ?_ _ | refine blk_drew ?_ | refine blk_alloc ?_ _)); exact BK195.out)) : gb195 ≠ gb206)); have n8_ := Aside0.mk ((by rw [hg]; exact Nat.ne_of_gt (blk_lt (g := gb195) (o := .cells #[.int .i64 a0_0, .slice A0_1 l0_1.length c0_1] 79 (0, 0)) (by (with_reducible repeat (first | refine blk_drewN ?_ _ | refine blk_drew ?_ | refine blk_alloc ?_ _)); exact BK195.out)) : gb206 ≠ gb195)); clear HO200; clear HO204; clear BK195; clear HB; have HO200 := n0_; have HO204 := n1_; have BK195 := n2_; have HB := n3_; have BK206 := n4_; have GW206 := n5_; have GE206 := n6_; have NB195_206 := n7_; have NB206_195 := n8_; clear n0_ n1_ n2_ n3_ n4_ n5_ n6_ n7_ n8_; clear hb hbox hg; have hnb21 := NB206_195.out; have hnc21 := NB195_206.out; have hcz22_0 : w20.cell? ⟨gb206, 0, none⟩ = some (.int .i64 0) := (blk_cell BK206.out 0).trans rfl; have hcz22_1 : w20.cell? ⟨gb206, 1, none⟩ = some (.slice none 0 0) := (blk_cell BK206.out 1).trans rfl; have hfz22_0 := blk_frozen BK206.out 0; have hfz22_1 := blk_frozen BK206.out 1; obtain ⟨Ao23, co23, eo23⟩ := Kd.R_slice HO204.out; subst eo23; have hcz24_0 : w20.cell? ⟨gb195, 0, none⟩ = some (.int .i64 a0_0) := (blk_cell BK195.out 0).trans rfl; have hcz24_1 : w20.cell? ⟨gb195, 1, none⟩ = some (.slice A0_1 l0_1.length c0_1) := (blk_cell BK195.out 1).trans rfl; have hfz24_0 := blk_frozen BK195.out 0; have hfz24_1 := blk_frozen BK195.out 1) | ((with_reducible refine gate_callee (f := 46) rfl ?_); refine goesL_ (some 29) rfl rfl Try.func46 (by kernel_rfl) rfl #[.agg #[.int .i64 a0_0, .slice A0_1 l0_1.length c0_1]] rfl (by (try simp only [List.map_toArray, List.map_cons, List.map_nil]); first | done | rfl | (simp only [List.length_drop, List.length_take]; rfl)) ?_; (with_reducible refine (laws_toClock.calls k a0_0 _ _ l0_1 t207 t208 _ ?side1 ?side2 A10.out).mono ?_); (case side1 => exact Kd.C_below HR0_1.out (by repeat (first | (with_reducible first | exact HB.out | apply below_alloc | apply pw_below_drewN | apply below_drew1 | refine below_set ?_ GE195.out | refine below_set ?_ GE206.out) | exact HB.out))); (case side2 => exact HC0_1.out); rintro e w25 ⟨v209, rfl, ho0, hb⟩; refine ⟨_, rfl, ?_⟩; have n0_ := Aside0.mk (Kd.R_elder' (by (with_reducible repeat (first | apply Kd.R_alloc | apply Kd.R_drewN | apply Kd.R_drew)); exact (Kd.R_mono (Kd.R_far (p := ⟨gb206, 1, none⟩) (Kd.R_far (p := ⟨gb206, 0, none⟩) (Kd.R_types HO200.out BK206.out (by decide)) (fun _ hk => hk.2) (.int .i64 t201)) (fun _ hk => hk.2) (.slice Ao23 t202.length co23)) (fun _ h_ => h_.1))) (Kd.R_base ho0) hb); have n1_ := Aside0.mk (Kd.R_elder' (by (with_reducible repeat (first | apply Kd.R_alloc | apply Kd.R_drewN | apply Kd.R_drew)); exact (Kd.R_mono (Kd.R_far (p := ⟨gb206, 1, none⟩) (Kd.R_far (p := ⟨gb206, 0, none⟩) (Kd.R_types HO204.out BK206.out (by decide)) (fun _ hk => hk.2) (.int .i64 t201)) (fun _ hk => hk.2) (.slice Ao23 t202.length co23)) (fun _ h_ => h_.1))) (Kd.R_base ho0) hb); have n2_ := Aside0.mk (Kd.R_lower (Kd.R_new' (Kd.R_new' ho0 (Kd.R_lt (by (with_reducible repeat (first | apply Kd.R_alloc | apply Kd.R_drewN | apply Kd.R_drew)); exact (Kd.R_mono (Kd.R_far (p := ⟨gb206, 1, none⟩) (Kd.R_far (p := ⟨gb206, 0, none⟩) (Kd.R_types HO200.out BK206.out (by decide)) (fun _ hk => hk.2) (.int .i64 t201)) (fun _ hk => hk.2) (.slice Ao23 t202.length co23)) (fun _ h_ => h_.1))))) (Kd.R_lt (by (with_reducible repeat (first | apply Kd.R_alloc | apply Kd.R_drewN | apply Kd.R_drew)); exact (Kd.R_mono (Kd.R_far (p := ⟨gb206, 1, none⟩) (Kd.R_far (p := ⟨gb206, 0, none⟩) (Kd.R_types HO204.out BK206.out (by decide)) (fun _ hk => hk.2) (.int .i64 t201)) (fun _ hk => hk.2) (.slice Ao23 t202.length co23)) (fun _ h_ => h_.1))))) (below_size (by repeat (first | (with_reducible first | exact HB.out | apply below_alloc | apply pw_below_drewN | apply below_drew1 | refine below_set ?_ GE195.out | refine below_set ?_ GE206.out) | exact HB.out)))); have n3_ := Aside0.mk (blk_below (g := gb195) (o := .cells #[.int .i64 a0_0, .slice A0_1 l0_1.length c0_1] 79 (0, 0)) (by (with_reducible repeat (first | refine blk_drewN ?_ _ | refine blk_drew ?_ | refine blk_alloc ?_ _)); refine blk_far ?_ NB195_206.out _; (with_reducible repeat (first | refine blk_drewN ?_ _ | refine blk_drew ?_ | refine blk_alloc ?_ _)); refine blk_far ?_ NB195_206.out _; (with_reducible repeat (first | refine blk_drewN ?_ _ | refine blk_drew ?_ | refine blk_alloc ?_ _)); exact BK195.out) hb); have n4_ := Aside0.mk (blk_below (g := gb206) (o := .cells #[.int .i64 t201, .slice Ao23 t202.length co23] 83 (0, 0)) (by (with_reducible repeat (first | refine blk_drewN ?_ _ | refine blk_drew ?_ | refine blk_alloc ?_ _)); refine blk_put (cs := #[.int .i64 t201, .slice none 0 0]) ?_ 1 _ rfl; (with_reducible repeat (first | refine blk_drewN ?_ _ | refine blk_drew ?_ | refine blk_alloc ?_ _)); refine blk_put (cs := #[.int .i64 0, .slice none 0 0]) ?_ 0 _ rfl; (with_reducible repeat (first | refine blk_drewN ?_ _ | refine blk_drew ?_ | refine blk_alloc ?_ _)); exact BK206.out) hb); have n5_ := Aside0.mk (below_step (by repeat (first | (with_reducible first | exact HB.out | apply below_alloc | apply pw_below_drewN | apply below_drew1 | refine below_set ?_ GE195.out | refine below_set ?_ GE206.out) | exact HB.out)) hb); clear HO200; clear HO204; clear BK195; clear BK206; clear HB; have HO200 := n0_; have HO204 := n1_; have HO210 := n2_; have BK195 := n3_; have BK206 := n4_; have HB := n5_; clear n0_ n1_ n2_ n3_ n4_ n5_; (try clear hb); (try clear hb2); (try clear hk); (try clear hi); (try clear ho0)) | ((with_reducible refine gate_dst (N := 8) rfl ?_); refine box_event ?hg (N := 8) ?hd (cs := #[.int .i64 0, .slice none 0 0]) (t := 83) ?hr ?_; (case hd => rfl); (case hg => rfl); (case hr => first | (go_simp; done) | (go_simp; rfl)); intro gb211 hg w26 hbox hb; have n0_ := Aside0.mk (Kd.R_below (by (with_reducible repeat (first | apply Kd.R_alloc | apply Kd.R_drewN | apply Kd.R_drew)); exact HO200.out) hb); have n1_ := Aside0.mk (Kd.R_below (by (with_reducible repeat (first | apply Kd.R_alloc | apply Kd.R_drewN | apply Kd.R_drew)); exact HO204.out) hb); have n2_ := Aside0.mk (Kd.R_below (by (with_reducible repeat (first | apply Kd.R_alloc | apply Kd.R_drewN | apply Kd.R_drew)); exact HO210.out) hb); have n3_ := Aside0.mk (blk_below (g := gb195) (o := .cells #[.int .i64 a0_0, .slice A0_1 l0_1.length c0_1] 79 (0, 0)) (by (with_reducible repeat (first | refine blk_drewN ?_ _ | refine blk_drew ?_ | refine blk_alloc ?_ _)); exact BK195.out) hb); have n4_ := Aside0.mk (blk_below (g := gb206) (o := .cells #[.int .i64 t201, .slice Ao23 t202.length co23] 83 (0, 0)) (by (with_reducible repeat (first | refine blk_drewN ?_ _ | refine blk_drew ?_ | refine blk_alloc ?_ _)); exact BK206.out) hb); have n5_ := Aside0.mk (below_step (by repeat (first | (with_reducible first | exact HB.out | apply below_alloc | apply pw_below_drewN | apply below_drew1 | refine below_set ?_ GE195.out | refine below_set ?_ GE206.out) | exact HB.out)) hb); have n6_ := Aside0.mk (hbox); have n7_ := Aside0.mk ((by rw [hg]; exact (below_size (by repeat (first | (with_reducible first | exact HB.out | apply below_alloc | apply pw_below_drewN | apply below_drew1 | refine below_set ?_ GE195.out | refine below_set ?_ GE206.out) | exact HB.out))) : w.heap.size ≤ gb211)); have n8_ := Aside0.mk ((by rw [hg]; exact (below_size (by repeat (first | (with_reducible first | exact HB.out | apply below_alloc | apply pw_below_drewN | apply below_drew1 | refine below_set ?_ GE195.out | refine below_set ?_ GE206.out) | exact HB.out))) : w.heap.size ≤ gb211)); have n9_ := Aside0.mk ((by rw [hg]; exact Nat.ne_of_lt (blk_lt (g := gb195) (o := .cells #[.int .i64 a0_0, .slice A0_1 l0_1.length c0_1] 79 (0, 0)) (by (with_reducible repeat (first | refine blk_drewN ?_ _ | refine blk_drew ?_ | refine blk_alloc ?_ _)); exact BK195.out)) : gb195 ≠ gb211)); have n10_ := Aside0.mk ((by rw [hg]; exact Nat.ne_of_gt (blk_lt (g := gb195) (o := .cells #[.int .i64 a0_0, .slice A0_1 l0_1.length c0_1] 79 (0, 0)) (by (with_reducible repeat (first | refine blk_drewN ?_ _ | refine blk_drew ?_ | refine blk_alloc ?_ _)); exact BK195.out)) : gb211 ≠ gb195)); have n11_ := Aside0.mk ((by rw [hg]; exact Nat.ne_of_lt (blk_lt (g := gb206) (o := .cells #[.int .i64 t201, .slice Ao23 t202.length co23] 83 (0, 0)) (by (with_reducible repeat (first | refine blk_drewN ?_ _ | refine blk_drew ?_ | refine blk_alloc ?_ _)); exact BK206.out)) : gb206 ≠ gb211)); have n12_ := Aside0.mk ((by rw [hg]; exact Nat.ne_of_gt (blk_lt (g := gb206) (o := .cells #[.int .i64 t201, .slice Ao23 t202.length co23] 83 (0, 0)) (by (with_reducible repeat (first | refine blk_drewN ?_ _ | refine blk_drew ?_ | refine blk_alloc ?_ _)); exact BK206.out)) : gb211 ≠ gb206)); clear HO200; clear HO204; clear HO210; clear BK195; clear BK206; clear HB; have HO200 := n0_; have HO204 := n1_; have HO210 := n2_; have BK195 := n3_; have BK206 := n4_; have HB := n5_; have BK211 := n6_; have GW211 := n7_; have GE211 := n8_; have NB195_211 := n9_; have NB211_195 := n10_; have NB206_211 := n11_; have NB211_206 := n12_; clear n0_ n1_ n2_ n3_ n4_ n5_ n6_ n7_ n8_ n9_ n10_ n11_ n12_; clear hb hbox hg; have hnb27 := NB211_195.out; have hnc27 := NB195_211.out; have hnb28 := NB211_206.out; have hnc28 := NB206_211.out; have hcz29_0 : w26.cell? ⟨gb211, 0, none⟩ = some (.int .i64 0) := (blk_cell BK211.out 0).trans rfl; have hcz29_1 : w26.cell? ⟨gb211, 1, none⟩ = some (.slice none 0 0) := (blk_cell BK211.out 1).trans rfl; have hfz29_0 := blk_frozen BK211.out 0; have hfz29_1 := blk_frozen BK211.out 1; obtain ⟨Ao30, co30, eo30⟩ := Kd.R_slice HO210.out; subst eo30) | ((with_reducible refine gate_callee (f := 47) rfl ?_); refine goesL_ (some 33) rfl rfl Try.func47 (by kernel_rfl) rfl #[.agg #[.int .i64 t207, .slice Ao30 t208.length co30], .int .i64 a1] rfl (by (try simp only [List.map_toArray, List.map_cons, List.map_nil]); first | done | rfl | (simp only [List.length_drop, List.length_take]; rfl)) ?_; (with_reducible refine (impl_DropTimer.calls k t207 _ _ t208 a1 t212 t213 t216 _ ?side1 ?side2 A11.out).mono ?_); (case side1 => refine (Kd.R_reads' (e := 178) (base := w.heap.size) (ok := fun k_ => ((True ∧ some k_ ≠ (.slice Ao18 t198.length co18 : Value).ownBlock) ∧ some k_ ≠ (.slice Ao23 t202.length co23 : Value).ownBlock)) (n := t208.length) (c := co30) ?_).2.2; exact (by (with_reducible repeat (first | apply Kd.R_alloc | apply Kd.R_drewN | apply Kd.R_drew)); exact (Kd.R_mono (Kd.R_far (p := ⟨gb211, 1, none⟩) (Kd.R_far (p := ⟨gb211, 0, none⟩) (Kd.R_types HO210.out BK211.out (by decide)) (fun _ hk => hk.2) (.int .i64 t207)) (fun _ hk => hk.2) (.slice Ao30 t208.length co30)) (fun _ h_ => h_.1)))); (case side2 => exact (Kd.R_reads' HO210.out).2.1); rintro e w31 ⟨v214, rfl, ho0, hb⟩; refine ⟨_, rfl, ?_⟩; have n0_ := Aside0.mk (Kd.R_elder' (by (with_reducible repeat (first | apply Kd.R_alloc | apply Kd.R_drewN | apply Kd.R_drew)); exact (Kd.R_mono (Kd.R_far (p := ⟨gb211, 1, none⟩) (Kd.R_far (p := ⟨gb211, 0, none⟩) (Kd.R_types HO200.out BK211.out (by decide)) (fun _ hk => hk.2) (.int .i64 t207)) (fun _ hk => hk.2) (.slice Ao30 t208.length co30)) (fun _ h_ => h_.1))) (Kd.R_base ho0) hb); have n1_ := Aside0.mk (Kd.R_elder' (by (with_reducible repeat (first | apply Kd.R_alloc | apply Kd.R_drewN | apply Kd.R_drew)); exact (Kd.R_mono (Kd.R_far (p := ⟨gb211, 1, none⟩) (Kd.R_far (p := ⟨gb211, 0, none⟩) (Kd.R_types HO204.out BK211.out (by decide)) (fun _ hk => hk.2) (.int .i64 t207)) (fun _ hk => hk.2) (.slice Ao30 t208.length co30)) (fun _ h_ => h_.1))) (Kd.R_base ho0) hb); have n2_ := Aside0.mk (Kd.R_elder' (by (with_reducible repeat (first | apply Kd.R_alloc | apply Kd.R_drewN | apply Kd.R_drew)); exact (Kd.R_mono (Kd.R_far (p := ⟨gb211, 1, none⟩) (Kd.R_far (p := ⟨gb211, 0, none⟩) (Kd.R_types HO210.out BK211.out (by decide)) (fun _ hk => hk.2) (.int .i64 t207)) (fun _ hk => hk.2) (.slice Ao30 t208.length co30)) (fun _ h_ => h_.1))) (Kd.R_base ho0) hb); have n3_ := Aside0.mk (Kd.R_lower (Kd.R_new' (Kd.R_new' (Kd.R_new' ho0 (Kd.R_lt (by (with_reducible repeat (first | apply Kd.R_alloc | apply Kd.R_drewN | apply Kd.R_drew)); exact (Kd.R_mono (Kd.R_far (p := ⟨gb211, 1, none⟩) (Kd.R_far (p := ⟨gb211, 0, none⟩) (Kd.R_types HO200.out BK211.out (by decide)) (fun _ hk => hk.2) (.int .i64 t207)) (fun _ hk => hk.2) (.slice Ao30 t208.length co30)) (fun _ h_ => h_.1))))) (Kd.R_lt (by (with_reducible repeat (first | apply Kd.R_alloc | apply Kd.R_drewN | apply Kd.R_drew)); exact (Kd.R_mono (Kd.R_far (p := ⟨gb211, 1, none⟩) (Kd.R_far (p := ⟨gb211, 0, none⟩) (Kd.R_types HO204.out BK211.out (by decide)) (fun _ hk => hk.2) (.int .i64 t207)) (fun _ hk => hk.2) (.slice Ao30 t208.length co30)) (fun _ h_ => h_.1))))) (Kd.R_lt (by (with_reducible repeat (first | apply Kd.R_alloc | apply Kd.R_drewN | apply Kd.R_drew)); exact (Kd.R_mono (Kd.R_far (p := ⟨gb211, 1, none⟩) (Kd.R_far (p := ⟨gb211, 0, none⟩) (Kd.R_types HO210.out BK211.out (by decide)) (fun _ hk => hk.2) (.int .i64 t207)) (fun _ hk => hk.2) (.slice Ao30 t208.length co30)) (fun _ h_ => h_.1))))) (below_size (by repeat (first | (with_reducible first | exact HB.out | apply below_alloc | apply pw_below_drewN | apply below_drew1 | refine below_set ?_ GE195.out | refine below_set ?_ GE206.out | refine below_set ?_ GE211.out) | exact HB.out)))); have n4_ := Aside0.mk (blk_below (g := gb195) (o := .cells #[.int .i64 a0_0, .slice A0_1 l0_1.length c0_1] 79 (0, 0)) (by (with_reducible repeat (first | refine blk_drewN ?_ _ | refine blk_drew ?_ | refine blk_alloc ?_ _)); refine blk_far ?_ NB195_211.out _; (with_reducible repeat (first | refine blk_drewN ?_ _ | refine blk_drew ?_ | refine blk_alloc ?_ _)); refine blk_far ?_ NB195_211.out _; (with_reducible repeat (first | refine blk_drewN ?_ _ | refine blk_drew ?_ | refine blk_alloc ?_ _)); exact BK195.out) hb); have n5_ := Aside0.mk (blk_below (g := gb206) (o := .cells #[.int .i64 t201, .slice Ao23 t202.length co23] 83 (0, 0)) (by (with_reducible repeat (first | refine blk_drewN ?_ _ | refine blk_drew ?_ | refine blk_alloc ?_ _)); refine blk_far ?_ NB206_211.out _; (with_reducible repeat (first | refine blk_drewN ?_ _ | refine blk_drew ?_ | refine blk_alloc ?_ _)); refine blk_far ?_ NB206_211.out _; (with_reducible repeat (first | refine blk_drewN ?_ _ | refine blk_drew ?_ | refine blk_alloc ?_ _)); exact BK206.out) hb); have n6_ := Aside0.mk (blk_below (g := gb211) (o := .cells #[.int .i64 t207, .slice Ao30 t208.length co30] 83 (0, 0)) (by (with_reducible repeat (first | refine blk_drewN ?_ _ | refine blk_drew ?_ | refine blk_alloc ?_ _)); refine blk_put (cs := #[.int .i64 t207, .slice none 0 0]) ?_ 1 _ rfl; (with_reducible repeat (first | refine blk_drewN ?_ _ | refine blk_drew ?_ | refine blk_alloc ?_ _)); refine blk_put (cs := #[.int .i64 0, .slice none 0 0]) ?_ 0 _ rfl; (with_reducible repeat (first | refine blk_drewN ?_ _ | refine blk_drew ?_ | refine blk_alloc ?_ _)); exact BK211.out) hb); have n7_ := Aside0.mk (below_step (by repeat (first | (with_reducible first | exact HB.out | apply below_alloc | apply pw_below_drewN | apply below_drew1 | refine below_set ?_ GE195.out | refine below_set ?_ GE206.out | refine below_set ?_ GE211.out) | exact HB.out)) hb); clear HO200; clear HO204; clear HO210; clear BK195; clear BK206; clear BK211; clear HB; have HO200 := n0_; have HO204 := n1_; have HO210 := n2_; have HO215 := n3_; have BK195 := n4_; have BK206 := n5_; have BK211 := n6_; have HB := n7_; clear n0_ n1_ n2_ n3_ n4_ n5_ n6_ n7_; (try clear hb); (try clear hb2); (try clear hk); (try clear hi); (try clear ho0)) | ((with_reducible refine gate_dst (N := 9) rfl ?_); refine box_event ?hg (N := 9) ?hd (cs := #[.int .i64 0, .slice none 0 0]) (t := 83) ?hr ?_; (case hd => rfl); (case hg => rfl); (case hr => first | (go_simp; done) | (go_simp; rfl)); intro gb217 hg w32 hbox hb; have n0_ := Aside0.mk (Kd.R_below (by (with_reducible repeat (first | apply Kd.R_alloc | apply Kd.R_drewN | apply Kd.R_drew)); exact HO200.out) hb); have n1_ := Aside0.mk (Kd.R_below (by (with_reducible repeat (first | apply Kd.R_alloc | apply Kd.R_drewN | apply Kd.R_drew)); exact HO204.out) hb); have n2_ := Aside0.mk (Kd.R_below (by (with_reducible repeat (first | apply Kd.R_alloc | apply Kd.R_drewN | apply Kd.R_drew)); exact HO210.out) hb); have n3_ := Aside0.mk (Kd.R_below (by (with_reducible repeat (first | apply Kd.R_alloc | apply Kd.R_drewN | apply Kd.R_drew)); exact HO215.out) hb); have n4_ := Aside0.mk (blk_below (g := gb195) (o := .cells #[.int .i64 a0_0, .slice A0_1 l0_1.length c0_1] 79 (0, 0)) (by (with_reducible repeat (first | refine blk_drewN ?_ _ | refine blk_drew ?_ | refine blk_alloc ?_ _)); exact BK195.out) hb); have n5_ := Aside0.mk (blk_below (g := gb206) (o := .cells #[.int .i64 t201, .slice Ao23 t202.length co23] 83 (0, 0)) (by (with_reducible repeat (first | refine blk_drewN ?_ _ | refine blk_drew ?_ | refine blk_alloc ?_ _)); exact BK206.out) hb); have n6_ := Aside0.mk (blk_below (g := gb211) (o := .cells #[.int .i64 t207, .slice Ao30 t208.length co30] 83 (0, 0)) (by (with_reducible repeat (first | refine blk_drewN ?_ _ | refine blk_drew ?_ | refine blk_alloc ?_ _)); exact BK211.out) hb); have n7_ := Aside0.mk (below_step (by repeat (first | (with_reducible first | exact HB.out | apply below_alloc | apply pw_below_drewN | apply below_drew1 | refine below_set ?_ GE195.out | refine below_set ?_ GE206.out | refine below_set ?_ GE211.out) | exact HB.out)) hb); have n8_ := Aside0.mk (hbox); have n9_ := Aside0.mk ((by rw [hg]; exact (below_size (by repeat (first | (with_reducible first | exact HB.out | apply below_alloc | apply pw_below_drewN | apply below_drew1 | refine below_set ?_ GE195.out | refine below_set ?_ GE206.out | refine below_set ?_ GE211.out) | exact HB.out))) : w.heap.size ≤ gb217)); have n10_ := Aside0.mk ((by rw [hg]; exact (below_size (by repeat (first | (with_reducible first | exact HB.out | apply below_alloc | apply pw_below_drewN | apply below_drew1 | refine below_set ?_ GE195.out | refine below_set ?_ GE206.out | refine below_set ?_ GE211.out) | exact HB.out))) : w.heap.size ≤ gb217)); have n11_ := Aside0.mk ((by rw [hg]; exact Nat.ne_of_lt (blk_lt (g := gb195) (o := .cells #[.int .i64 a0_0, .slice A0_1 l0_1.length c0_1] 79 (0, 0)) (by (with_reducible repeat (first | refine blk_drewN ?_ _ | refine blk_drew ?_ | refine blk_alloc ?_ _)); exact BK195.out)) : gb195 ≠ gb217)); have n12_ := Aside0.mk ((by rw [hg]; exact Nat.ne_of_gt (blk_lt (g := gb195) (o := .cells #[.int .i64 a0_0, .slice A0_1 l0_1.length c0_1] 79 (0, 0)) (by (with_reducible repeat (first | refine blk_drewN ?_ _ | refine blk_drew ?_ | refine blk_alloc ?_ _)); exact BK195.out)) : gb217 ≠ gb195)); have n13_ := Aside0.mk ((by rw [hg]; exact Nat.ne_of_lt (blk_lt (g := gb206) (o := .cells #[.int .i64 t201, .slice Ao23 t202.length co23] 83 (0, 0)) (by (with_reducible repeat (first | refine blk_drewN ?_ _ | refine blk_drew ?_ | refine blk_alloc ?_ _)); exact BK206.out)) : gb206 ≠ gb217)); have n14_ := Aside0.mk ((by rw [hg]; exact Nat.ne_of_gt (blk_lt (g := gb206) (o := .cells #[.int .i64 t201, .slice Ao23 t202.length co23] 83 (0, 0)) (by (with_reducible repeat (first | refine blk_drewN ?_ _ | refine blk_drew ?_ | refine blk_alloc ?_ _)); exact BK206.out)) : gb217 ≠ gb206)); have n15_ := Aside0.mk ((by rw [hg]; exact Nat.ne_of_lt (blk_lt (g := gb211) (o := .cells #[.int .i64 t207, .slice Ao30 t208.length co30] 83 (0, 0)) (by (with_reducible repeat (first | refine blk_drewN ?_ _ | refine blk_drew ?_ | refine blk_alloc ?_ _)); exact BK211.out)) : gb211 ≠ gb217)); have n16_ := Aside0.mk ((by rw [hg]; exact Nat.ne_of_gt (blk_lt (g := gb211) (o := .cells #[.int .i64 t207, .slice Ao30 t208.length co30] 83 (0, 0)) (by (with_reducible repeat (first | refine blk_drewN ?_ _ | refine blk_drew ?_ | refine blk_alloc ?_ _)); exact BK211.out)) : gb217 ≠ gb211)); clear HO200; clear HO204; clear HO210; clear HO215; clear BK195; clear BK206; clear BK211; clear HB; have HO200 := n0_; have HO204 := n1_; have HO210 := n2_; have HO215 := n3_; have BK195 := n4_; have BK206 := n5_; have BK211 := n6_; have HB := n7_; have BK217 := n8_; have GW217 := n9_; have GE217 := n10_; have NB195_217 := n11_; have NB217_195 := n12_; have NB206_217 := n13_; have NB217_206 := n14_; have NB211_217 := n15_; have NB217_211 := n16_; clear n0_ n1_ n2_ n3_ n4_ n5_ n6_ n7_ n8_ n9_ n10_ n11_ n12_ n13_ n14_ n15_ n16_; clear hb hbox hg; have hnb33 := NB217_195.out; have hnc33 := NB195_217.out; have hnb34 := NB217_206.out; have hnc34 := NB206_217.out; have hnb35 := NB217_211.out; have hnc35 := NB211_217.out; have hcz36_0 : w32.cell? ⟨gb217, 0, none⟩ = some (.int .i64 0) := (blk_cell BK217.out 0).trans rfl; have hcz36_1 : w32.cell? ⟨gb217, 1, none⟩ = some (.slice none 0 0) := (blk_cell BK217.out 1).trans rfl; have hfz36_0 := blk_frozen BK217.out 0; have hfz36_1 := blk_frozen BK217.out 1; obtain ⟨Ao37, co37, eo37⟩ := Kd.R_slice HO215.out; subst eo37))
  (try simp only [Act.put, List.setIfInBounds_toArray, List.set_cons_zero, List.set_cons_succ])
  go_cut [44] (fun v44 wc => ∃ (kq : Nat) (x44_11 : Bool), v44 = .bool x44_11 ∧ Aside0 (laws_FnExactDropTimer.j0 kq a1 t205 t216 x44_11 a0_0 l0_1 t201 t202 t207 t208 t212 t213 = some r) ∧ Aside0 (kq ≤ k) ∧ Aside0 (Kd.R k178 178 wc w.heap.size (fun k_ => some k_ ≠ ((.slice Ao30 t208.length co30) : Value).ownBlock ∧ some k_ ≠ ((.slice Ao37 t213.length co37) : Value).ownBlock) (.slice Ao23 t202.length co23) t202) ∧ Aside0 (Kd.R k178 178 wc w.heap.size (fun k_ => some k_ ≠ ((.slice Ao23 t202.length co23) : Value).ownBlock ∧ some k_ ≠ ((.slice Ao37 t213.length co37) : Value).ownBlock) (.slice Ao30 t208.length co30) t208) ∧ Aside0 (Kd.R k178 178 wc w.heap.size (fun k_ => some k_ ≠ ((.slice Ao23 t202.length co23) : Value).ownBlock ∧ some k_ ≠ ((.slice Ao30 t208.length co30) : Value).ownBlock) (.slice Ao37 t213.length co37) t213) ∧ Aside0 (wc.heap[gb195]? = some (.cells #[.int .i64 a0_0, (.slice A0_1 l0_1.length c0_1)] 79 (0, 0))) ∧ Aside0 (wc.heap[gb206]? = some (.cells #[.int .i64 t201, (.slice Ao23 t202.length co23)] 83 (0, 0))) ∧ Aside0 (wc.heap[gb211]? = some (.cells #[.int .i64 t207, (.slice Ao30 t208.length co30)] 83 (0, 0))) ∧ Aside0 (wc.heap[gb217]? = some (.cells #[.int .i64 t212, (.slice Ao37 t213.length co37)] 83 (0, 0))) ∧ Aside0 (Below w.heap.size w wc))
  case first =>
   have H := HC12.out
   clear HC12
   replace H := Option.bind_eq_some_iff.mp H
   obtain ⟨t218, A380, H⟩ := H
   replace H : (if t218 = true then (laws_FnExactDropTimer.j0 k a1 t205 t216 (t216 != t205) a0_0 l0_1 t201 t202 t207 t208 t212 t213) else (laws_FnExactDropTimer.j0 k a1 t205 t216 true a0_0 l0_1 t201 t202 t207 t208 t212 t213)) = some r := H
   have A38 := Aside0.mk A380
   clear A380
   by_cases c39 : t218 = true
   ·subst c39
    have H1 : (laws_FnExactDropTimer.j0 k a1 t205 t216 (t216 != t205) a0_0 l0_1 t201 t202 t207 t208 t212 t213) = some r := by rw [if_pos rfl] at H; exact H
    clear H
    have H := H1
    clear H1
    have H' := Aside0.mk H
    clear H
    have hnb40 := NB217_195.out
    have hnc40 := NB195_217.out
    have hnb41 := NB217_206.out
    have hnc41 := NB206_217.out
    have hnb42 := NB217_211.out
    have hnc42 := NB211_217.out
    have hcz43_0 : w32.cell? ⟨gb217, 0, none⟩ = some (.int .i64 0) := (blk_cell BK217.out 0).trans rfl
    have hcz43_1 : w32.cell? ⟨gb217, 1, none⟩ = some (.slice none 0 0) := (blk_cell BK217.out 1).trans rfl
    have hfz43_0 := blk_frozen BK217.out 0
    have hfz43_1 := blk_frozen BK217.out 1
    have hnb44 := NB206_195.out
    have hnc44 := NB195_206.out
    have hnb45 := NB206_211.out
    have hnc45 := NB211_206.out
    have hcz46_0 : w32.cell? ⟨gb206, 0, none⟩ = some (.int .i64 t201) := (blk_cell BK206.out 0).trans rfl
    have hcz46_1 : w32.cell? ⟨gb206, 1, none⟩ = some (.slice Ao23 t202.length co23) := (blk_cell BK206.out 1).trans rfl
    have hfz46_0 := blk_frozen BK206.out 0
    have hfz46_1 := blk_frozen BK206.out 1
    go_wp2_with (first | ((with_reducible refine gate_callee (f := 48) rfl ?_); refine goesL_ (some 38) rfl rfl Try.func48 (by kernel_rfl) rfl #[.agg #[.int .i64 t212, .slice Ao37 t213.length co37], .agg #[.int .i64 t201, .slice Ao23 t202.length co23]] rfl (by (try simp only [List.map_toArray, List.map_cons, List.map_nil]); first | done | rfl | (simp only [List.length_drop, List.length_take]; rfl)) ?_; (with_reducible refine (laws_eqClock.calls k t212 _ _ t213 t201 _ _ t202 true _ ?side1 ?side2 ?side3 ?side4 A38.out).mono ?_); (case side1 => refine (Kd.R_reads' (e := 178) (base := w.heap.size) (ok := fun k_ => (((True ∧ some k_ ≠ (.slice Ao18 t198.length co18 : Value).ownBlock) ∧ some k_ ≠ (.slice Ao23 t202.length co23 : Value).ownBlock) ∧ some k_ ≠ (.slice Ao30 t208.length co30 : Value).ownBlock)) (n := t213.length) (c := co37) ?_).2.2; exact (by (with_reducible repeat (first | apply Kd.R_alloc | apply Kd.R_drewN | apply Kd.R_drew)); exact (Kd.R_mono (Kd.R_far (p := ⟨gb217, 1, none⟩) (Kd.R_far (p := ⟨gb217, 0, none⟩) (Kd.R_types HO215.out BK217.out (by decide)) (fun _ hk => hk.2) (.int .i64 t212)) (fun _ hk => hk.2) (.slice Ao37 t213.length co37)) (fun _ h_ => h_.1)))); (case side2 => exact (Kd.R_reads' HO215.out).2.1); (case side3 => refine (Kd.R_reads' (e := 178) (base := w.heap.size) (ok := fun k_ => (((True ∧ some k_ ≠ (.slice Ao18 t198.length co18 : Value).ownBlock) ∧ some k_ ≠ (.slice Ao30 t208.length co30 : Value).ownBlock) ∧ some k_ ≠ (.slice Ao37 t213.length co37 : Value).ownBlock)) (n := t202.length) (c := co23) ?_).2.2; exact (by (with_reducible repeat (first | apply Kd.R_alloc | apply Kd.R_drewN | apply Kd.R_drew)); exact (Kd.R_mono (Kd.R_far (p := ⟨gb217, 1, none⟩) (Kd.R_far (p := ⟨gb217, 0, none⟩) (Kd.R_types HO204.out BK217.out (by decide)) (fun _ hk => hk.2) (.int .i64 t212)) (fun _ hk => hk.2) (.slice Ao37 t213.length co37)) (fun _ h_ => h_.1)))); (case side4 => exact (Kd.R_reads' HO204.out).2.1); rintro e w47 ⟨rfl, hb⟩; refine ⟨_, rfl, ?_⟩; have n0_ := Aside0.mk (Kd.R_below (by (with_reducible repeat (first | apply Kd.R_alloc | apply Kd.R_drewN | apply Kd.R_drew)); exact (Kd.R_mono (Kd.R_far (p := ⟨gb217, 1, none⟩) (Kd.R_far (p := ⟨gb217, 0, none⟩) (Kd.R_types HO200.out BK217.out (by decide)) (fun _ hk => hk.2) (.int .i64 t212)) (fun _ hk => hk.2) (.slice Ao37 t213.length co37)) (fun _ h_ => h_.1))) hb); have n1_ := Aside0.mk (Kd.R_below (by (with_reducible repeat (first | apply Kd.R_alloc | apply Kd.R_drewN | apply Kd.R_drew)); exact (Kd.R_mono (Kd.R_far (p := ⟨gb217, 1, none⟩) (Kd.R_far (p := ⟨gb217, 0, none⟩) (Kd.R_types HO204.out BK217.out (by decide)) (fun _ hk => hk.2) (.int .i64 t212)) (fun _ hk => hk.2) (.slice Ao37 t213.length co37)) (fun _ h_ => h_.1))) hb); have n2_ := Aside0.mk (Kd.R_below (by (with_reducible repeat (first | apply Kd.R_alloc | apply Kd.R_drewN | apply Kd.R_drew)); exact (Kd.R_mono (Kd.R_far (p := ⟨gb217, 1, none⟩) (Kd.R_far (p := ⟨gb217, 0, none⟩) (Kd.R_types HO210.out BK217.out (by decide)) (fun _ hk => hk.2) (.int .i64 t212)) (fun _ hk => hk.2) (.slice Ao37 t213.length co37)) (fun _ h_ => h_.1))) hb); have n3_ := Aside0.mk (Kd.R_below (by (with_reducible repeat (first | apply Kd.R_alloc | apply Kd.R_drewN | apply Kd.R_drew)); exact (Kd.R_mono (Kd.R_far (p := ⟨gb217, 1, none⟩) (Kd.R_far (p := ⟨gb217, 0, none⟩) (Kd.R_types HO215.out BK217.out (by decide)) (fun _ hk => hk.2) (.int .i64 t212)) (fun _ hk => hk.2) (.slice Ao37 t213.length co37)) (fun _ h_ => h_.1))) hb); have n4_ := Aside0.mk (blk_below (g := gb195) (o := .cells #[.int .i64 a0_0, .slice A0_1 l0_1.length c0_1] 79 (0, 0)) (by (with_reducible repeat (first | refine blk_drewN ?_ _ | refine blk_drew ?_ | refine blk_alloc ?_ _)); refine blk_far ?_ NB195_217.out _; (with_reducible repeat (first | refine blk_drewN ?_ _ | refine blk_drew ?_ | refine blk_alloc ?_ _)); refine blk_far ?_ NB195_217.out _; (with_reducible repeat (first | refine blk_drewN ?_ _ | refine blk_drew ?_ | refine blk_alloc ?_ _)); exact BK195.out) hb); have n5_ := Aside0.mk (blk_below (g := gb206) (o := .cells #[.int .i64 t201, .slice Ao23 t202.length co23] 83 (0, 0)) (by (with_reducible repeat (first | refine blk_drewN ?_ _ | refine blk_drew ?_ | refine blk_alloc ?_ _)); refine blk_far ?_ NB206_217.out _; (with_reducible repeat (first | refine blk_drewN ?_ _ | refine blk_drew ?_ | refine blk_alloc ?_ _)); refine blk_far ?_ NB206_217.out _; (with_reducible repeat (first | refine blk_drewN ?_ _ | refine blk_drew ?_ | refine blk_alloc ?_ _)); exact BK206.out) hb); have n6_ := Aside0.mk (blk_below (g := gb211) (o := .cells #[.int .i64 t207, .slice Ao30 t208.length co30] 83 (0, 0)) (by (with_reducible repeat (first | refine blk_drewN ?_ _ | refine blk_drew ?_ | refine blk_alloc ?_ _)); refine blk_far ?_ NB211_217.out _; (with_reducible repeat (first | refine blk_drewN ?_ _ | refine blk_drew ?_ | refine blk_alloc ?_ _)); refine blk_far ?_ NB211_217.out _; (with_reducible repeat (first | refine blk_drewN ?_ _ | refine blk_drew ?_ | refine blk_alloc ?_ _)); exact BK211.out) hb); have n7_ := Aside0.mk (blk_below (g := gb217) (o := .cells #[.int .i64 t212, .slice Ao37 t213.length co37] 83 (0, 0)) (by (with_reducible repeat (first | refine blk_drewN ?_ _ | refine blk_drew ?_ | refine blk_alloc ?_ _)); refine blk_put (cs := #[.int .i64 t212, .slice none 0 0]) ?_ 1 _ rfl; (with_reducible repeat (first | refine blk_drewN ?_ _ | refine blk_drew ?_ | refine blk_alloc ?_ _)); refine blk_put (cs := #[.int .i64 0, .slice none 0 0]) ?_ 0 _ rfl; (with_reducible repeat (first | refine blk_drewN ?_ _ | refine blk_drew ?_ | refine blk_alloc ?_ _)); exact BK217.out) hb); have n8_ := Aside0.mk (below_step (by repeat (first | (with_reducible first | exact HB.out | apply below_alloc | apply pw_below_drewN | apply below_drew1 | refine below_set ?_ GE195.out | refine below_set ?_ GE206.out | refine below_set ?_ GE211.out | refine below_set ?_ GE217.out) | exact HB.out)) hb); clear HO200; clear HO204; clear HO210; clear HO215; clear BK195; clear BK206; clear BK211; clear BK217; clear HB; have HO200 := n0_; have HO204 := n1_; have HO210 := n2_; have HO215 := n3_; have BK195 := n4_; have BK206 := n5_; have BK211 := n6_; have BK217 := n7_; have HB := n8_; clear n0_ n1_ n2_ n3_ n4_ n5_ n6_ n7_ n8_; (try clear hb); (try clear hb2); (try clear hk); (try clear hi)))
    go_meet
    case rel => exact ⟨_, ((t216 != t205)), (by first | rfl | (simp; done) | (simp [*]; done) | exact not_isEmpty _ | exact (not_isEmpty _).symm | exact is_empty _ | exact (is_empty _).symm), H', ⟨by first | omega | exact Nat.le_refl _⟩, ⟨by (with_reducible repeat (first | apply Kd.R_alloc | apply Kd.R_drewN | apply Kd.R_drew)); exact Kd.R_mono HO204.out (fun _ hk => ⟨hk.1.2, hk.2⟩)⟩, ⟨by (with_reducible repeat (first | apply Kd.R_alloc | apply Kd.R_drewN | apply Kd.R_drew)); exact Kd.R_mono HO210.out (fun _ hk => ⟨hk.1.2, hk.2⟩)⟩, ⟨by (with_reducible repeat (first | apply Kd.R_alloc | apply Kd.R_drewN | apply Kd.R_drew)); exact Kd.R_mono HO215.out (fun _ hk => ⟨hk.1.2, hk.2⟩)⟩, ⟨by (with_reducible repeat (first | refine blk_drewN ?_ _ | refine blk_drew ?_ | refine blk_alloc ?_ _)); exact BK195.out⟩, ⟨by (with_reducible repeat (first | refine blk_drewN ?_ _ | refine blk_drew ?_ | refine blk_alloc ?_ _)); exact BK206.out⟩, ⟨by (with_reducible repeat (first | refine blk_drewN ?_ _ | refine blk_drew ?_ | refine blk_alloc ?_ _)); exact BK211.out⟩, ⟨by (with_reducible repeat (first | refine blk_drewN ?_ _ | refine blk_drew ?_ | refine blk_alloc ?_ _)); exact BK217.out⟩, ⟨by repeat (first | (with_reducible first | exact HB.out | apply below_alloc | apply pw_below_drewN | apply below_drew1 | refine below_set ?_ GE195.out | refine below_set ?_ GE206.out | refine below_set ?_ GE211.out | refine below_set ?_ GE217.out) | exact HB.out)⟩⟩
   ·replace c39 := Bool.eq_false_iff.mpr c39
    subst c39
    have H1 : (laws_FnExactDropTimer.j0 k a1 t205 t216 true a0_0 l0_1 t201 t202 t207 t208 t212 t213) = some r := by rw [if_neg (show ¬ (false = true) by decide)] at H; exact H
    clear H
    have H := H1
    clear H1
    have H' := Aside0.mk H
    clear H
    have hnb48 := NB217_195.out
    have hnc48 := NB195_217.out
    have hnb49 := NB217_206.out
    have hnc49 := NB206_217.out
    have hnb50 := NB217_211.out
    have hnc50 := NB211_217.out
    have hcz51_0 : w32.cell? ⟨gb217, 0, none⟩ = some (.int .i64 0) := (blk_cell BK217.out 0).trans rfl
    have hcz51_1 : w32.cell? ⟨gb217, 1, none⟩ = some (.slice none 0 0) := (blk_cell BK217.out 1).trans rfl
    have hfz51_0 := blk_frozen BK217.out 0
    have hfz51_1 := blk_frozen BK217.out 1
    have hnb52 := NB206_195.out
    have hnc52 := NB195_206.out
    have hnb53 := NB206_211.out
    have hnc53 := NB211_206.out
    have hcz54_0 : w32.cell? ⟨gb206, 0, none⟩ = some (.int .i64 t201) := (blk_cell BK206.out 0).trans rfl
    have hcz54_1 : w32.cell? ⟨gb206, 1, none⟩ = some (.slice Ao23 t202.length co23) := (blk_cell BK206.out 1).trans rfl
    have hfz54_0 := blk_frozen BK206.out 0
    have hfz54_1 := blk_frozen BK206.out 1
    go_wp2_with (first | ((with_reducible refine gate_callee (f := 48) rfl ?_); refine goesL_ (some 38) rfl rfl Try.func48 (by kernel_rfl) rfl #[.agg #[.int .i64 t212, .slice Ao37 t213.length co37], .agg #[.int .i64 t201, .slice Ao23 t202.length co23]] rfl (by (try simp only [List.map_toArray, List.map_cons, List.map_nil]); first | done | rfl | (simp only [List.length_drop, List.length_take]; rfl)) ?_; (with_reducible refine (laws_eqClock.calls k t212 _ _ t213 t201 _ _ t202 false _ ?side1 ?side2 ?side3 ?side4 A38.out).mono ?_); (case side1 => refine (Kd.R_reads' (e := 178) (base := w.heap.size) (ok := fun k_ => (((True ∧ some k_ ≠ (.slice Ao18 t198.length co18 : Value).ownBlock) ∧ some k_ ≠ (.slice Ao23 t202.length co23 : Value).ownBlock) ∧ some k_ ≠ (.slice Ao30 t208.length co30 : Value).ownBlock)) (n := t213.length) (c := co37) ?_).2.2; exact (by (with_reducible repeat (first | apply Kd.R_alloc | apply Kd.R_drewN | apply Kd.R_drew)); exact (Kd.R_mono (Kd.R_far (p := ⟨gb217, 1, none⟩) (Kd.R_far (p := ⟨gb217, 0, none⟩) (Kd.R_types HO215.out BK217.out (by decide)) (fun _ hk => hk.2) (.int .i64 t212)) (fun _ hk => hk.2) (.slice Ao37 t213.length co37)) (fun _ h_ => h_.1)))); (case side2 => exact (Kd.R_reads' HO215.out).2.1); (case side3 => refine (Kd.R_reads' (e := 178) (base := w.heap.size) (ok := fun k_ => (((True ∧ some k_ ≠ (.slice Ao18 t198.length co18 : Value).ownBlock) ∧ some k_ ≠ (.slice Ao30 t208.length co30 : Value).ownBlock) ∧ some k_ ≠ (.slice Ao37 t213.length co37 : Value).ownBlock)) (n := t202.length) (c := co23) ?_).2.2; exact (by (with_reducible repeat (first | apply Kd.R_alloc | apply Kd.R_drewN | apply Kd.R_drew)); exact (Kd.R_mono (Kd.R_far (p := ⟨gb217, 1, none⟩) (Kd.R_far (p := ⟨gb217, 0, none⟩) (Kd.R_types HO204.out BK217.out (by decide)) (fun _ hk => hk.2) (.int .i64 t212)) (fun _ hk => hk.2) (.slice Ao37 t213.length co37)) (fun _ h_ => h_.1)))); (case side4 => exact (Kd.R_reads' HO204.out).2.1); rintro e w55 ⟨rfl, hb⟩; refine ⟨_, rfl, ?_⟩; have n0_ := Aside0.mk (Kd.R_below (by (with_reducible repeat (first | apply Kd.R_alloc | apply Kd.R_drewN | apply Kd.R_drew)); exact (Kd.R_mono (Kd.R_far (p := ⟨gb217, 1, none⟩) (Kd.R_far (p := ⟨gb217, 0, none⟩) (Kd.R_types HO200.out BK217.out (by decide)) (fun _ hk => hk.2) (.int .i64 t212)) (fun _ hk => hk.2) (.slice Ao37 t213.length co37)) (fun _ h_ => h_.1))) hb); have n1_ := Aside0.mk (Kd.R_below (by (with_reducible repeat (first | apply Kd.R_alloc | apply Kd.R_drewN | apply Kd.R_drew)); exact (Kd.R_mono (Kd.R_far (p := ⟨gb217, 1, none⟩) (Kd.R_far (p := ⟨gb217, 0, none⟩) (Kd.R_types HO204.out BK217.out (by decide)) (fun _ hk => hk.2) (.int .i64 t212)) (fun _ hk => hk.2) (.slice Ao37 t213.length co37)) (fun _ h_ => h_.1))) hb); have n2_ := Aside0.mk (Kd.R_below (by (with_reducible repeat (first | apply Kd.R_alloc | apply Kd.R_drewN | apply Kd.R_drew)); exact (Kd.R_mono (Kd.R_far (p := ⟨gb217, 1, none⟩) (Kd.R_far (p := ⟨gb217, 0, none⟩) (Kd.R_types HO210.out BK217.out (by decide)) (fun _ hk => hk.2) (.int .i64 t212)) (fun _ hk => hk.2) (.slice Ao37 t213.length co37)) (fun _ h_ => h_.1))) hb); have n3_ := Aside0.mk (Kd.R_below (by (with_reducible repeat (first | apply Kd.R_alloc | apply Kd.R_drewN | apply Kd.R_drew)); exact (Kd.R_mono (Kd.R_far (p := ⟨gb217, 1, none⟩) (Kd.R_far (p := ⟨gb217, 0, none⟩) (Kd.R_types HO215.out BK217.out (by decide)) (fun _ hk => hk.2) (.int .i64 t212)) (fun _ hk => hk.2) (.slice Ao37 t213.length co37)) (fun _ h_ => h_.1))) hb); have n4_ := Aside0.mk (blk_below (g := gb195) (o := .cells #[.int .i64 a0_0, .slice A0_1 l0_1.length c0_1] 79 (0, 0)) (by (with_reducible repeat (first | refine blk_drewN ?_ _ | refine blk_drew ?_ | refine blk_alloc ?_ _)); refine blk_far ?_ NB195_217.out _; (with_reducible repeat (first | refine blk_drewN ?_ _ | refine blk_drew ?_ | refine blk_alloc ?_ _)); refine blk_far ?_ NB195_217.out _; (with_reducible repeat (first | refine blk_drewN ?_ _ | refine blk_drew ?_ | refine blk_alloc ?_ _)); exact BK195.out) hb); have n5_ := Aside0.mk (blk_below (g := gb206) (o := .cells #[.int .i64 t201, .slice Ao23 t202.length co23] 83 (0, 0)) (by (with_reducible repeat (first | refine blk_drewN ?_ _ | refine blk_drew ?_ | refine blk_alloc ?_ _)); refine blk_far ?_ NB206_217.out _; (with_reducible repeat (first | refine blk_drewN ?_ _ | refine blk_drew ?_ | refine blk_alloc ?_ _)); refine blk_far ?_ NB206_217.out _; (with_reducible repeat (first | refine blk_drewN ?_ _ | refine blk_drew ?_ | refine blk_alloc ?_ _)); exact BK206.out) hb); have n6_ := Aside0.mk (blk_below (g := gb211) (o := .cells #[.int .i64 t207, .slice Ao30 t208.length co30] 83 (0, 0)) (by (with_reducible repeat (first | refine blk_drewN ?_ _ | refine blk_drew ?_ | refine blk_alloc ?_ _)); refine blk_far ?_ NB211_217.out _; (with_reducible repeat (first | refine blk_drewN ?_ _ | refine blk_drew ?_ | refine blk_alloc ?_ _)); refine blk_far ?_ NB211_217.out _; (with_reducible repeat (first | refine blk_drewN ?_ _ | refine blk_drew ?_ | refine blk_alloc ?_ _)); exact BK211.out) hb); have n7_ := Aside0.mk (blk_below (g := gb217) (o := .cells #[.int .i64 t212, .slice Ao37 t213.length co37] 83 (0, 0)) (by (with_reducible repeat (first | refine blk_drewN ?_ _ | refine blk_drew ?_ | refine blk_alloc ?_ _)); refine blk_put (cs := #[.int .i64 t212, .slice none 0 0]) ?_ 1 _ rfl; (with_reducible repeat (first | refine blk_drewN ?_ _ | refine blk_drew ?_ | refine blk_alloc ?_ _)); refine blk_put (cs := #[.int .i64 0, .slice none 0 0]) ?_ 0 _ rfl; (with_reducible repeat (first | refine blk_drewN ?_ _ | refine blk_drew ?_ | refine blk_alloc ?_ _)); exact BK217.out) hb); have n8_ := Aside0.mk (below_step (by repeat (first | (with_reducible first | exact HB.out | apply below_alloc | apply pw_below_drewN | apply below_drew1 | refine below_set ?_ GE195.out | refine below_set ?_ GE206.out | refine below_set ?_ GE211.out | refine below_set ?_ GE217.out) | exact HB.out)) hb); clear HO200; clear HO204; clear HO210; clear HO215; clear BK195; clear BK206; clear BK211; clear BK217; clear HB; have HO200 := n0_; have HO204 := n1_; have HO210 := n2_; have HO215 := n3_; have BK195 := n4_; have BK206 := n5_; have BK211 := n6_; have BK217 := n7_; have HB := n8_; clear n0_ n1_ n2_ n3_ n4_ n5_ n6_ n7_ n8_; (try clear hb); (try clear hb2); (try clear hk); (try clear hi)))
    go_meet
    case rel => exact ⟨_, (true), (by first | rfl | (simp; done) | (simp [*]; done) | exact not_isEmpty _ | exact (not_isEmpty _).symm | exact is_empty _ | exact (is_empty _).symm), H', ⟨by first | omega | exact Nat.le_refl _⟩, ⟨by (with_reducible repeat (first | apply Kd.R_alloc | apply Kd.R_drewN | apply Kd.R_drew)); exact Kd.R_mono HO204.out (fun _ hk => ⟨hk.1.2, hk.2⟩)⟩, ⟨by (with_reducible repeat (first | apply Kd.R_alloc | apply Kd.R_drewN | apply Kd.R_drew)); exact Kd.R_mono HO210.out (fun _ hk => ⟨hk.1.2, hk.2⟩)⟩, ⟨by (with_reducible repeat (first | apply Kd.R_alloc | apply Kd.R_drewN | apply Kd.R_drew)); exact Kd.R_mono HO215.out (fun _ hk => ⟨hk.1.2, hk.2⟩)⟩, ⟨by (with_reducible repeat (first | refine blk_drewN ?_ _ | refine blk_drew ?_ | refine blk_alloc ?_ _)); exact BK195.out⟩, ⟨by (with_reducible repeat (first | refine blk_drewN ?_ _ | refine blk_drew ?_ | refine blk_alloc ?_ _)); exact BK206.out⟩, ⟨by (with_reducible repeat (first | refine blk_drewN ?_ _ | refine blk_drew ?_ | refine blk_alloc ?_ _)); exact BK211.out⟩, ⟨by (with_reducible repeat (first | refine blk_drewN ?_ _ | refine blk_drew ?_ | refine blk_alloc ?_ _)); exact BK217.out⟩, ⟨by repeat (first | (with_reducible first | exact HB.out | apply below_alloc | apply pw_below_drewN | apply below_drew1 | refine below_set ?_ GE195.out | refine below_set ?_ GE206.out | refine below_set ?_ GE211.out | refine below_set ?_ GE217.out) | exact HB.out)⟩⟩
  case rest =>
   clear HC12
   try clear c2
   try clear p2
   try clear c3
   try clear c4
   try clear c4b0
   try clear c5
   try clear c7
   try clear c21
   try clear c27
   try clear c28
   try clear c33
   try clear c34
   try clear c35
   try clear c39
   try clear c40
   try clear c41
   try clear c42
   try clear c44
   try clear c45
   try clear c46
   try clear c47
   try clear c48
   try clear c49
   try clear c50
   try clear c52
   try clear c53
   try clear hcz14_0
   try clear hcz14_1
   try clear hcz16_0
   try clear hcz16_1
   try clear hcz22_0
   try clear hcz22_1
   try clear hcz24_0
   try clear hcz24_1
   try clear hcz29_0
   try clear hcz29_1
   try clear hcz36_0
   try clear hcz36_1
   try clear hcz43_0
   try clear hcz43_1
   try clear hcz46_0
   try clear hcz46_1
   try clear hcz51_0
   try clear hcz51_1
   try clear hcz54_0
   try clear hcz54_1
   try clear hcz6_0
   try clear hcz6_1
   try clear hfz14_0
   try clear hfz14_1
   try clear hfz16_0
   try clear hfz16_1
   try clear hfz22_0
   try clear hfz22_1
   try clear hfz24_0
   try clear hfz24_1
   try clear hfz29_0
   try clear hfz29_1
   try clear hfz36_0
   try clear hfz36_1
   try clear hfz43_0
   try clear hfz43_1
   try clear hfz46_0
   try clear hfz46_1
   try clear hfz51_0
   try clear hfz51_1
   try clear hfz54_0
   try clear hfz54_1
   try clear hfz6_0
   try clear hfz6_1
   obtain ⟨kq, x44_11, rfl, HA, HJ11, HO_207001, HO_212001, HO_218001, BK195, BK206, BK211, BK217, HB⟩ := hcut
   cases kq with
   | zero => exact absurd HA.out (by simp [laws_FnExactDropTimer.j0])
   | succ kj11 =>
    have H := HA.out
    clear HA
    simp only [laws_FnExactDropTimer.j0] at H
    by_cases c56 : x44_11 = true
    ·subst c56
     have H1 : (some false) = some r := by rw [if_pos rfl] at H; exact H
     clear H
     have H := H1
     clear H1
     obtain rfl := Option.some.inj H
     go_wp2
     go_ret
     exact ⟨by first | rfl | (simp [errW_none, errW_some] <;> rfl) | (simp [*, errW_none, errW_some] <;> rfl), by repeat (first | (with_reducible first | exact HB.out | apply below_alloc | apply pw_below_drewN | apply below_drew1 | refine below_set ?_ GE195.out | refine below_set ?_ GE206.out | refine below_set ?_ GE211.out | refine below_set ?_ GE217.out) | exact HB.out)⟩
    ·replace c56 := Bool.eq_false_iff.mpr c56
     subst c56
     have H1 : ((laws_toClock.f kj11 a0_0 l0_1).bind fun bt219 => ((laws_eqClock.f kj11 t207 t208 bt219.1 bt219.2).bind fun t223 => (if t223 = true then ((laws_markClock.f kj11 t207 t208 1).bind fun bt224 => (if bt224.1 < 0 then (laws_FnExactDropTimer.j1 kj11 a1 t205 true a0_0 l0_1 t201 t202 t212 t213) else ((laws_eqClock.f kj11 t212 t213 t201 t202).bind fun t226 => (if t226 = true then (laws_FnExactDropTimer.j1 kj11 a1 t205 (t216 != t205) a0_0 l0_1 t201 t202 t212 t213) else (laws_FnExactDropTimer.j1 kj11 a1 t205 true a0_0 l0_1 t201 t202 t212 t213))))) else (some false)))) = some r := by rw [if_neg (show ¬ (false = true) by decide)] at H; exact H
     clear H
     have H := H1
     clear H1
     replace H := Option.bind_eq_some_iff.mp H
     obtain ⟨⟨t219, t220⟩, A570, H⟩ := H
     replace H : ((laws_eqClock.f kj11 t207 t208 t219 t220).bind fun t223 => (if t223 = true then ((laws_markClock.f kj11 t207 t208 1).bind fun bt224 => (if bt224.1 < 0 then (laws_FnExactDropTimer.j1 kj11 a1 t205 true a0_0 l0_1 t201 t202 t212 t213) else ((laws_eqClock.f kj11 t212 t213 t201 t202).bind fun t226 => (if t226 = true then (laws_FnExactDropTimer.j1 kj11 a1 t205 (t216 != t205) a0_0 l0_1 t201 t202 t212 t213) else (laws_FnExactDropTimer.j1 kj11 a1 t205 true a0_0 l0_1 t201 t202 t212 t213))))) else (some false))) = some r := H
     have A57 := Aside0.mk A570
     clear A570
     replace H := Option.bind_eq_some_iff.mp H
     obtain ⟨t223, A580, H⟩ := H
     replace H : (if t223 = true then ((laws_markClock.f kj11 t207 t208 1).bind fun bt224 => (if bt224.1 < 0 then (laws_FnExactDropTimer.j1 kj11 a1 t205 true a0_0 l0_1 t201 t202 t212 t213) else ((laws_eqClock.f kj11 t212 t213 t201 t202).bind fun t226 => (if t226 = true then (laws_FnExactDropTimer.j1 kj11 a1 t205 (t216 != t205) a0_0 l0_1 t201 t202 t212 t213) else (laws_FnExactDropTimer.j1 kj11 a1 t205 true a0_0 l0_1 t201 t202 t212 t213))))) else (some false)) = some r := H
     have A58 := Aside0.mk A580
     clear A580
     by_cases c59 : t223 = true
     ·subst c59
      have H1 : ((laws_markClock.f kj11 t207 t208 1).bind fun bt224 => (if bt224.1 < 0 then (laws_FnExactDropTimer.j1 kj11 a1 t205 true a0_0 l0_1 t201 t202 t212 t213) else ((laws_eqClock.f kj11 t212 t213 t201 t202).bind fun t226 => (if t226 = true then (laws_FnExactDropTimer.j1 kj11 a1 t205 (t216 != t205) a0_0 l0_1 t201 t202 t212 t213) else (laws_FnExactDropTimer.j1 kj11 a1 t205 true a0_0 l0_1 t201 t202 t212 t213))))) = some r := by rw [if_pos rfl] at H; exact H
      clear H
      have H := H1
      clear H1
      replace H := Option.bind_eq_some_iff.mp H
      obtain ⟨⟨t224, t225⟩, A600, H⟩ := H
      replace H : (if t224 < 0 then (laws_FnExactDropTimer.j1 kj11 a1 t205 true a0_0 l0_1 t201 t202 t212 t213) else ((laws_eqClock.f kj11 t212 t213 t201 t202).bind fun t226 => (if t226 = true then (laws_FnExactDropTimer.j1 kj11 a1 t205 (t216 != t205) a0_0 l0_1 t201 t202 t212 t213) else (laws_FnExactDropTimer.j1 kj11 a1 t205 true a0_0 l0_1 t201 t202 t212 t213)))) = some r := H
      have A60 := Aside0.mk A600
      clear A600
      have HC61 := Aside0.mk H
      clear H
      try go_wp2
      have n0_ := Aside0.mk (Kd.R_drew HO_207001.out)
      have n1_ := Aside0.mk (Kd.R_drew HO_212001.out)
      have n2_ := Aside0.mk (Kd.R_drew HO_218001.out)
      have n3_ := Aside0.mk (blk_drew BK195.out)
      have n4_ := Aside0.mk (blk_drew BK206.out)
      have n5_ := Aside0.mk (blk_drew BK211.out)
      have n6_ := Aside0.mk (blk_drew BK217.out)
      have n7_ := Aside0.mk (below_drew1 HB.out)
      clear HO_207001
      clear HO_212001
      clear HO_218001
      clear BK195
      clear BK206
      clear BK211
      clear BK217
      clear HB
      have HO_207001 := n0_
      have HO_212001 := n1_
      have HO_218001 := n2_
      have BK195 := n3_
      have BK206 := n4_
      have BK211 := n5_
      have BK217 := n6_
      have HB := n7_
      clear n0_ n1_ n2_ n3_ n4_ n5_ n6_ n7_
      refine start_ (n := 5) (S := fun w' => w'.cell? ⟨gb211, 0, none⟩ = some (.int .i64 t207) ∧ w'.cell? ⟨gb211, 1, none⟩ = some (.slice Ao30 t208.length co30) ∧ w'.cell? ⟨gb195, 0, none⟩ = some (.int .i64 a0_0) ∧ w'.cell? ⟨gb195, 1, none⟩ = some (.slice A0_1 l0_1.length c0_1)) (ds := []) #[false, false, false, false, false] (by kernel_rfl) rfl rfl ⟨(blk_cell BK211.out 0).trans rfl, (blk_cell BK211.out 1).trans rfl, (blk_cell BK195.out 0).trans rfl, (blk_cell BK195.out 1).trans rfl⟩ (fun hHeld => ?_)
      generalize wc.drew = w62 at HO_207001 HO_212001 HO_218001 BK195 BK206 BK211 BK217 HB hHeld ⊢
      refine take_ (i := 0) (N := some 45) (v := ?_) (a' := ?_) (bz 5 1) rfl rfl (by kernel_rfl) (fun _ _ _ h => h) (Or.inl ⟨by rfl, ?_⟩) hHeld ?_ ?_
      rotate_left
      ·rintro w' ⟨s0, s1, s2, s3⟩
       go_simp
       with_reducible rfl
      rotate_left
      ·simp only [Act.put, List.setIfInBounds_toArray, List.set_cons_zero, List.set_cons_succ, i64_w, i32_w]
       rfl
      refine take_ (i := 1) (N := some 46) (v := ?_) (a' := ?_) (bz 5 3) rfl rfl (by kernel_rfl) (fun _ _ _ h => h) (Or.inl ⟨by rfl, ?_⟩) hHeld ?_ ?_
      rotate_left
      ·rintro w' ⟨s0, s1, s2, s3⟩
       go_simp
       with_reducible rfl
      rotate_left
      ·simp only [Act.put, List.setIfInBounds_toArray, List.set_cons_zero, List.set_cons_succ, i64_w, i32_w]
       rfl
      refine one_ (i := 2) (N := some 47) (bz 5 7) rfl rfl (by kernel_rfl) (by decide) (fun K hK => ?_)
      refine goes_ Try.func46 (by kernel_rfl) rfl #[.agg #[.int .i64 a0_0, .slice A0_1 l0_1.length c0_1]] (by rfl) rfl rfl (by (try simp only [List.map_toArray, List.map_cons, List.map_nil]); first | done | rfl | (simp only [List.length_drop, List.length_take]; rfl)) ?_
      with_reducible refine (laws_toClock.calls kj11 a0_0 _ _ l0_1 t219 t220 _ ?side1 ?side2 A57.out).mono ?_
      (case side1 => repeat (first | exact (Kd.C_below HR0_1.out HB.out) | (with_reducible refine Kd.C_alloc ?_ _) | (with_reducible refine Kd.C_drewN ?_ _) | (with_reducible refine Kd.C_drew ?_)))
      (case side2 => exact HC0_1.out)
      rintro e w63 ⟨v221, rfl, ho0, hb⟩
      refine ⟨_, rfl, ?_⟩
      have n0_ := Aside0.mk (Kd.R_elder' (by (with_reducible repeat (first | apply Kd.R_alloc | apply Kd.R_drewN | apply Kd.R_drew)); exact HO_207001.out) (Kd.R_base ho0) hb)
      have n1_ := Aside0.mk (Kd.R_elder' (by (with_reducible repeat (first | apply Kd.R_alloc | apply Kd.R_drewN | apply Kd.R_drew)); exact HO_212001.out) (Kd.R_base ho0) hb)
      have n2_ := Aside0.mk (Kd.R_elder' (by (with_reducible repeat (first | apply Kd.R_alloc | apply Kd.R_drewN | apply Kd.R_drew)); exact HO_218001.out) (Kd.R_base ho0) hb)
      have n3_ := Aside0.mk (Kd.R_lower (Kd.R_new' (Kd.R_new' (Kd.R_new' ho0 (Kd.R_lt (by (with_reducible repeat (first | apply Kd.R_alloc | apply Kd.R_drewN | apply Kd.R_drew)); exact HO_207001.out))) (Kd.R_lt (by (with_reducible repeat (first | apply Kd.R_alloc | apply Kd.R_drewN | apply Kd.R_drew)); exact HO_212001.out))) (Kd.R_lt (by (with_reducible repeat (first | apply Kd.R_alloc | apply Kd.R_drewN | apply Kd.R_drew)); exact HO_218001.out))) (below_size (by repeat (first | (with_reducible first | exact HB.out | apply below_alloc | apply pw_below_drewN | apply below_drew1 | refine below_set ?_ GE195.out | refine below_set ?_ GE206.out | refine below_set ?_ GE211.out | refine below_set ?_ GE217.out) | exact HB.out))))
      have n4_ := Aside0.mk (blk_below (g := gb195) (o := .cells #[.int .i64 a0_0, .slice A0_1 l0_1.length c0_1] 79 (0, 0)) (by (with_reducible repeat (first | refine blk_drewN ?_ _ | refine blk_drew ?_ | refine blk_alloc ?_ _)); exact BK195.out) hb)
      have n5_ := Aside0.mk (blk_below (g := gb206) (o := .cells #[.int .i64 t201, .slice Ao23 t202.length co23] 83 (0, 0)) (by (with_reducible repeat (first | refine blk_drewN ?_ _ | refine blk_drew ?_ | refine blk_alloc ?_ _)); exact BK206.out) hb)
      have n6_ := Aside0.mk (blk_below (g := gb211) (o := .cells #[.int .i64 t207, .slice Ao30 t208.length co30] 83 (0, 0)) (by (with_reducible repeat (first | refine blk_drewN ?_ _ | refine blk_drew ?_ | refine blk_alloc ?_ _)); exact BK211.out) hb)
      have n7_ := Aside0.mk (blk_below (g := gb217) (o := .cells #[.int .i64 t212, .slice Ao37 t213.length co37] 83 (0, 0)) (by (with_reducible repeat (first | refine blk_drewN ?_ _ | refine blk_drew ?_ | refine blk_alloc ?_ _)); exact BK217.out) hb)
      have n8_ := Aside0.mk (below_step (by repeat (first | (with_reducible first | exact HB.out | apply below_alloc | apply pw_below_drewN | apply below_drew1 | refine below_set ?_ GE195.out | refine below_set ?_ GE206.out | refine below_set ?_ GE211.out | refine below_set ?_ GE217.out) | exact HB.out)) hb)
      clear HO_207001
      clear HO_212001
      clear HO_218001
      clear BK195
      clear BK206
      clear BK211
      clear BK217
      clear HB
      have HO_207001 := n0_
      have HO_212001 := n1_
      have HO_218001 := n2_
      have HO222 := n3_
      have BK195 := n4_
      have BK206 := n5_
      have BK211 := n6_
      have BK217 := n7_
      have HB := n8_
      clear n0_ n1_ n2_ n3_ n4_ n5_ n6_ n7_ n8_
      (try clear hb)
      (try clear hb2)
      (try clear hk)
      (try clear hi)
      (try clear ho0)
      obtain ⟨Ao64, co64, eo64⟩ := Kd.R_slice HO222.out
      (first | subst eo64 | (injection eo64 with f1_ f2_ f3_; have f4_ := f1_.symm; have f5_ := f3_.symm; clear f1_ f2_ f3_; subst f4_; subst f5_))
      refine hK.out _ _ ⟨(blk_cell BK211.out 0).trans rfl, (blk_cell BK211.out 1).trans rfl, (blk_cell BK195.out 0).trans rfl, (blk_cell BK195.out 1).trans rfl⟩ (fun hHeld => ?_)
      clear hK K
      refine norm_ (a' := ?_) ?_ ?_
      rotate_left
      ·show Act.put _ (some 47) _ = _
       simp only [Act.put, List.setIfInBounds_toArray, List.set_cons_zero, List.set_cons_succ, i64_w, i32_w]
       rfl
      refine one_ (i := 3) (N := some 48) (bz 5 15) rfl rfl (by kernel_rfl) (by decide) (fun K hK => ?_)
      refine goes_ Try.func48 (by kernel_rfl) rfl #[.agg #[.int .i64 t207, .slice Ao30 t208.length co30], .agg #[.int .i64 t219, .slice Ao64 t220.length co64]] (by rfl) rfl rfl (by (try simp only [List.map_toArray, List.map_cons, List.map_nil]); first | done | rfl | (simp only [List.length_drop, List.length_take]; rfl)) ?_
      with_reducible refine (laws_eqClock.calls kj11 t207 _ _ t208 t219 _ _ t220 true _ ?side1 ?side2 ?side3 ?side4 A58.out).mono ?_
      (case side1 => repeat (first | exact (Kd.R_reads' HO_212001.out).2.2 | (with_reducible refine Kd.C_alloc ?_ _) | (with_reducible refine Kd.C_drewN ?_ _) | (with_reducible refine Kd.C_drew ?_)))
      (case side2 => exact (Kd.R_reads' HO_212001.out).2.1)
      (case side3 => repeat (first | exact (Kd.R_reads' HO222.out).2.2 | (with_reducible refine Kd.C_alloc ?_ _) | (with_reducible refine Kd.C_drewN ?_ _) | (with_reducible refine Kd.C_drew ?_)))
      (case side4 => exact (Kd.R_reads' HO222.out).2.1)
      rintro e w65 ⟨rfl, hb⟩
      refine ⟨_, rfl, ?_⟩
      have n0_ := Aside0.mk (Kd.R_below (by (with_reducible repeat (first | apply Kd.R_alloc | apply Kd.R_drewN | apply Kd.R_drew)); exact HO_207001.out) hb)
      have n1_ := Aside0.mk (Kd.R_below (by (with_reducible repeat (first | apply Kd.R_alloc | apply Kd.R_drewN | apply Kd.R_drew)); exact HO_212001.out) hb)
      have n2_ := Aside0.mk (Kd.R_below (by (with_reducible repeat (first | apply Kd.R_alloc | apply Kd.R_drewN | apply Kd.R_drew)); exact HO_218001.out) hb)
      have n3_ := Aside0.mk (Kd.R_below (by (with_reducible repeat (first | apply Kd.R_alloc | apply Kd.R_drewN | apply Kd.R_drew)); exact HO222.out) hb)
      have n4_ := Aside0.mk (blk_below (g := gb195) (o := .cells #[.int .i64 a0_0, .slice A0_1 l0_1.length c0_1] 79 (0, 0)) (by (with_reducible repeat (first | refine blk_drewN ?_ _ | refine blk_drew ?_ | refine blk_alloc ?_ _)); exact BK195.out) hb)
      have n5_ := Aside0.mk (blk_below (g := gb206) (o := .cells #[.int .i64 t201, .slice Ao23 t202.length co23] 83 (0, 0)) (by (with_reducible repeat (first | refine blk_drewN ?_ _ | refine blk_drew ?_ | refine blk_alloc ?_ _)); exact BK206.out) hb)
      have n6_ := Aside0.mk (blk_below (g := gb211) (o := .cells #[.int .i64 t207, .slice Ao30 t208.length co30] 83 (0, 0)) (by (with_reducible repeat (first | refine blk_drewN ?_ _ | refine blk_drew ?_ | refine blk_alloc ?_ _)); exact BK211.out) hb)
      have n7_ := Aside0.mk (blk_below (g := gb217) (o := .cells #[.int .i64 t212, .slice Ao37 t213.length co37] 83 (0, 0)) (by (with_reducible repeat (first | refine blk_drewN ?_ _ | refine blk_drew ?_ | refine blk_alloc ?_ _)); exact BK217.out) hb)
      have n8_ := Aside0.mk (below_step (by repeat (first | (with_reducible first | exact HB.out | apply below_alloc | apply pw_below_drewN | apply below_drew1 | refine below_set ?_ GE195.out | refine below_set ?_ GE206.out | refine below_set ?_ GE211.out | refine below_set ?_ GE217.out) | exact HB.out)) hb)
      clear HO_207001
      clear HO_212001
      clear HO_218001
      clear HO222
      clear BK195
      clear BK206
      clear BK211
      clear BK217
      clear HB
      have HO_207001 := n0_
      have HO_212001 := n1_
      have HO_218001 := n2_
      have HO222 := n3_
      have BK195 := n4_
      have BK206 := n5_
      have BK211 := n6_
      have BK217 := n7_
      have HB := n8_
      clear n0_ n1_ n2_ n3_ n4_ n5_ n6_ n7_ n8_
      (try clear hb)
      (try clear hb2)
      (try clear hk)
      (try clear hi)
      refine hK.out _ _ ⟨(blk_cell BK211.out 0).trans rfl, (blk_cell BK211.out 1).trans rfl, (blk_cell BK195.out 0).trans rfl, (blk_cell BK195.out 1).trans rfl⟩ (fun hHeld => ?_)
      clear hK K
      refine norm_ (a' := ?_) ?_ ?_
      rotate_left
      ·show Act.put _ (some 48) _ = _
       simp only [Act.put, List.setIfInBounds_toArray, List.set_cons_zero, List.set_cons_succ, i64_w, i32_w]
       rfl
      refine pure_ (i := 4) (N := some 49) (v := ?_) (a' := ?_) (bz 5 31) rfl rfl (by kernel_rfl) (fun _ _ _ h => h) (Or.inl ⟨by rfl, ?_⟩) ?_ ?_
      rotate_left
      ·intro w'
       go_simp
       with_reducible rfl
      rotate_left
      ·simp only [Act.put, List.setIfInBounds_toArray, List.set_cons_zero, List.set_cons_succ, i64_w, i32_w]
       rfl
      refine done_ (by kernel_rfl) ?_
      have hnb66 := NB211_195.out
      have hnc66 := NB195_211.out
      have hnb67 := NB211_206.out
      have hnc67 := NB206_211.out
      have hnb68 := NB211_217.out
      have hnc68 := NB217_211.out
      have hcz69_0 : w65.cell? ⟨gb211, 0, none⟩ = some (.int .i64 t207) := (blk_cell BK211.out 0).trans rfl
      have hcz69_1 : w65.cell? ⟨gb211, 1, none⟩ = some (.slice Ao30 t208.length co30) := (blk_cell BK211.out 1).trans rfl
      have hfz69_0 := blk_frozen BK211.out 0
      have hfz69_1 := blk_frozen BK211.out 1
      go_upto_region 14 with (first | ((with_reducible refine gate_callee (f := 49) rfl ?_); refine goesL_ (some 52) rfl rfl Try.func49 (by kernel_rfl) rfl #[.agg #[.int .i64 t207, .slice Ao30 t208.length co30], .int .i64 1] rfl (by (try simp only [List.map_toArray, List.map_cons, List.map_nil]); first | done | rfl | (simp only [List.length_drop, List.length_take]; rfl)) ?_; (with_reducible refine (laws_markClock.calls kj11 t207 (fun k_ => some k_ = (.slice Ao30 t208.length co30 : Value).ownBlock) (.slice Ao30 t208.length co30) t208 1 t224 t225 w _ ?side1 ?side2 A60.out).mono ?_); (case side1 => repeat (first | (with_reducible first | exact HB.out | apply below_alloc | apply pw_below_drewN | apply below_drew1 | refine below_set ?_ GE195.out | refine below_set ?_ GE206.out | refine below_set ?_ GE211.out | refine below_set ?_ GE217.out) | exact HB.out)); (case side2 => exact Kd.R_tight rfl HO_212001.out); rintro e w70 ⟨rfl, hy0, hb, hkp⟩; refine ⟨_, rfl, ?_⟩; have n0_ := Aside0.mk (Kd.R_mono (ok' := fun k_ => some k_ ≠ (.slice Ao30 t208.length co30 : Value).ownBlock ∧ some k_ ≠ (.slice Ao37 t213.length co37 : Value).ownBlock ∧ some k_ ≠ (.slice Ao64 t220.length co64 : Value).ownBlock) (Kd.R_keptB (HO_207001.out) hkp (fun k_ hk_ hs_ => (hk_.1.1) hs_)) (fun k_ hk_ => ⟨hk_.1.1.1, hk_.1.1.2, hk_.1.2⟩)); have n1_ := Aside0.mk (Kd.R_reok rfl hy0 (fun k_ e_ => HO_212001.out.1 k_ e_)); have n2_ := Aside0.mk (Kd.R_mono (ok' := fun k_ => some k_ ≠ (.slice Ao23 t202.length co23 : Value).ownBlock ∧ some k_ ≠ (.slice Ao30 t208.length co30 : Value).ownBlock ∧ some k_ ≠ (.slice Ao64 t220.length co64 : Value).ownBlock) (Kd.R_keptB (HO_218001.out) hkp (fun k_ hk_ hs_ => (hk_.1.2) hs_)) (fun k_ hk_ => ⟨hk_.1.1.1, hk_.1.1.2, hk_.1.2⟩)); have n3_ := Aside0.mk (blk_kept (by (with_reducible repeat (first | refine blk_drewN ?_ _ | refine blk_drew ?_ | refine blk_alloc ?_ _)); exact BK195.out) hkp (fun hs_ => (fun e_ => (Kd.R_ne HO_212001.out BK195.out (by decide)) e_) hs_)); have n4_ := Aside0.mk (blk_kept (by (with_reducible repeat (first | refine blk_drewN ?_ _ | refine blk_drew ?_ | refine blk_alloc ?_ _)); exact BK206.out) hkp (fun hs_ => (fun e_ => (Kd.R_ne HO_212001.out BK206.out (by decide)) e_) hs_)); have n5_ := Aside0.mk (blk_kept (by (with_reducible repeat (first | refine blk_drewN ?_ _ | refine blk_drew ?_ | refine blk_alloc ?_ _)); exact BK211.out) hkp (fun hs_ => (fun e_ => (Kd.R_ne HO_212001.out BK211.out (by decide)) e_) hs_)); have n6_ := Aside0.mk (blk_kept (by (with_reducible repeat (first | refine blk_drewN ?_ _ | refine blk_drew ?_ | refine blk_alloc ?_ _)); exact BK217.out) hkp (fun hs_ => (fun e_ => (Kd.R_ne HO_212001.out BK217.out (by decide)) e_) hs_)); have n7_ := Aside0.mk (Kd.R_mono (ok' := fun k_ => some k_ ≠ (.slice Ao23 t202.length co23 : Value).ownBlock ∧ some k_ ≠ (.slice Ao30 t208.length co30 : Value).ownBlock ∧ some k_ ≠ (.slice Ao37 t213.length co37 : Value).ownBlock) (Kd.R_keptB (HO222.out) hkp (fun k_ hk_ hs_ => (hk_.1.2) hs_)) (fun k_ hk_ => ⟨hk_.1.1.1.2, hk_.1.1.2, hk_.1.2⟩)); have n8_ := Aside0.mk (hb); clear HO_207001; clear HO_212001; clear HO_218001; clear BK195; clear BK206; clear BK211; clear BK217; clear HO222; clear HB; have HO_207001 := n0_; have HO_212001 := n1_; have HO_218001 := n2_; have BK195 := n3_; have BK206 := n4_; have BK211 := n5_; have BK217 := n6_; have HO222 := n7_; have HB := n8_; clear n0_ n1_ n2_ n3_ n4_ n5_ n6_ n7_ n8_; (try clear hb); (try clear hkp); (try clear hy0)))
      (try simp only [Act.put, List.setIfInBounds_toArray, List.set_cons_zero, List.set_cons_succ])
      go_cut [65] (fun v65 wc => ∃ (kq : Nat) (x65_60 : Bool), v65 = .bool x65_60 ∧ Aside0 (laws_FnExactDropTimer.j1 kq a1 t205 x65_60 a0_0 l0_1 t201 t202 t212 t213 = some r) ∧ Aside0 (kq ≤ kj11) ∧ Aside0 (Kd.R k178 178 wc w.heap.size (fun k_ => some k_ ≠ ((.slice Ao30 t208.length co30) : Value).ownBlock ∧ some k_ ≠ ((.slice Ao37 t213.length co37) : Value).ownBlock) (.slice Ao23 t202.length co23) t202) ∧ Aside0 (Kd.R k178 178 wc w.heap.size (fun k_ => some k_ ≠ ((.slice Ao23 t202.length co23) : Value).ownBlock ∧ some k_ ≠ ((.slice Ao37 t213.length co37) : Value).ownBlock) (.slice Ao30 t208.length co30) t225) ∧ Aside0 (Kd.R k178 178 wc w.heap.size (fun k_ => some k_ ≠ ((.slice Ao23 t202.length co23) : Value).ownBlock ∧ some k_ ≠ ((.slice Ao30 t208.length co30) : Value).ownBlock) (.slice Ao37 t213.length co37) t213) ∧ Aside0 (wc.heap[gb195]? = some (.cells #[.int .i64 a0_0, (.slice A0_1 l0_1.length c0_1)] 79 (0, 0))) ∧ Aside0 (wc.heap[gb206]? = some (.cells #[.int .i64 t201, (.slice Ao23 t202.length co23)] 83 (0, 0))) ∧ Aside0 (wc.heap[gb211]? = some (.cells #[.int .i64 t207, (.slice Ao30 t208.length co30)] 83 (0, 0))) ∧ Aside0 (wc.heap[gb217]? = some (.cells #[.int .i64 t212, (.slice Ao37 t213.length co37)] 83 (0, 0))) ∧ Aside0 (Below w.heap.size w wc))
      case first =>
       have H := HC61.out
       clear HC61
       by_cases c71 : t224 < 0
       ·rw [if_pos c71] at H
        have c71b0 : decide (t224 < 0) = true := decide_eq_true c71
        clear c71
        (first | rw [c71b0] | (simp only [i64_w, i32_w]; rw [c71b0]) | skip)
        have H' := Aside0.mk H
        clear H
        go_wp2
        go_meet
        case rel => exact ⟨_, (true), (by first | rfl | (simp; done) | (simp [*]; done) | exact not_isEmpty _ | exact (not_isEmpty _).symm | exact is_empty _ | exact (is_empty _).symm), H', ⟨by have := HJ11.out; first | omega | exact Nat.le_refl _⟩, ⟨by (with_reducible repeat (first | apply Kd.R_alloc | apply Kd.R_drewN | apply Kd.R_drew)); exact Kd.R_mono HO_207001.out (fun _ hk => ⟨hk.1, hk.2.1⟩)⟩, ⟨by (with_reducible repeat (first | apply Kd.R_alloc | apply Kd.R_drewN | apply Kd.R_drew)); exact Kd.R_mono HO_212001.out (fun _ hk => ⟨hk.1.1, hk.1.2⟩)⟩, ⟨by (with_reducible repeat (first | apply Kd.R_alloc | apply Kd.R_drewN | apply Kd.R_drew)); exact Kd.R_mono HO_218001.out (fun _ hk => ⟨hk.1, hk.2.1⟩)⟩, ⟨by (with_reducible repeat (first | refine blk_drewN ?_ _ | refine blk_drew ?_ | refine blk_alloc ?_ _)); exact BK195.out⟩, ⟨by (with_reducible repeat (first | refine blk_drewN ?_ _ | refine blk_drew ?_ | refine blk_alloc ?_ _)); exact BK206.out⟩, ⟨by (with_reducible repeat (first | refine blk_drewN ?_ _ | refine blk_drew ?_ | refine blk_alloc ?_ _)); exact BK211.out⟩, ⟨by (with_reducible repeat (first | refine blk_drewN ?_ _ | refine blk_drew ?_ | refine blk_alloc ?_ _)); exact BK217.out⟩, ⟨by repeat (first | (with_reducible first | exact HB.out | apply below_alloc | apply pw_below_drewN | apply below_drew1 | refine below_set ?_ GE195.out | refine below_set ?_ GE206.out | refine below_set ?_ GE211.out | refine below_set ?_ GE217.out) | exact HB.out)⟩⟩
       ·rw [if_neg c71] at H
        have c71b0 : decide (t224 < 0) = false := decide_eq_false c71
        clear c71
        (first | rw [c71b0] | (simp only [i64_w, i32_w]; rw [c71b0]) | skip)
        replace H := Option.bind_eq_some_iff.mp H
        obtain ⟨t226, A720, H⟩ := H
        replace H : (if t226 = true then (laws_FnExactDropTimer.j1 kj11 a1 t205 (t216 != t205) a0_0 l0_1 t201 t202 t212 t213) else (laws_FnExactDropTimer.j1 kj11 a1 t205 true a0_0 l0_1 t201 t202 t212 t213)) = some r := H
        have A72 := Aside0.mk A720
        clear A720
        by_cases c73 : t226 = true
        ·subst c73
         have H1 : (laws_FnExactDropTimer.j1 kj11 a1 t205 (t216 != t205) a0_0 l0_1 t201 t202 t212 t213) = some r := by rw [if_pos rfl] at H; exact H
         clear H
         have H := H1
         clear H1
         have H' := Aside0.mk H
         clear H
         have hnb74 := NB217_195.out
         have hnc74 := NB195_217.out
         have hnb75 := NB217_206.out
         have hnc75 := NB206_217.out
         have hnb76 := NB217_211.out
         have hnc76 := NB211_217.out
         have hcz77_0 : w70.cell? ⟨gb217, 0, none⟩ = some (.int .i64 t212) := (blk_cell BK217.out 0).trans rfl
         have hcz77_1 : w70.cell? ⟨gb217, 1, none⟩ = some (.slice Ao37 t213.length co37) := (blk_cell BK217.out 1).trans rfl
         have hfz77_0 := blk_frozen BK217.out 0
         have hfz77_1 := blk_frozen BK217.out 1
         have hnb78 := NB206_195.out
         have hnc78 := NB195_206.out
         have hnb79 := NB206_211.out
         have hnc79 := NB211_206.out
         have hcz80_0 : w70.cell? ⟨gb206, 0, none⟩ = some (.int .i64 t201) := (blk_cell BK206.out 0).trans rfl
         have hcz80_1 : w70.cell? ⟨gb206, 1, none⟩ = some (.slice Ao23 t202.length co23) := (blk_cell BK206.out 1).trans rfl
         have hfz80_0 := blk_frozen BK206.out 0
         have hfz80_1 := blk_frozen BK206.out 1
         go_wp2_with (first | (go_at_call 48; (with_reducible refine (laws_eqClock.calls kj11 t212 _ _ t213 t201 _ _ t202 true _ ?side1 ?side2 ?side3 ?side4 A72.out).mono ?_); (case side1 => repeat (first | exact (Kd.R_reads' HO_218001.out).2.2 | (with_reducible refine Kd.C_alloc ?_ _) | (with_reducible refine Kd.C_drewN ?_ _) | (with_reducible refine Kd.C_drew ?_))); (case side2 => exact (Kd.R_reads' HO_218001.out).2.1); (case side3 => repeat (first | exact (Kd.R_reads' HO_207001.out).2.2 | (with_reducible refine Kd.C_alloc ?_ _) | (with_reducible refine Kd.C_drewN ?_ _) | (with_reducible refine Kd.C_drew ?_))); (case side4 => exact (Kd.R_reads' HO_207001.out).2.1); rintro e w81 ⟨rfl, hb⟩; have n0_ := Aside0.mk (Kd.R_below (by (with_reducible repeat (first | apply Kd.R_alloc | apply Kd.R_drewN | apply Kd.R_drew)); exact HO_207001.out) hb); have n1_ := Aside0.mk (Kd.R_below (by (with_reducible repeat (first | apply Kd.R_alloc | apply Kd.R_drewN | apply Kd.R_drew)); exact HO_212001.out) hb); have n2_ := Aside0.mk (Kd.R_below (by (with_reducible repeat (first | apply Kd.R_alloc | apply Kd.R_drewN | apply Kd.R_drew)); exact HO_218001.out) hb); have n3_ := Aside0.mk (Kd.R_below (by (with_reducible repeat (first | apply Kd.R_alloc | apply Kd.R_drewN | apply Kd.R_drew)); exact HO222.out) hb); have n4_ := Aside0.mk (blk_below (g := gb195) (o := .cells #[.int .i64 a0_0, .slice A0_1 l0_1.length c0_1] 79 (0, 0)) (by (with_reducible repeat (first | refine blk_drewN ?_ _ | refine blk_drew ?_ | refine blk_alloc ?_ _)); exact BK195.out) hb); have n5_ := Aside0.mk (blk_below (g := gb206) (o := .cells #[.int .i64 t201, .slice Ao23 t202.length co23] 83 (0, 0)) (by (with_reducible repeat (first | refine blk_drewN ?_ _ | refine blk_drew ?_ | refine blk_alloc ?_ _)); exact BK206.out) hb); have n6_ := Aside0.mk (blk_below (g := gb211) (o := .cells #[.int .i64 t207, .slice Ao30 t208.length co30] 83 (0, 0)) (by (with_reducible repeat (first | refine blk_drewN ?_ _ | refine blk_drew ?_ | refine blk_alloc ?_ _)); exact BK211.out) hb); have n7_ := Aside0.mk (blk_below (g := gb217) (o := .cells #[.int .i64 t212, .slice Ao37 t213.length co37] 83 (0, 0)) (by (with_reducible repeat (first | refine blk_drewN ?_ _ | refine blk_drew ?_ | refine blk_alloc ?_ _)); exact BK217.out) hb); have n8_ := Aside0.mk (below_step (by repeat (first | (with_reducible first | exact HB.out | apply below_alloc | apply pw_below_drewN | apply below_drew1 | refine below_set ?_ GE195.out | refine below_set ?_ GE206.out | refine below_set ?_ GE211.out | refine below_set ?_ GE217.out) | exact HB.out)) hb); clear HO_207001; clear HO_212001; clear HO_218001; clear HO222; clear BK195; clear BK206; clear BK211; clear BK217; clear HB; have HO_207001 := n0_; have HO_212001 := n1_; have HO_218001 := n2_; have HO222 := n3_; have BK195 := n4_; have BK206 := n5_; have BK211 := n6_; have BK217 := n7_; have HB := n8_; clear n0_ n1_ n2_ n3_ n4_ n5_ n6_ n7_ n8_; (try clear hb); (try clear hb2); (try clear hk); (try clear hi)))
         go_meet
         case rel => exact ⟨_, ((t216 != t205)), (by first | rfl | (simp; done) | (simp [*]; done) | exact not_isEmpty _ | exact (not_isEmpty _).symm | exact is_empty _ | exact (is_empty _).symm), H', ⟨by have := HJ11.out; first | omega | exact Nat.le_refl _⟩, ⟨by (with_reducible repeat (first | apply Kd.R_alloc | apply Kd.R_drewN | apply Kd.R_drew)); exact Kd.R_mono HO_207001.out (fun _ hk => ⟨hk.1, hk.2.1⟩)⟩, ⟨by (with_reducible repeat (first | apply Kd.R_alloc | apply Kd.R_drewN | apply Kd.R_drew)); exact Kd.R_mono HO_212001.out (fun _ hk => ⟨hk.1.1, hk.1.2⟩)⟩, ⟨by (with_reducible repeat (first | apply Kd.R_alloc | apply Kd.R_drewN | apply Kd.R_drew)); exact Kd.R_mono HO_218001.out (fun _ hk => ⟨hk.1, hk.2.1⟩)⟩, ⟨by (with_reducible repeat (first | refine blk_drewN ?_ _ | refine blk_drew ?_ | refine blk_alloc ?_ _)); exact BK195.out⟩, ⟨by (with_reducible repeat (first | refine blk_drewN ?_ _ | refine blk_drew ?_ | refine blk_alloc ?_ _)); exact BK206.out⟩, ⟨by (with_reducible repeat (first | refine blk_drewN ?_ _ | refine blk_drew ?_ | refine blk_alloc ?_ _)); exact BK211.out⟩, ⟨by (with_reducible repeat (first | refine blk_drewN ?_ _ | refine blk_drew ?_ | refine blk_alloc ?_ _)); exact BK217.out⟩, ⟨by repeat (first | (with_reducible first | exact HB.out | apply below_alloc | apply pw_below_drewN | apply below_drew1 | refine below_set ?_ GE195.out | refine below_set ?_ GE206.out | refine below_set ?_ GE211.out | refine below_set ?_ GE217.out) | exact HB.out)⟩⟩
        ·replace c73 := Bool.eq_false_iff.mpr c73
         subst c73
         have H1 : (laws_FnExactDropTimer.j1 kj11 a1 t205 true a0_0 l0_1 t201 t202 t212 t213) = some r := by rw [if_neg (show ¬ (false = true) by decide)] at H; exact H
         clear H
         have H := H1
         clear H1
         have H' := Aside0.mk H
         clear H
         have hnb82 := NB217_195.out
         have hnc82 := NB195_217.out
         have hnb83 := NB217_206.out
         have hnc83 := NB206_217.out
         have hnb84 := NB217_211.out
         have hnc84 := NB211_217.out
         have hcz85_0 : w70.cell? ⟨gb217, 0, none⟩ = some (.int .i64 t212) := (blk_cell BK217.out 0).trans rfl
         have hcz85_1 : w70.cell? ⟨gb217, 1, none⟩ = some (.slice Ao37 t213.length co37) := (blk_cell BK217.out 1).trans rfl
         have hfz85_0 := blk_frozen BK217.out 0
         have hfz85_1 := blk_frozen BK217.out 1
         have hnb86 := NB206_195.out
         have hnc86 := NB195_206.out
         have hnb87 := NB206_211.out
         have hnc87 := NB211_206.out
         have hcz88_0 : w70.cell? ⟨gb206, 0, none⟩ = some (.int .i64 t201) := (blk_cell BK206.out 0).trans rfl
         have hcz88_1 : w70.cell? ⟨gb206, 1, none⟩ = some (.slice Ao23 t202.length co23) := (blk_cell BK206.out 1).trans rfl
         have hfz88_0 := blk_frozen BK206.out 0
         have hfz88_1 := blk_frozen BK206.out 1
         go_wp2_with (first | (go_at_call 48; (with_reducible refine (laws_eqClock.calls kj11 t212 _ _ t213 t201 _ _ t202 false _ ?side1 ?side2 ?side3 ?side4 A72.out).mono ?_); (case side1 => repeat (first | exact (Kd.R_reads' HO_218001.out).2.2 | (with_reducible refine Kd.C_alloc ?_ _) | (with_reducible refine Kd.C_drewN ?_ _) | (with_reducible refine Kd.C_drew ?_))); (case side2 => exact (Kd.R_reads' HO_218001.out).2.1); (case side3 => repeat (first | exact (Kd.R_reads' HO_207001.out).2.2 | (with_reducible refine Kd.C_alloc ?_ _) | (with_reducible refine Kd.C_drewN ?_ _) | (with_reducible refine Kd.C_drew ?_))); (case side4 => exact (Kd.R_reads' HO_207001.out).2.1); rintro e w89 ⟨rfl, hb⟩; have n0_ := Aside0.mk (Kd.R_below (by (with_reducible repeat (first | apply Kd.R_alloc | apply Kd.R_drewN | apply Kd.R_drew)); exact HO_207001.out) hb); have n1_ := Aside0.mk (Kd.R_below (by (with_reducible repeat (first | apply Kd.R_alloc | apply Kd.R_drewN | apply Kd.R_drew)); exact HO_212001.out) hb); have n2_ := Aside0.mk (Kd.R_below (by (with_reducible repeat (first | apply Kd.R_alloc | apply Kd.R_drewN | apply Kd.R_drew)); exact HO_218001.out) hb); have n3_ := Aside0.mk (Kd.R_below (by (with_reducible repeat (first | apply Kd.R_alloc | apply Kd.R_drewN | apply Kd.R_drew)); exact HO222.out) hb); have n4_ := Aside0.mk (blk_below (g := gb195) (o := .cells #[.int .i64 a0_0, .slice A0_1 l0_1.length c0_1] 79 (0, 0)) (by (with_reducible repeat (first | refine blk_drewN ?_ _ | refine blk_drew ?_ | refine blk_alloc ?_ _)); exact BK195.out) hb); have n5_ := Aside0.mk (blk_below (g := gb206) (o := .cells #[.int .i64 t201, .slice Ao23 t202.length co23] 83 (0, 0)) (by (with_reducible repeat (first | refine blk_drewN ?_ _ | refine blk_drew ?_ | refine blk_alloc ?_ _)); exact BK206.out) hb); have n6_ := Aside0.mk (blk_below (g := gb211) (o := .cells #[.int .i64 t207, .slice Ao30 t208.length co30] 83 (0, 0)) (by (with_reducible repeat (first | refine blk_drewN ?_ _ | refine blk_drew ?_ | refine blk_alloc ?_ _)); exact BK211.out) hb); have n7_ := Aside0.mk (blk_below (g := gb217) (o := .cells #[.int .i64 t212, .slice Ao37 t213.length co37] 83 (0, 0)) (by (with_reducible repeat (first | refine blk_drewN ?_ _ | refine blk_drew ?_ | refine blk_alloc ?_ _)); exact BK217.out) hb); have n8_ := Aside0.mk (below_step (by repeat (first | (with_reducible first | exact HB.out | apply below_alloc | apply pw_below_drewN | apply below_drew1 | refine below_set ?_ GE195.out | refine below_set ?_ GE206.out | refine below_set ?_ GE211.out | refine below_set ?_ GE217.out) | exact HB.out)) hb); clear HO_207001; clear HO_212001; clear HO_218001; clear HO222; clear BK195; clear BK206; clear BK211; clear BK217; clear HB; have HO_207001 := n0_; have HO_212001 := n1_; have HO_218001 := n2_; have HO222 := n3_; have BK195 := n4_; have BK206 := n5_; have BK211 := n6_; have BK217 := n7_; have HB := n8_; clear n0_ n1_ n2_ n3_ n4_ n5_ n6_ n7_ n8_; (try clear hb); (try clear hb2); (try clear hk); (try clear hi)))
         go_meet
         case rel => exact ⟨_, (true), (by first | rfl | (simp; done) | (simp [*]; done) | exact not_isEmpty _ | exact (not_isEmpty _).symm | exact is_empty _ | exact (is_empty _).symm), H', ⟨by have := HJ11.out; first | omega | exact Nat.le_refl _⟩, ⟨by (with_reducible repeat (first | apply Kd.R_alloc | apply Kd.R_drewN | apply Kd.R_drew)); exact Kd.R_mono HO_207001.out (fun _ hk => ⟨hk.1, hk.2.1⟩)⟩, ⟨by (with_reducible repeat (first | apply Kd.R_alloc | apply Kd.R_drewN | apply Kd.R_drew)); exact Kd.R_mono HO_212001.out (fun _ hk => ⟨hk.1.1, hk.1.2⟩)⟩, ⟨by (with_reducible repeat (first | apply Kd.R_alloc | apply Kd.R_drewN | apply Kd.R_drew)); exact Kd.R_mono HO_218001.out (fun _ hk => ⟨hk.1, hk.2.1⟩)⟩, ⟨by (with_reducible repeat (first | refine blk_drewN ?_ _ | refine blk_drew ?_ | refine blk_alloc ?_ _)); exact BK195.out⟩, ⟨by (with_reducible repeat (first | refine blk_drewN ?_ _ | refine blk_drew ?_ | refine blk_alloc ?_ _)); exact BK206.out⟩, ⟨by (with_reducible repeat (first | refine blk_drewN ?_ _ | refine blk_drew ?_ | refine blk_alloc ?_ _)); exact BK211.out⟩, ⟨by (with_reducible repeat (first | refine blk_drewN ?_ _ | refine blk_drew ?_ | refine blk_alloc ?_ _)); exact BK217.out⟩, ⟨by repeat (first | (with_reducible first | exact HB.out | apply below_alloc | apply pw_below_drewN | apply below_drew1 | refine below_set ?_ GE195.out | refine below_set ?_ GE206.out | refine below_set ?_ GE211.out | refine below_set ?_ GE217.out) | exact HB.out)⟩⟩
      case rest =>
       clear HC61
       try clear c2
       try clear p2
       try clear c3
       try clear c4
       try clear c4b0
       try clear c5
       try clear c6
       try clear c7
       try clear c8
       try clear c21
       try clear c27
       try clear c28
       try clear c33
       try clear c34
       try clear c35
       try clear c39
       try clear c40
       try clear c41
       try clear c42
       try clear c44
       try clear c45
       try clear c46
       try clear c47
       try clear c48
       try clear c49
       try clear c50
       try clear c52
       try clear c53
       try clear c56
       try clear c59
       try clear c66
       try clear c67
       try clear c68
       try clear c71
       try clear c71b0
       try clear c73
       try clear c74
       try clear c75
       try clear c76
       try clear c78
       try clear c79
       try clear c82
       try clear c83
       try clear c84
       try clear c86
       try clear c87
       try clear hcz14_0
       try clear hcz14_1
       try clear hcz16_0
       try clear hcz16_1
       try clear hcz22_0
       try clear hcz22_1
       try clear hcz24_0
       try clear hcz24_1
       try clear hcz29_0
       try clear hcz29_1
       try clear hcz36_0
       try clear hcz36_1
       try clear hcz43_0
       try clear hcz43_1
       try clear hcz46_0
       try clear hcz46_1
       try clear hcz51_0
       try clear hcz51_1
       try clear hcz54_0
       try clear hcz54_1
       try clear hcz69_0
       try clear hcz69_1
       try clear hcz6_0
       try clear hcz6_1
       try clear hcz77_0
       try clear hcz77_1
       try clear hcz80_0
       try clear hcz80_1
       try clear hcz85_0
       try clear hcz85_1
       try clear hcz88_0
       try clear hcz88_1
       try clear hfz14_0
       try clear hfz14_1
       try clear hfz16_0
       try clear hfz16_1
       try clear hfz22_0
       try clear hfz22_1
       try clear hfz24_0
       try clear hfz24_1
       try clear hfz29_0
       try clear hfz29_1
       try clear hfz36_0
       try clear hfz36_1
       try clear hfz43_0
       try clear hfz43_1
       try clear hfz46_0
       try clear hfz46_1
       try clear hfz51_0
       try clear hfz51_1
       try clear hfz54_0
       try clear hfz54_1
       try clear hfz69_0
       try clear hfz69_1
       try clear hfz6_0
       try clear hfz6_1
       try clear hfz77_0
       try clear hfz77_1
       try clear hfz80_0
       try clear hfz80_1
       try clear hfz85_0
       try clear hfz85_1
       try clear hfz88_0
       try clear hfz88_1
       try clear p2
       obtain ⟨kq, x65_60, rfl, HA, HJ60, HO_207001, HO_212001, HO_218001, BK195, BK206, BK211, BK217, HB⟩ := hcut
       have hl212001_60 := (Kd.R_reads' HO_212001.out).1
       rw [hl212001_60] at HO_212001
       (try simp only [hl212001_60])
       (try simp only [hl212001_60] at BK195)
       (try simp only [hl212001_60] at BK206)
       (try simp only [hl212001_60] at BK211)
       (try simp only [hl212001_60] at BK217)
       (try simp only [hl212001_60] at HO_207001)
       (try simp only [hl212001_60] at HO_218001)
       cases kq with
       | zero => exact absurd HA.out (by simp [laws_FnExactDropTimer.j1])
       | succ kj60 =>
        have H := HA.out
        clear HA
        simp only [laws_FnExactDropTimer.j1] at H
        by_cases c90 : x65_60 = true
        ·subst c90
         have H1 : (some false) = some r := by rw [if_pos rfl] at H; exact H
         clear H
         have H := H1
         clear H1
         obtain rfl := Option.some.inj H
         go_wp2
         go_ret
         exact ⟨by first | rfl | (simp [errW_none, errW_some] <;> rfl) | (simp [*, errW_none, errW_some] <;> rfl), by repeat (first | (with_reducible first | exact HB.out | apply below_alloc | apply pw_below_drewN | apply below_drew1 | refine below_set ?_ GE195.out | refine below_set ?_ GE206.out | refine below_set ?_ GE211.out | refine below_set ?_ GE217.out) | exact HB.out)⟩
        ·replace c90 := Bool.eq_false_iff.mpr c90
         subst c90
         have H1 : ((laws_markClock.f kj60 t212 t213 1).bind fun bt227 => ((laws_heldClock.f kj60 t212 bt227.2 1).bind fun t229 => (if t229 < 0 then (some false) else (if t229 = bt227.1 then ((laws_toClock.f kj60 a0_0 l0_1).bind fun bt230 => ((impl_DropTimer.f kj60 bt230.1 bt230.2 a1).bind fun bt234 => ((laws_eqClock.f kj60 bt234.1 bt234.2.1 t201 t202).bind fun t240 => (if t240 = true then (laws_FnExactDropTimer.j2 kj60 bt227.1 (bt234.2.2 != t205) t212 bt227.2) else (laws_FnExactDropTimer.j2 kj60 bt227.1 true t212 bt227.2))))) else (some false))))) = some r := by rw [if_neg (show ¬ (false = true) by decide)] at H; exact H
         clear H
         have H := H1
         clear H1
         replace H := Option.bind_eq_some_iff.mp H
         obtain ⟨⟨t227, t228⟩, A910, H⟩ := H
         replace H : ((laws_heldClock.f kj60 t212 t228 1).bind fun t229 => (if t229 < 0 then (some false) else (if t229 = t227 then ((laws_toClock.f kj60 a0_0 l0_1).bind fun bt230 => ((impl_DropTimer.f kj60 bt230.1 bt230.2 a1).bind fun bt234 => ((laws_eqClock.f kj60 bt234.1 bt234.2.1 t201 t202).bind fun t240 => (if t240 = true then (laws_FnExactDropTimer.j2 kj60 t227 (bt234.2.2 != t205) t212 t228) else (laws_FnExactDropTimer.j2 kj60 t227 true t212 t228))))) else (some false)))) = some r := H
         have A91 := Aside0.mk A910
         clear A910
         replace H := Option.bind_eq_some_iff.mp H
         obtain ⟨t229, A920, H⟩ := H
         replace H : (if t229 < 0 then (some false) else (if t229 = t227 then ((laws_toClock.f kj60 a0_0 l0_1).bind fun bt230 => ((impl_DropTimer.f kj60 bt230.1 bt230.2 a1).bind fun bt234 => ((laws_eqClock.f kj60 bt234.1 bt234.2.1 t201 t202).bind fun t240 => (if t240 = true then (laws_FnExactDropTimer.j2 kj60 t227 (bt234.2.2 != t205) t212 t228) else (laws_FnExactDropTimer.j2 kj60 t227 true t212 t228))))) else (some false))) = some r := H
         have A92 := Aside0.mk A920
         clear A920
         by_cases c93 : t229 < 0
         ·rw [if_pos c93] at H
          have c93b0 : decide (t229 < 0) = true := decide_eq_true c93
          clear c93
          obtain rfl := Option.some.inj H
          have hnb94 := NB217_195.out
          have hnc94 := NB195_217.out
          have hnb95 := NB217_206.out
          have hnc95 := NB206_217.out
          have hnb96 := NB217_211.out
          have hnc96 := NB211_217.out
          have hcz97_0 : wc.cell? ⟨gb217, 0, none⟩ = some (.int .i64 t212) := (blk_cell BK217.out 0).trans rfl
          have hcz97_1 : wc.cell? ⟨gb217, 1, none⟩ = some (.slice Ao37 t213.length co37) := (blk_cell BK217.out 1).trans rfl
          have hfz97_0 := blk_frozen BK217.out 0
          have hfz97_1 := blk_frozen BK217.out 1
          go_wp2_with (first | ((with_reducible refine gate_callee (f := 49) rfl ?_); refine goesL_ (some 68) rfl rfl Try.func49 (by kernel_rfl) rfl #[.agg #[.int .i64 t212, .slice Ao37 t213.length co37], .int .i64 1] rfl (by (try simp only [List.map_toArray, List.map_cons, List.map_nil]); first | done | rfl | (simp only [List.length_drop, List.length_take]; rfl)) ?_; (with_reducible refine (laws_markClock.calls kj60 t212 (fun k_ => some k_ = (.slice Ao37 t213.length co37 : Value).ownBlock) (.slice Ao37 t213.length co37) t213 1 t227 t228 w _ ?side1 ?side2 A91.out).mono ?_); (case side1 => repeat (first | (with_reducible first | exact HB.out | apply below_alloc | apply pw_below_drewN | apply below_drew1 | refine below_set ?_ GE195.out | refine below_set ?_ GE206.out | refine below_set ?_ GE211.out | refine below_set ?_ GE217.out) | exact HB.out)); (case side2 => exact Kd.R_tight rfl HO_218001.out); rintro e w98 ⟨rfl, hy0, hb, hkp⟩; refine ⟨_, rfl, ?_⟩; have n0_ := Aside0.mk (Kd.R_mono (ok' := fun k_ => some k_ ≠ (.slice Ao30 t225.length co30 : Value).ownBlock ∧ some k_ ≠ (.slice Ao37 t213.length co37 : Value).ownBlock) (Kd.R_keptB (HO_207001.out) hkp (fun k_ hk_ hs_ => (hk_.2) hs_)) (fun k_ hk_ => ⟨hk_.1.1, hk_.1.2⟩)); have n1_ := Aside0.mk (Kd.R_mono (ok' := fun k_ => some k_ ≠ (.slice Ao23 t202.length co23 : Value).ownBlock ∧ some k_ ≠ (.slice Ao37 t213.length co37 : Value).ownBlock) (Kd.R_keptB (HO_212001.out) hkp (fun k_ hk_ hs_ => (hk_.2) hs_)) (fun k_ hk_ => ⟨hk_.1.1, hk_.1.2⟩)); have n2_ := Aside0.mk (Kd.R_reok rfl hy0 (fun k_ e_ => HO_218001.out.1 k_ e_)); have n3_ := Aside0.mk (blk_kept (by (with_reducible repeat (first | refine blk_drewN ?_ _ | refine blk_drew ?_ | refine blk_alloc ?_ _)); exact BK195.out) hkp (fun hs_ => (fun e_ => (Kd.R_ne HO_218001.out BK195.out (by decide)) e_) hs_)); have n4_ := Aside0.mk (blk_kept (by (with_reducible repeat (first | refine blk_drewN ?_ _ | refine blk_drew ?_ | refine blk_alloc ?_ _)); exact BK206.out) hkp (fun hs_ => (fun e_ => (Kd.R_ne HO_218001.out BK206.out (by decide)) e_) hs_)); have n5_ := Aside0.mk (blk_kept (by (with_reducible repeat (first | refine blk_drewN ?_ _ | refine blk_drew ?_ | refine blk_alloc ?_ _)); exact BK211.out) hkp (fun hs_ => (fun e_ => (Kd.R_ne HO_218001.out BK211.out (by decide)) e_) hs_)); have n6_ := Aside0.mk (blk_kept (by (with_reducible repeat (first | refine blk_drewN ?_ _ | refine blk_drew ?_ | refine blk_alloc ?_ _)); exact BK217.out) hkp (fun hs_ => (fun e_ => (Kd.R_ne HO_218001.out BK217.out (by decide)) e_) hs_)); have n7_ := Aside0.mk (hb); clear HO_207001; clear HO_212001; clear HO_218001; clear BK195; clear BK206; clear BK211; clear BK217; clear HB; have HO_207001 := n0_; have HO_212001 := n1_; have HO_218001 := n2_; have BK195 := n3_; have BK206 := n4_; have BK211 := n5_; have BK217 := n6_; have HB := n7_; clear n0_ n1_ n2_ n3_ n4_ n5_ n6_ n7_; (try clear hb); (try clear hkp); (try clear hy0); have hcz99_0 : w98.cell? ⟨gb217, 0, none⟩ = some (.int .i64 t212) := (blk_cell BK217.out 0).trans rfl; have hcz99_1 : w98.cell? ⟨gb217, 1, none⟩ = some (.slice Ao37 t213.length co37) := (blk_cell BK217.out 1).trans rfl; have hfz99_0 := blk_frozen BK217.out 0; have hfz99_1 := blk_frozen BK217.out 1) | ((with_reducible refine gate_callee (f := 50) rfl ?_); refine goesL_ (some 71) rfl rfl Try.func50 (by kernel_rfl) rfl #[.agg #[.int .i64 t212, .slice Ao37 t228.length co37], .int .i64 1] rfl (by (try simp only [List.map_toArray, List.map_cons, List.map_nil]); first | done | (rw [show t228.length = t213.length from (Kd.R_reads' HO_218001.out).1.symm] <;> rfl) | rfl | (simp only [List.length_drop, List.length_take]; rfl)) ?_; (with_reducible refine (laws_heldClock.calls kj60 t212 _ _ t228 1 t229 _ ?side1 ?side2 A92.out).mono ?_); (case side1 => repeat (first | exact (Kd.R_reads' HO_218001.out).2.2 | (with_reducible refine Kd.C_alloc ?_ _) | (with_reducible refine Kd.C_drewN ?_ _) | (with_reducible refine Kd.C_drew ?_))); (case side2 => rw [show t228.length = t213.length from (Kd.R_reads' HO_218001.out).1.symm]; exact (Kd.R_reads' HO_218001.out).2.1); rintro e w100 ⟨rfl, hb⟩; refine ⟨_, rfl, ?_⟩; have n0_ := Aside0.mk (Kd.R_below (by (with_reducible repeat (first | apply Kd.R_alloc | apply Kd.R_drewN | apply Kd.R_drew)); exact HO_207001.out) hb); have n1_ := Aside0.mk (Kd.R_below (by (with_reducible repeat (first | apply Kd.R_alloc | apply Kd.R_drewN | apply Kd.R_drew)); exact HO_212001.out) hb); have n2_ := Aside0.mk (Kd.R_below (by (with_reducible repeat (first | apply Kd.R_alloc | apply Kd.R_drewN | apply Kd.R_drew)); exact HO_218001.out) hb); have n3_ := Aside0.mk (blk_below (g := gb195) (o := .cells #[.int .i64 a0_0, .slice A0_1 l0_1.length c0_1] 79 (0, 0)) (by (with_reducible repeat (first | refine blk_drewN ?_ _ | refine blk_drew ?_ | refine blk_alloc ?_ _)); exact BK195.out) hb); have n4_ := Aside0.mk (blk_below (g := gb206) (o := .cells #[.int .i64 t201, .slice Ao23 t202.length co23] 83 (0, 0)) (by (with_reducible repeat (first | refine blk_drewN ?_ _ | refine blk_drew ?_ | refine blk_alloc ?_ _)); exact BK206.out) hb); have n5_ := Aside0.mk (blk_below (g := gb211) (o := .cells #[.int .i64 t207, .slice Ao30 t225.length co30] 83 (0, 0)) (by (with_reducible repeat (first | refine blk_drewN ?_ _ | refine blk_drew ?_ | refine blk_alloc ?_ _)); exact BK211.out) hb); have n6_ := Aside0.mk (blk_below (g := gb217) (o := .cells #[.int .i64 t212, .slice Ao37 t213.length co37] 83 (0, 0)) (by (with_reducible repeat (first | refine blk_drewN ?_ _ | refine blk_drew ?_ | refine blk_alloc ?_ _)); exact BK217.out) hb); have n7_ := Aside0.mk (below_step (by repeat (first | (with_reducible first | exact HB.out | apply below_alloc | apply pw_below_drewN | apply below_drew1 | refine below_set ?_ GE195.out | refine below_set ?_ GE206.out | refine below_set ?_ GE211.out | refine below_set ?_ GE217.out) | exact HB.out)) hb); clear HO_207001; clear HO_212001; clear HO_218001; clear BK195; clear BK206; clear BK211; clear BK217; clear HB; have HO_207001 := n0_; have HO_212001 := n1_; have HO_218001 := n2_; have BK195 := n3_; have BK206 := n4_; have BK211 := n5_; have BK217 := n6_; have HB := n7_; clear n0_ n1_ n2_ n3_ n4_ n5_ n6_ n7_; (try clear hb); (try clear hb2); (try clear hk); (try clear hi)))
          go_ret
          exact ⟨by first | rfl | (simp [errW_none, errW_some] <;> rfl) | (simp [*, errW_none, errW_some] <;> rfl), by repeat (first | (with_reducible first | exact HB.out | apply below_alloc | apply pw_below_drewN | apply below_drew1 | refine below_set ?_ GE195.out | refine below_set ?_ GE206.out | refine below_set ?_ GE211.out | refine below_set ?_ GE217.out) | exact HB.out)⟩
         ·rw [if_neg c93] at H
          have c93b0 : decide (t229 < 0) = false := decide_eq_false c93
          clear c93
          by_cases c101 : t229 = t227
          ·rw [if_pos c101] at H
           have c101b0 : (t229 == t227) = true := beq_iff_eq.mpr c101
           have c101b1 : (t229 != t227) = false := bne_eq_false_iff_eq.mpr c101
           clear c101
           replace H := Option.bind_eq_some_iff.mp H
           obtain ⟨⟨t230, t231⟩, A1020, H⟩ := H
           replace H : ((impl_DropTimer.f kj60 t230 t231 a1).bind fun bt234 => ((laws_eqClock.f kj60 bt234.1 bt234.2.1 t201 t202).bind fun t240 => (if t240 = true then (laws_FnExactDropTimer.j2 kj60 t227 (bt234.2.2 != t205) t212 t228) else (laws_FnExactDropTimer.j2 kj60 t227 true t212 t228)))) = some r := H
           have A102 := Aside0.mk A1020
           clear A1020
           replace H := Option.bind_eq_some_iff.mp H
           obtain ⟨⟨t234, t235, t238⟩, A1030, H⟩ := H
           replace H : ((laws_eqClock.f kj60 t234 t235 t201 t202).bind fun t240 => (if t240 = true then (laws_FnExactDropTimer.j2 kj60 t227 (t238 != t205) t212 t228) else (laws_FnExactDropTimer.j2 kj60 t227 true t212 t228))) = some r := H
           have A103 := Aside0.mk A1030
           clear A1030
           have HC104 := Aside0.mk H
           clear H
           have hnb105 := NB217_195.out
           have hnc105 := NB195_217.out
           have hnb106 := NB217_206.out
           have hnc106 := NB206_217.out
           have hnb107 := NB217_211.out
           have hnc107 := NB211_217.out
           have hcz108_0 : wc.cell? ⟨gb217, 0, none⟩ = some (.int .i64 t212) := (blk_cell BK217.out 0).trans rfl
           have hcz108_1 : wc.cell? ⟨gb217, 1, none⟩ = some (.slice Ao37 t213.length co37) := (blk_cell BK217.out 1).trans rfl
           have hfz108_0 := blk_frozen BK217.out 0
           have hfz108_1 := blk_frozen BK217.out 1
           go_upto_region 25 with (first | ((with_reducible refine gate_callee (f := 49) rfl ?_); refine goesL_ (some 68) rfl rfl Try.func49 (by kernel_rfl) rfl #[.agg #[.int .i64 t212, .slice Ao37 t213.length co37], .int .i64 1] rfl (by (try simp only [List.map_toArray, List.map_cons, List.map_nil]); first | done | rfl | (simp only [List.length_drop, List.length_take]; rfl)) ?_; (with_reducible refine (laws_markClock.calls kj60 t212 (fun k_ => some k_ = (.slice Ao37 t213.length co37 : Value).ownBlock) (.slice Ao37 t213.length co37) t213 1 t227 t228 w _ ?side1 ?side2 A91.out).mono ?_); (case side1 => repeat (first | (with_reducible first | exact HB.out | apply below_alloc | apply pw_below_drewN | apply below_drew1 | refine below_set ?_ GE195.out | refine below_set ?_ GE206.out | refine below_set ?_ GE211.out | refine below_set ?_ GE217.out) | exact HB.out)); (case side2 => exact Kd.R_tight rfl HO_218001.out); rintro e w109 ⟨rfl, hy0, hb, hkp⟩; refine ⟨_, rfl, ?_⟩; have n0_ := Aside0.mk (Kd.R_mono (ok' := fun k_ => some k_ ≠ (.slice Ao30 t225.length co30 : Value).ownBlock ∧ some k_ ≠ (.slice Ao37 t213.length co37 : Value).ownBlock) (Kd.R_keptB (HO_207001.out) hkp (fun k_ hk_ hs_ => (hk_.2) hs_)) (fun k_ hk_ => ⟨hk_.1.1, hk_.1.2⟩)); have n1_ := Aside0.mk (Kd.R_mono (ok' := fun k_ => some k_ ≠ (.slice Ao23 t202.length co23 : Value).ownBlock ∧ some k_ ≠ (.slice Ao37 t213.length co37 : Value).ownBlock) (Kd.R_keptB (HO_212001.out) hkp (fun k_ hk_ hs_ => (hk_.2) hs_)) (fun k_ hk_ => ⟨hk_.1.1, hk_.1.2⟩)); have n2_ := Aside0.mk (Kd.R_reok rfl hy0 (fun k_ e_ => HO_218001.out.1 k_ e_)); have n3_ := Aside0.mk (blk_kept (by (with_reducible repeat (first | refine blk_drewN ?_ _ | refine blk_drew ?_ | refine blk_alloc ?_ _)); exact BK195.out) hkp (fun hs_ => (fun e_ => (Kd.R_ne HO_218001.out BK195.out (by decide)) e_) hs_)); have n4_ := Aside0.mk (blk_kept (by (with_reducible repeat (first | refine blk_drewN ?_ _ | refine blk_drew ?_ | refine blk_alloc ?_ _)); exact BK206.out) hkp (fun hs_ => (fun e_ => (Kd.R_ne HO_218001.out BK206.out (by decide)) e_) hs_)); have n5_ := Aside0.mk (blk_kept (by (with_reducible repeat (first | refine blk_drewN ?_ _ | refine blk_drew ?_ | refine blk_alloc ?_ _)); exact BK211.out) hkp (fun hs_ => (fun e_ => (Kd.R_ne HO_218001.out BK211.out (by decide)) e_) hs_)); have n6_ := Aside0.mk (blk_kept (by (with_reducible repeat (first | refine blk_drewN ?_ _ | refine blk_drew ?_ | refine blk_alloc ?_ _)); exact BK217.out) hkp (fun hs_ => (fun e_ => (Kd.R_ne HO_218001.out BK217.out (by decide)) e_) hs_)); have n7_ := Aside0.mk (hb); clear HO_207001; clear HO_212001; clear HO_218001; clear BK195; clear BK206; clear BK211; clear BK217; clear HB; have HO_207001 := n0_; have HO_212001 := n1_; have HO_218001 := n2_; have BK195 := n3_; have BK206 := n4_; have BK211 := n5_; have BK217 := n6_; have HB := n7_; clear n0_ n1_ n2_ n3_ n4_ n5_ n6_ n7_; (try clear hb); (try clear hkp); (try clear hy0); have hcz110_0 : w109.cell? ⟨gb217, 0, none⟩ = some (.int .i64 t212) := (blk_cell BK217.out 0).trans rfl; have hcz110_1 : w109.cell? ⟨gb217, 1, none⟩ = some (.slice Ao37 t213.length co37) := (blk_cell BK217.out 1).trans rfl; have hfz110_0 := blk_frozen BK217.out 0; have hfz110_1 := blk_frozen BK217.out 1) | ((with_reducible refine gate_callee (f := 50) rfl ?_); refine goesL_ (some 71) rfl rfl Try.func50 (by kernel_rfl) rfl #[.agg #[.int .i64 t212, .slice Ao37 t228.length co37], .int .i64 1] rfl (by (try simp only [List.map_toArray, List.map_cons, List.map_nil]); first | done | (rw [show t228.length = t213.length from (Kd.R_reads' HO_218001.out).1.symm] <;> rfl) | rfl | (simp only [List.length_drop, List.length_take]; rfl)) ?_; (with_reducible refine (laws_heldClock.calls kj60 t212 _ _ t228 1 t229 _ ?side1 ?side2 A92.out).mono ?_); (case side1 => repeat (first | exact (Kd.R_reads' HO_218001.out).2.2 | (with_reducible refine Kd.C_alloc ?_ _) | (with_reducible refine Kd.C_drewN ?_ _) | (with_reducible refine Kd.C_drew ?_))); (case side2 => rw [show t228.length = t213.length from (Kd.R_reads' HO_218001.out).1.symm]; exact (Kd.R_reads' HO_218001.out).2.1); rintro e w111 ⟨rfl, hb⟩; refine ⟨_, rfl, ?_⟩; have n0_ := Aside0.mk (Kd.R_below (by (with_reducible repeat (first | apply Kd.R_alloc | apply Kd.R_drewN | apply Kd.R_drew)); exact HO_207001.out) hb); have n1_ := Aside0.mk (Kd.R_below (by (with_reducible repeat (first | apply Kd.R_alloc | apply Kd.R_drewN | apply Kd.R_drew)); exact HO_212001.out) hb); have n2_ := Aside0.mk (Kd.R_below (by (with_reducible repeat (first | apply Kd.R_alloc | apply Kd.R_drewN | apply Kd.R_drew)); exact HO_218001.out) hb); have n3_ := Aside0.mk (blk_below (g := gb195) (o := .cells #[.int .i64 a0_0, .slice A0_1 l0_1.length c0_1] 79 (0, 0)) (by (with_reducible repeat (first | refine blk_drewN ?_ _ | refine blk_drew ?_ | refine blk_alloc ?_ _)); exact BK195.out) hb); have n4_ := Aside0.mk (blk_below (g := gb206) (o := .cells #[.int .i64 t201, .slice Ao23 t202.length co23] 83 (0, 0)) (by (with_reducible repeat (first | refine blk_drewN ?_ _ | refine blk_drew ?_ | refine blk_alloc ?_ _)); exact BK206.out) hb); have n5_ := Aside0.mk (blk_below (g := gb211) (o := .cells #[.int .i64 t207, .slice Ao30 t225.length co30] 83 (0, 0)) (by (with_reducible repeat (first | refine blk_drewN ?_ _ | refine blk_drew ?_ | refine blk_alloc ?_ _)); exact BK211.out) hb); have n6_ := Aside0.mk (blk_below (g := gb217) (o := .cells #[.int .i64 t212, .slice Ao37 t213.length co37] 83 (0, 0)) (by (with_reducible repeat (first | refine blk_drewN ?_ _ | refine blk_drew ?_ | refine blk_alloc ?_ _)); exact BK217.out) hb); have n7_ := Aside0.mk (below_step (by repeat (first | (with_reducible first | exact HB.out | apply below_alloc | apply pw_below_drewN | apply below_drew1 | refine below_set ?_ GE195.out | refine below_set ?_ GE206.out | refine below_set ?_ GE211.out | refine below_set ?_ GE217.out) | exact HB.out)) hb); clear HO_207001; clear HO_212001; clear HO_218001; clear BK195; clear BK206; clear BK211; clear BK217; clear HB; have HO_207001 := n0_; have HO_212001 := n1_; have HO_218001 := n2_; have BK195 := n3_; have BK206 := n4_; have BK211 := n5_; have BK217 := n6_; have HB := n7_; clear n0_ n1_ n2_ n3_ n4_ n5_ n6_ n7_; (try clear hb); (try clear hb2); (try clear hk); (try clear hi); have hnb112 := NB195_206.out; have hnc112 := NB206_195.out; have hnb113 := NB195_211.out; have hnc113 := NB211_195.out; have hcz114_0 : w111.cell? ⟨gb195, 0, none⟩ = some (.int .i64 a0_0) := (blk_cell BK195.out 0).trans rfl; have hcz114_1 : w111.cell? ⟨gb195, 1, none⟩ = some (.slice A0_1 l0_1.length c0_1) := (blk_cell BK195.out 1).trans rfl; have hfz114_0 := blk_frozen BK195.out 0; have hfz114_1 := blk_frozen BK195.out 1) | ((with_reducible refine gate_callee (f := 46) rfl ?_); refine goesL_ (some 79) rfl rfl Try.func46 (by kernel_rfl) rfl #[.agg #[.int .i64 a0_0, .slice A0_1 l0_1.length c0_1]] rfl (by (try simp only [List.map_toArray, List.map_cons, List.map_nil]); first | done | rfl | (simp only [List.length_drop, List.length_take]; rfl)) ?_; (with_reducible refine (laws_toClock.calls kj60 a0_0 _ _ l0_1 t230 t231 _ ?side1 ?side2 A102.out).mono ?_); (case side1 => repeat (first | exact (Kd.C_below HR0_1.out HB.out) | (with_reducible refine Kd.C_alloc ?_ _) | (with_reducible refine Kd.C_drewN ?_ _) | (with_reducible refine Kd.C_drew ?_))); (case side2 => exact HC0_1.out); rintro e w115 ⟨v232, rfl, ho0, hb⟩; refine ⟨_, rfl, ?_⟩; have n0_ := Aside0.mk (Kd.R_elder' (by (with_reducible repeat (first | apply Kd.R_alloc | apply Kd.R_drewN | apply Kd.R_drew)); exact HO_207001.out) (Kd.R_base ho0) hb); have n1_ := Aside0.mk (Kd.R_elder' (by (with_reducible repeat (first | apply Kd.R_alloc | apply Kd.R_drewN | apply Kd.R_drew)); exact HO_212001.out) (Kd.R_base ho0) hb); have n2_ := Aside0.mk (Kd.R_elder' (by (with_reducible repeat (first | apply Kd.R_alloc | apply Kd.R_drewN | apply Kd.R_drew)); exact HO_218001.out) (Kd.R_base ho0) hb); have n3_ := Aside0.mk (Kd.R_lower (Kd.R_new' (Kd.R_new' (Kd.R_new' ho0 (Kd.R_lt (by (with_reducible repeat (first | apply Kd.R_alloc | apply Kd.R_drewN | apply Kd.R_drew)); exact HO_207001.out))) (Kd.R_lt (by (with_reducible repeat (first | apply Kd.R_alloc | apply Kd.R_drewN | apply Kd.R_drew)); exact HO_212001.out))) (Kd.R_lt (by (with_reducible repeat (first | apply Kd.R_alloc | apply Kd.R_drewN | apply Kd.R_drew)); exact HO_218001.out))) (below_size (by repeat (first | (with_reducible first | exact HB.out | apply below_alloc | apply pw_below_drewN | apply below_drew1 | refine below_set ?_ GE195.out | refine below_set ?_ GE206.out | refine below_set ?_ GE211.out | refine below_set ?_ GE217.out) | exact HB.out)))); have n4_ := Aside0.mk (blk_below (g := gb195) (o := .cells #[.int .i64 a0_0, .slice A0_1 l0_1.length c0_1] 79 (0, 0)) (by (with_reducible repeat (first | refine blk_drewN ?_ _ | refine blk_drew ?_ | refine blk_alloc ?_ _)); exact BK195.out) hb); have n5_ := Aside0.mk (blk_below (g := gb206) (o := .cells #[.int .i64 t201, .slice Ao23 t202.length co23] 83 (0, 0)) (by (with_reducible repeat (first | refine blk_drewN ?_ _ | refine blk_drew ?_ | refine blk_alloc ?_ _)); exact BK206.out) hb); have n6_ := Aside0.mk (blk_below (g := gb211) (o := .cells #[.int .i64 t207, .slice Ao30 t225.length co30] 83 (0, 0)) (by (with_reducible repeat (first | refine blk_drewN ?_ _ | refine blk_drew ?_ | refine blk_alloc ?_ _)); exact BK211.out) hb); have n7_ := Aside0.mk (blk_below (g := gb217) (o := .cells #[.int .i64 t212, .slice Ao37 t213.length co37] 83 (0, 0)) (by (with_reducible repeat (first | refine blk_drewN ?_ _ | refine blk_drew ?_ | refine blk_alloc ?_ _)); exact BK217.out) hb); have n8_ := Aside0.mk (below_step (by repeat (first | (with_reducible first | exact HB.out | apply below_alloc | apply pw_below_drewN | apply below_drew1 | refine below_set ?_ GE195.out | refine below_set ?_ GE206.out | refine below_set ?_ GE211.out | refine below_set ?_ GE217.out) | exact HB.out)) hb); clear HO_207001; clear HO_212001; clear HO_218001; clear BK195; clear BK206; clear BK211; clear BK217; clear HB; have HO_207001 := n0_; have HO_212001 := n1_; have HO_218001 := n2_; have HO233 := n3_; have BK195 := n4_; have BK206 := n5_; have BK211 := n6_; have BK217 := n7_; have HB := n8_; clear n0_ n1_ n2_ n3_ n4_ n5_ n6_ n7_ n8_; (try clear hb); (try clear hb2); (try clear hk); (try clear hi); (try clear ho0); obtain ⟨Ao116, co116, eo116⟩ := Kd.R_slice HO233.out; subst eo116) | ((with_reducible refine gate_callee (f := 47) rfl ?_); refine goesL_ (some 81) rfl rfl Try.func47 (by kernel_rfl) rfl #[.agg #[.int .i64 t230, .slice Ao116 t231.length co116], .int .i64 a1] rfl (by (try simp only [List.map_toArray, List.map_cons, List.map_nil]); first | done | rfl | (simp only [List.length_drop, List.length_take]; rfl)) ?_; (with_reducible refine (impl_DropTimer.calls kj60 t230 _ _ t231 a1 t234 t235 t238 _ ?side1 ?side2 A103.out).mono ?_); (case side1 => repeat (first | exact (Kd.R_reads' HO233.out).2.2 | (with_reducible refine Kd.C_alloc ?_ _) | (with_reducible refine Kd.C_drewN ?_ _) | (with_reducible refine Kd.C_drew ?_))); (case side2 => exact (Kd.R_reads' HO233.out).2.1); rintro e w117 ⟨v236, rfl, ho0, hb⟩; refine ⟨_, rfl, ?_⟩; have n0_ := Aside0.mk (Kd.R_elder' (by (with_reducible repeat (first | apply Kd.R_alloc | apply Kd.R_drewN | apply Kd.R_drew)); exact HO_207001.out) (Kd.R_base ho0) hb); have n1_ := Aside0.mk (Kd.R_elder' (by (with_reducible repeat (first | apply Kd.R_alloc | apply Kd.R_drewN | apply Kd.R_drew)); exact HO_212001.out) (Kd.R_base ho0) hb); have n2_ := Aside0.mk (Kd.R_elder' (by (with_reducible repeat (first | apply Kd.R_alloc | apply Kd.R_drewN | apply Kd.R_drew)); exact HO_218001.out) (Kd.R_base ho0) hb); have n3_ := Aside0.mk (Kd.R_elder' (by (with_reducible repeat (first | apply Kd.R_alloc | apply Kd.R_drewN | apply Kd.R_drew)); exact HO233.out) (Kd.R_base ho0) hb); have n4_ := Aside0.mk (Kd.R_lower (Kd.R_new' (Kd.R_new' (Kd.R_new' (Kd.R_new' ho0 (Kd.R_lt (by (with_reducible repeat (first | apply Kd.R_alloc | apply Kd.R_drewN | apply Kd.R_drew)); exact HO_207001.out))) (Kd.R_lt (by (with_reducible repeat (first | apply Kd.R_alloc | apply Kd.R_drewN | apply Kd.R_drew)); exact HO_212001.out))) (Kd.R_lt (by (with_reducible repeat (first | apply Kd.R_alloc | apply Kd.R_drewN | apply Kd.R_drew)); exact HO_218001.out))) (Kd.R_lt (by (with_reducible repeat (first | apply Kd.R_alloc | apply Kd.R_drewN | apply Kd.R_drew)); exact HO233.out))) (below_size (by repeat (first | (with_reducible first | exact HB.out | apply below_alloc | apply pw_below_drewN | apply below_drew1 | refine below_set ?_ GE195.out | refine below_set ?_ GE206.out | refine below_set ?_ GE211.out | refine below_set ?_ GE217.out) | exact HB.out)))); have n5_ := Aside0.mk (blk_below (g := gb195) (o := .cells #[.int .i64 a0_0, .slice A0_1 l0_1.length c0_1] 79 (0, 0)) (by (with_reducible repeat (first | refine blk_drewN ?_ _ | refine blk_drew ?_ | refine blk_alloc ?_ _)); exact BK195.out) hb); have n6_ := Aside0.mk (blk_below (g := gb206) (o := .cells #[.int .i64 t201, .slice Ao23 t202.length co23] 83 (0, 0)) (by (with_reducible repeat (first | refine blk_drewN ?_ _ | refine blk_drew ?_ | refine blk_alloc ?_ _)); exact BK206.out) hb); have n7_ := Aside0.mk (blk_below (g := gb211) (o := .cells #[.int .i64 t207, .slice Ao30 t225.length co30] 83 (0, 0)) (by (with_reducible repeat (first | refine blk_drewN ?_ _ | refine blk_drew ?_ | refine blk_alloc ?_ _)); exact BK211.out) hb); have n8_ := Aside0.mk (blk_below (g := gb217) (o := .cells #[.int .i64 t212, .slice Ao37 t213.length co37] 83 (0, 0)) (by (with_reducible repeat (first | refine blk_drewN ?_ _ | refine blk_drew ?_ | refine blk_alloc ?_ _)); exact BK217.out) hb); have n9_ := Aside0.mk (below_step (by repeat (first | (with_reducible first | exact HB.out | apply below_alloc | apply pw_below_drewN | apply below_drew1 | refine below_set ?_ GE195.out | refine below_set ?_ GE206.out | refine below_set ?_ GE211.out | refine below_set ?_ GE217.out) | exact HB.out)) hb); clear HO_207001; clear HO_212001; clear HO_218001; clear HO233; clear BK195; clear BK206; clear BK211; clear BK217; clear HB; have HO_207001 := n0_; have HO_212001 := n1_; have HO_218001 := n2_; have HO233 := n3_; have HO237 := n4_; have BK195 := n5_; have BK206 := n6_; have BK211 := n7_; have BK217 := n8_; have HB := n9_; clear n0_ n1_ n2_ n3_ n4_ n5_ n6_ n7_ n8_ n9_; (try clear hb); (try clear hb2); (try clear hk); (try clear hi); (try clear ho0)) | ((with_reducible refine gate_dst (N := 14) rfl ?_); refine box_event ?hg (N := 14) ?hd (cs := #[.int .i64 0, .slice none 0 0]) (t := 83) ?hr ?_; (case hd => rfl); (case hg => rfl); (case hr => first | (go_simp; done) | (go_simp; rfl)); intro gb239 hg w118 hbox hb; have n0_ := Aside0.mk (Kd.R_below (by (with_reducible repeat (first | apply Kd.R_alloc | apply Kd.R_drewN | apply Kd.R_drew)); exact HO_207001.out) hb); have n1_ := Aside0.mk (Kd.R_below (by (with_reducible repeat (first | apply Kd.R_alloc | apply Kd.R_drewN | apply Kd.R_drew)); exact HO_212001.out) hb); have n2_ := Aside0.mk (Kd.R_below (by (with_reducible repeat (first | apply Kd.R_alloc | apply Kd.R_drewN | apply Kd.R_drew)); exact HO_218001.out) hb); have n3_ := Aside0.mk (Kd.R_below (by (with_reducible repeat (first | apply Kd.R_alloc | apply Kd.R_drewN | apply Kd.R_drew)); exact HO233.out) hb); have n4_ := Aside0.mk (Kd.R_below (by (with_reducible repeat (first | apply Kd.R_alloc | apply Kd.R_drewN | apply Kd.R_drew)); exact HO237.out) hb); have n5_ := Aside0.mk (blk_below (g := gb195) (o := .cells #[.int .i64 a0_0, .slice A0_1 l0_1.length c0_1] 79 (0, 0)) (by (with_reducible repeat (first | refine blk_drewN ?_ _ | refine blk_drew ?_ | refine blk_alloc ?_ _)); exact BK195.out) hb); have n6_ := Aside0.mk (blk_below (g := gb206) (o := .cells #[.int .i64 t201, .slice Ao23 t202.length co23] 83 (0, 0)) (by (with_reducible repeat (first | refine blk_drewN ?_ _ | refine blk_drew ?_ | refine blk_alloc ?_ _)); exact BK206.out) hb); have n7_ := Aside0.mk (blk_below (g := gb211) (o := .cells #[.int .i64 t207, .slice Ao30 t225.length co30] 83 (0, 0)) (by (with_reducible repeat (first | refine blk_drewN ?_ _ | refine blk_drew ?_ | refine blk_alloc ?_ _)); exact BK211.out) hb); have n8_ := Aside0.mk (blk_below (g := gb217) (o := .cells #[.int .i64 t212, .slice Ao37 t213.length co37] 83 (0, 0)) (by (with_reducible repeat (first | refine blk_drewN ?_ _ | refine blk_drew ?_ | refine blk_alloc ?_ _)); exact BK217.out) hb); have n9_ := Aside0.mk (below_step (by repeat (first | (with_reducible first | exact HB.out | apply below_alloc | apply pw_below_drewN | apply below_drew1 | refine below_set ?_ GE195.out | refine below_set ?_ GE206.out | refine below_set ?_ GE211.out | refine below_set ?_ GE217.out) | exact HB.out)) hb); have n10_ := Aside0.mk (hbox); have n11_ := Aside0.mk ((by rw [hg]; exact (below_size (by repeat (first | (with_reducible first | exact HB.out | apply below_alloc | apply pw_below_drewN | apply below_drew1 | refine below_set ?_ GE195.out | refine below_set ?_ GE206.out | refine below_set ?_ GE211.out | refine below_set ?_ GE217.out) | exact HB.out))) : w.heap.size ≤ gb239)); have n12_ := Aside0.mk ((by rw [hg]; exact (below_size (by repeat (first | (with_reducible first | exact HB.out | apply below_alloc | apply pw_below_drewN | apply below_drew1 | refine below_set ?_ GE195.out | refine below_set ?_ GE206.out | refine below_set ?_ GE211.out | refine below_set ?_ GE217.out) | exact HB.out))) : w.heap.size ≤ gb239)); have n13_ := Aside0.mk ((by rw [hg]; exact Nat.ne_of_lt (blk_lt (g := gb195) (o := .cells #[.int .i64 a0_0, .slice A0_1 l0_1.length c0_1] 79 (0, 0)) (by (with_reducible repeat (first | refine blk_drewN ?_ _ | refine blk_drew ?_ | refine blk_alloc ?_ _)); exact BK195.out)) : gb195 ≠ gb239)); have n14_ := Aside0.mk ((by rw [hg]; exact Nat.ne_of_gt (blk_lt (g := gb195) (o := .cells #[.int .i64 a0_0, .slice A0_1 l0_1.length c0_1] 79 (0, 0)) (by (with_reducible repeat (first | refine blk_drewN ?_ _ | refine blk_drew ?_ | refine blk_alloc ?_ _)); exact BK195.out)) : gb239 ≠ gb195)); have n15_ := Aside0.mk ((by rw [hg]; exact Nat.ne_of_lt (blk_lt (g := gb206) (o := .cells #[.int .i64 t201, .slice Ao23 t202.length co23] 83 (0, 0)) (by (with_reducible repeat (first | refine blk_drewN ?_ _ | refine blk_drew ?_ | refine blk_alloc ?_ _)); exact BK206.out)) : gb206 ≠ gb239)); have n16_ := Aside0.mk ((by rw [hg]; exact Nat.ne_of_gt (blk_lt (g := gb206) (o := .cells #[.int .i64 t201, .slice Ao23 t202.length co23] 83 (0, 0)) (by (with_reducible repeat (first | refine blk_drewN ?_ _ | refine blk_drew ?_ | refine blk_alloc ?_ _)); exact BK206.out)) : gb239 ≠ gb206)); have n17_ := Aside0.mk ((by rw [hg]; exact Nat.ne_of_lt (blk_lt (g := gb211) (o := .cells #[.int .i64 t207, .slice Ao30 t225.length co30] 83 (0, 0)) (by (with_reducible repeat (first | refine blk_drewN ?_ _ | refine blk_drew ?_ | refine blk_alloc ?_ _)); exact BK211.out)) : gb211 ≠ gb239)); have n18_ := Aside0.mk ((by rw [hg]; exact Nat.ne_of_gt (blk_lt (g := gb211) (o := .cells #[.int .i64 t207, .slice Ao30 t225.length co30] 83 (0, 0)) (by (with_reducible repeat (first | refine blk_drewN ?_ _ | refine blk_drew ?_ | refine blk_alloc ?_ _)); exact BK211.out)) : gb239 ≠ gb211)); have n19_ := Aside0.mk ((by rw [hg]; exact Nat.ne_of_lt (blk_lt (g := gb217) (o := .cells #[.int .i64 t212, .slice Ao37 t213.length co37] 83 (0, 0)) (by (with_reducible repeat (first | refine blk_drewN ?_ _ | refine blk_drew ?_ | refine blk_alloc ?_ _)); exact BK217.out)) : gb217 ≠ gb239)); have n20_ := Aside0.mk ((by rw [hg]; exact Nat.ne_of_gt (blk_lt (g := gb217) (o := .cells #[.int .i64 t212, .slice Ao37 t213.length co37] 83 (0, 0)) (by (with_reducible repeat (first | refine blk_drewN ?_ _ | refine blk_drew ?_ | refine blk_alloc ?_ _)); exact BK217.out)) : gb239 ≠ gb217)); clear HO_207001; clear HO_212001; clear HO_218001; clear HO233; clear HO237; clear BK195; clear BK206; clear BK211; clear BK217; clear HB; have HO_207001 := n0_; have HO_212001 := n1_; have HO_218001 := n2_; have HO233 := n3_; have HO237 := n4_; have BK195 := n5_; have BK206 := n6_; have BK211 := n7_; have BK217 := n8_; have HB := n9_; have BK239 := n10_; have GW239 := n11_; have GE239 := n12_; have NB195_239 := n13_; have NB239_195 := n14_; have NB206_239 := n15_; have NB239_206 := n16_; have NB211_239 := n17_; have NB239_211 := n18_; have NB217_239 := n19_; have NB239_217 := n20_; clear n0_ n1_ n2_ n3_ n4_ n5_ n6_ n7_ n8_ n9_ n10_ n11_ n12_ n13_ n14_ n15_ n16_ n17_ n18_ n19_ n20_; clear hb hbox hg; have hnb119 := NB239_195.out; have hnc119 := NB195_239.out; have hnb120 := NB239_206.out; have hnc120 := NB206_239.out; have hnb121 := NB239_211.out; have hnc121 := NB211_239.out; have hnb122 := NB239_217.out; have hnc122 := NB217_239.out; have hcz123_0 : w118.cell? ⟨gb239, 0, none⟩ = some (.int .i64 0) := (blk_cell BK239.out 0).trans rfl; have hcz123_1 : w118.cell? ⟨gb239, 1, none⟩ = some (.slice none 0 0) := (blk_cell BK239.out 1).trans rfl; have hfz123_0 := blk_frozen BK239.out 0; have hfz123_1 := blk_frozen BK239.out 1; obtain ⟨Ao124, co124, eo124⟩ := Kd.R_slice HO237.out; subst eo124))
           (try simp only [Act.put, List.setIfInBounds_toArray, List.set_cons_zero, List.set_cons_succ])
           go_cut [92] (fun v92 wc => ∃ (kq : Nat) (x92_103 : Bool), v92 = .bool x92_103 ∧ Aside0 (laws_FnExactDropTimer.j2 kq t227 x92_103 t212 t228 = some r) ∧ Aside0 (kq ≤ kj60) ∧ Aside0 (Kd.R k178 178 wc w.heap.size (fun k_ => some k_ ≠ ((.slice Ao30 t225.length co30) : Value).ownBlock ∧ some k_ ≠ ((.slice Ao37 t213.length co37) : Value).ownBlock ∧ some k_ ≠ ((.slice Ao124 t235.length co124) : Value).ownBlock) (.slice Ao23 t202.length co23) t202) ∧ Aside0 (Kd.R k178 178 wc w.heap.size (fun k_ => some k_ ≠ ((.slice Ao23 t202.length co23) : Value).ownBlock ∧ some k_ ≠ ((.slice Ao37 t213.length co37) : Value).ownBlock ∧ some k_ ≠ ((.slice Ao124 t235.length co124) : Value).ownBlock) (.slice Ao30 t225.length co30) t225) ∧ Aside0 (Kd.R k178 178 wc w.heap.size (fun k_ => some k_ ≠ ((.slice Ao23 t202.length co23) : Value).ownBlock ∧ some k_ ≠ ((.slice Ao30 t225.length co30) : Value).ownBlock ∧ some k_ ≠ ((.slice Ao124 t235.length co124) : Value).ownBlock) (.slice Ao37 t213.length co37) t228) ∧ Aside0 (Kd.R k178 178 wc w.heap.size (fun k_ => some k_ ≠ ((.slice Ao23 t202.length co23) : Value).ownBlock ∧ some k_ ≠ ((.slice Ao30 t225.length co30) : Value).ownBlock ∧ some k_ ≠ ((.slice Ao37 t213.length co37) : Value).ownBlock) (.slice Ao124 t235.length co124) t235) ∧ Aside0 (wc.heap[gb195]? = some (.cells #[.int .i64 a0_0, (.slice A0_1 l0_1.length c0_1)] 79 (0, 0))) ∧ Aside0 (wc.heap[gb206]? = some (.cells #[.int .i64 t201, (.slice Ao23 t202.length co23)] 83 (0, 0))) ∧ Aside0 (wc.heap[gb211]? = some (.cells #[.int .i64 t207, (.slice Ao30 t225.length co30)] 83 (0, 0))) ∧ Aside0 (wc.heap[gb217]? = some (.cells #[.int .i64 t212, (.slice Ao37 t213.length co37)] 83 (0, 0))) ∧ Aside0 (wc.heap[gb239]? = some (.cells #[.int .i64 t234, (.slice Ao124 t235.length co124)] 83 (0, 0))) ∧ Aside0 (Below w.heap.size w wc))
           case first =>
            have H := HC104.out
            clear HC104
            replace H := Option.bind_eq_some_iff.mp H
            obtain ⟨t240, A1250, H⟩ := H
            replace H : (if t240 = true then (laws_FnExactDropTimer.j2 kj60 t227 (t238 != t205) t212 t228) else (laws_FnExactDropTimer.j2 kj60 t227 true t212 t228)) = some r := H
            have A125 := Aside0.mk A1250
            clear A1250
            by_cases c126 : t240 = true
            ·subst c126
             have H1 : (laws_FnExactDropTimer.j2 kj60 t227 (t238 != t205) t212 t228) = some r := by rw [if_pos rfl] at H; exact H
             clear H
             have H := H1
             clear H1
             have H' := Aside0.mk H
             clear H
             have hnb127 := NB239_195.out
             have hnc127 := NB195_239.out
             have hnb128 := NB239_206.out
             have hnc128 := NB206_239.out
             have hnb129 := NB239_211.out
             have hnc129 := NB211_239.out
             have hnb130 := NB239_217.out
             have hnc130 := NB217_239.out
             have hcz131_0 : w118.cell? ⟨gb239, 0, none⟩ = some (.int .i64 0) := (blk_cell BK239.out 0).trans rfl
             have hcz131_1 : w118.cell? ⟨gb239, 1, none⟩ = some (.slice none 0 0) := (blk_cell BK239.out 1).trans rfl
             have hfz131_0 := blk_frozen BK239.out 0
             have hfz131_1 := blk_frozen BK239.out 1
             have hnb132 := NB206_195.out
             have hnc132 := NB195_206.out
             have hnb133 := NB206_211.out
             have hnc133 := NB211_206.out
             have hnb134 := NB206_217.out
             have hnc134 := NB217_206.out
             have hcz135_0 : w118.cell? ⟨gb206, 0, none⟩ = some (.int .i64 t201) := (blk_cell BK206.out 0).trans rfl
             have hcz135_1 : w118.cell? ⟨gb206, 1, none⟩ = some (.slice Ao23 t202.length co23) := (blk_cell BK206.out 1).trans rfl
             have hfz135_0 := blk_frozen BK206.out 0
             have hfz135_1 := blk_frozen BK206.out 1
             go_wp2_with (first | ((with_reducible refine gate_callee (f := 48) rfl ?_); refine goesL_ (some 86) rfl rfl Try.func48 (by kernel_rfl) rfl #[.agg #[.int .i64 t234, .slice Ao124 t235.length co124], .agg #[.int .i64 t201, .slice Ao23 t202.length co23]] rfl (by (try simp only [List.map_toArray, List.map_cons, List.map_nil]); first | done | rfl | (simp only [List.length_drop, List.length_take]; rfl)) ?_; (with_reducible refine (laws_eqClock.calls kj60 t234 _ _ t235 t201 _ _ t202 true _ ?side1 ?side2 ?side3 ?side4 A125.out).mono ?_); (case side1 => refine (Kd.R_reads' (e := 178) (base := w.heap.size) (ok := fun k_ => ((((True ∧ some k_ ≠ (.slice Ao23 t202.length co23 : Value).ownBlock) ∧ some k_ ≠ (.slice Ao30 t225.length co30 : Value).ownBlock) ∧ some k_ ≠ (.slice Ao37 t213.length co37 : Value).ownBlock) ∧ some k_ ≠ (.slice Ao116 t231.length co116 : Value).ownBlock)) (n := t235.length) (c := co124) ?_).2.2; exact (by (with_reducible repeat (first | apply Kd.R_alloc | apply Kd.R_drewN | apply Kd.R_drew)); exact (Kd.R_mono (Kd.R_far (p := ⟨gb239, 1, none⟩) (Kd.R_far (p := ⟨gb239, 0, none⟩) (Kd.R_types HO237.out BK239.out (by decide)) (fun _ hk => hk.2) (.int .i64 t234)) (fun _ hk => hk.2) (.slice Ao124 t235.length co124)) (fun _ h_ => h_.1)))); (case side2 => exact (Kd.R_reads' HO237.out).2.1); (case side3 => refine (Kd.R_reads' (e := 178) (base := w.heap.size) (ok := fun k_ => (((some k_ ≠ (.slice Ao30 t225.length co30 : Value).ownBlock ∧ some k_ ≠ (.slice Ao37 t213.length co37 : Value).ownBlock) ∧ some k_ ≠ (.slice Ao116 t231.length co116 : Value).ownBlock) ∧ some k_ ≠ (.slice Ao124 t235.length co124 : Value).ownBlock)) (n := t202.length) (c := co23) ?_).2.2; exact (by (with_reducible repeat (first | apply Kd.R_alloc | apply Kd.R_drewN | apply Kd.R_drew)); exact (Kd.R_mono (Kd.R_far (p := ⟨gb239, 1, none⟩) (Kd.R_far (p := ⟨gb239, 0, none⟩) (Kd.R_types HO_207001.out BK239.out (by decide)) (fun _ hk => hk.2) (.int .i64 t234)) (fun _ hk => hk.2) (.slice Ao124 t235.length co124)) (fun _ h_ => h_.1)))); (case side4 => exact (Kd.R_reads' HO_207001.out).2.1); rintro e w136 ⟨rfl, hb⟩; refine ⟨_, rfl, ?_⟩; have n0_ := Aside0.mk (Kd.R_below (by (with_reducible repeat (first | apply Kd.R_alloc | apply Kd.R_drewN | apply Kd.R_drew)); exact (Kd.R_mono (Kd.R_far (p := ⟨gb239, 1, none⟩) (Kd.R_far (p := ⟨gb239, 0, none⟩) (Kd.R_types HO_207001.out BK239.out (by decide)) (fun _ hk => hk.2) (.int .i64 t234)) (fun _ hk => hk.2) (.slice Ao124 t235.length co124)) (fun _ h_ => h_.1))) hb); have n1_ := Aside0.mk (Kd.R_below (by (with_reducible repeat (first | apply Kd.R_alloc | apply Kd.R_drewN | apply Kd.R_drew)); exact (Kd.R_mono (Kd.R_far (p := ⟨gb239, 1, none⟩) (Kd.R_far (p := ⟨gb239, 0, none⟩) (Kd.R_types HO_212001.out BK239.out (by decide)) (fun _ hk => hk.2) (.int .i64 t234)) (fun _ hk => hk.2) (.slice Ao124 t235.length co124)) (fun _ h_ => h_.1))) hb); have n2_ := Aside0.mk (Kd.R_below (by (with_reducible repeat (first | apply Kd.R_alloc | apply Kd.R_drewN | apply Kd.R_drew)); exact (Kd.R_mono (Kd.R_far (p := ⟨gb239, 1, none⟩) (Kd.R_far (p := ⟨gb239, 0, none⟩) (Kd.R_types HO_218001.out BK239.out (by decide)) (fun _ hk => hk.2) (.int .i64 t234)) (fun _ hk => hk.2) (.slice Ao124 t235.length co124)) (fun _ h_ => h_.1))) hb); have n3_ := Aside0.mk (Kd.R_below (by (with_reducible repeat (first | apply Kd.R_alloc | apply Kd.R_drewN | apply Kd.R_drew)); exact (Kd.R_mono (Kd.R_far (p := ⟨gb239, 1, none⟩) (Kd.R_far (p := ⟨gb239, 0, none⟩) (Kd.R_types HO233.out BK239.out (by decide)) (fun _ hk => hk.2) (.int .i64 t234)) (fun _ hk => hk.2) (.slice Ao124 t235.length co124)) (fun _ h_ => h_.1))) hb); have n4_ := Aside0.mk (Kd.R_below (by (with_reducible repeat (first | apply Kd.R_alloc | apply Kd.R_drewN | apply Kd.R_drew)); exact (Kd.R_mono (Kd.R_far (p := ⟨gb239, 1, none⟩) (Kd.R_far (p := ⟨gb239, 0, none⟩) (Kd.R_types HO237.out BK239.out (by decide)) (fun _ hk => hk.2) (.int .i64 t234)) (fun _ hk => hk.2) (.slice Ao124 t235.length co124)) (fun _ h_ => h_.1))) hb); have n5_ := Aside0.mk (blk_below (g := gb195) (o := .cells #[.int .i64 a0_0, .slice A0_1 l0_1.length c0_1] 79 (0, 0)) (by (with_reducible repeat (first | refine blk_drewN ?_ _ | refine blk_drew ?_ | refine blk_alloc ?_ _)); refine blk_far ?_ NB195_239.out _; (with_reducible repeat (first | refine blk_drewN ?_ _ | refine blk_drew ?_ | refine blk_alloc ?_ _)); refine blk_far ?_ NB195_239.out _; (with_reducible repeat (first | refine blk_drewN ?_ _ | refine blk_drew ?_ | refine blk_alloc ?_ _)); exact BK195.out) hb); have n6_ := Aside0.mk (blk_below (g := gb206) (o := .cells #[.int .i64 t201, .slice Ao23 t202.length co23] 83 (0, 0)) (by (with_reducible repeat (first | refine blk_drewN ?_ _ | refine blk_drew ?_ | refine blk_alloc ?_ _)); refine blk_far ?_ NB206_239.out _; (with_reducible repeat (first | refine blk_drewN ?_ _ | refine blk_drew ?_ | refine blk_alloc ?_ _)); refine blk_far ?_ NB206_239.out _; (with_reducible repeat (first | refine blk_drewN ?_ _ | refine blk_drew ?_ | refine blk_alloc ?_ _)); exact BK206.out) hb); have n7_ := Aside0.mk (blk_below (g := gb211) (o := .cells #[.int .i64 t207, .slice Ao30 t225.length co30] 83 (0, 0)) (by (with_reducible repeat (first | refine blk_drewN ?_ _ | refine blk_drew ?_ | refine blk_alloc ?_ _)); refine blk_far ?_ NB211_239.out _; (with_reducible repeat (first | refine blk_drewN ?_ _ | refine blk_drew ?_ | refine blk_alloc ?_ _)); refine blk_far ?_ NB211_239.out _; (with_reducible repeat (first | refine blk_drewN ?_ _ | refine blk_drew ?_ | refine blk_alloc ?_ _)); exact BK211.out) hb); have n8_ := Aside0.mk (blk_below (g := gb217) (o := .cells #[.int .i64 t212, .slice Ao37 t213.length co37] 83 (0, 0)) (by (with_reducible repeat (first | refine blk_drewN ?_ _ | refine blk_drew ?_ | refine blk_alloc ?_ _)); refine blk_far ?_ NB217_239.out _; (with_reducible repeat (first | refine blk_drewN ?_ _ | refine blk_drew ?_ | refine blk_alloc ?_ _)); refine blk_far ?_ NB217_239.out _; (with_reducible repeat (first | refine blk_drewN ?_ _ | refine blk_drew ?_ | refine blk_alloc ?_ _)); exact BK217.out) hb); have n9_ := Aside0.mk (blk_below (g := gb239) (o := .cells #[.int .i64 t234, .slice Ao124 t235.length co124] 83 (0, 0)) (by (with_reducible repeat (first | refine blk_drewN ?_ _ | refine blk_drew ?_ | refine blk_alloc ?_ _)); refine blk_put (cs := #[.int .i64 t234, .slice none 0 0]) ?_ 1 _ rfl; (with_reducible repeat (first | refine blk_drewN ?_ _ | refine blk_drew ?_ | refine blk_alloc ?_ _)); refine blk_put (cs := #[.int .i64 0, .slice none 0 0]) ?_ 0 _ rfl; (with_reducible repeat (first | refine blk_drewN ?_ _ | refine blk_drew ?_ | refine blk_alloc ?_ _)); exact BK239.out) hb); have n10_ := Aside0.mk (below_step (by repeat (first | (with_reducible first | exact HB.out | apply below_alloc | apply pw_below_drewN | apply below_drew1 | refine below_set ?_ GE195.out | refine below_set ?_ GE206.out | refine below_set ?_ GE211.out | refine below_set ?_ GE217.out | refine below_set ?_ GE239.out) | exact HB.out)) hb); clear HO_207001; clear HO_212001; clear HO_218001; clear HO233; clear HO237; clear BK195; clear BK206; clear BK211; clear BK217; clear BK239; clear HB; have HO_207001 := n0_; have HO_212001 := n1_; have HO_218001 := n2_; have HO233 := n3_; have HO237 := n4_; have BK195 := n5_; have BK206 := n6_; have BK211 := n7_; have BK217 := n8_; have BK239 := n9_; have HB := n10_; clear n0_ n1_ n2_ n3_ n4_ n5_ n6_ n7_ n8_ n9_ n10_; (try clear hb); (try clear hb2); (try clear hk); (try clear hi)))
             go_meet
             case rel => exact ⟨_, ((t238 != t205)), (by first | rfl | (simp; done) | (simp [*]; done) | exact not_isEmpty _ | exact (not_isEmpty _).symm | exact is_empty _ | exact (is_empty _).symm), H', ⟨by have := HJ11.out; have := HJ60.out; first | omega | exact Nat.le_refl _⟩, ⟨by (try simp only [hl212001_60]); (with_reducible repeat (first | apply Kd.R_alloc | apply Kd.R_drewN | apply Kd.R_drew)); exact Kd.R_mono HO_207001.out (fun _ hk => ⟨hk.1.1.1, ⟨hk.1.1.2, hk.2⟩⟩)⟩, ⟨by (try simp only [hl212001_60]); (with_reducible repeat (first | apply Kd.R_alloc | apply Kd.R_drewN | apply Kd.R_drew)); exact Kd.R_mono HO_212001.out (fun _ hk => ⟨hk.1.1.1, ⟨hk.1.1.2, hk.2⟩⟩)⟩, ⟨by (try simp only [hl212001_60]); (with_reducible repeat (first | apply Kd.R_alloc | apply Kd.R_drewN | apply Kd.R_drew)); exact Kd.R_mono HO_218001.out (fun _ hk => ⟨hk.1.1.1, ⟨hk.1.1.2, hk.2⟩⟩)⟩, ⟨by (try simp only [hl212001_60]); (with_reducible repeat (first | apply Kd.R_alloc | apply Kd.R_drewN | apply Kd.R_drew)); exact Kd.R_mono HO237.out (fun _ hk => ⟨hk.1.1.1.2, ⟨hk.1.1.2, hk.1.2⟩⟩)⟩, ⟨by (try simp only [hl212001_60]); (with_reducible repeat (first | refine blk_drewN ?_ _ | refine blk_drew ?_ | refine blk_alloc ?_ _)); exact BK195.out⟩, ⟨by (try simp only [hl212001_60]); (with_reducible repeat (first | refine blk_drewN ?_ _ | refine blk_drew ?_ | refine blk_alloc ?_ _)); exact BK206.out⟩, ⟨by (try simp only [hl212001_60]); (with_reducible repeat (first | refine blk_drewN ?_ _ | refine blk_drew ?_ | refine blk_alloc ?_ _)); exact BK211.out⟩, ⟨by (try simp only [hl212001_60]); (with_reducible repeat (first | refine blk_drewN ?_ _ | refine blk_drew ?_ | refine blk_alloc ?_ _)); exact BK217.out⟩, ⟨by (try simp only [hl212001_60]); (with_reducible repeat (first | refine blk_drewN ?_ _ | refine blk_drew ?_ | refine blk_alloc ?_ _)); exact BK239.out⟩, ⟨by repeat (first | (with_reducible first | exact HB.out | apply below_alloc | apply pw_below_drewN | apply below_drew1 | refine below_set ?_ GE195.out | refine below_set ?_ GE206.out | refine below_set ?_ GE211.out | refine below_set ?_ GE217.out | refine below_set ?_ GE239.out) | exact HB.out)⟩⟩
            ·replace c126 := Bool.eq_false_iff.mpr c126
             subst c126
             have H1 : (laws_FnExactDropTimer.j2 kj60 t227 true t212 t228) = some r := by rw [if_neg (show ¬ (false = true) by decide)] at H; exact H
             clear H
             have H := H1
             clear H1
             have H' := Aside0.mk H
             clear H
             have hnb137 := NB239_195.out
             have hnc137 := NB195_239.out
             have hnb138 := NB239_206.out
             have hnc138 := NB206_239.out
             have hnb139 := NB239_211.out
             have hnc139 := NB211_239.out
             have hnb140 := NB239_217.out
             have hnc140 := NB217_239.out
             have hcz141_0 : w118.cell? ⟨gb239, 0, none⟩ = some (.int .i64 0) := (blk_cell BK239.out 0).trans rfl
             have hcz141_1 : w118.cell? ⟨gb239, 1, none⟩ = some (.slice none 0 0) := (blk_cell BK239.out 1).trans rfl
             have hfz141_0 := blk_frozen BK239.out 0
             have hfz141_1 := blk_frozen BK239.out 1
             have hnb142 := NB206_195.out
             have hnc142 := NB195_206.out
             have hnb143 := NB206_211.out
             have hnc143 := NB211_206.out
             have hnb144 := NB206_217.out
             have hnc144 := NB217_206.out
             have hcz145_0 : w118.cell? ⟨gb206, 0, none⟩ = some (.int .i64 t201) := (blk_cell BK206.out 0).trans rfl
             have hcz145_1 : w118.cell? ⟨gb206, 1, none⟩ = some (.slice Ao23 t202.length co23) := (blk_cell BK206.out 1).trans rfl
             have hfz145_0 := blk_frozen BK206.out 0
             have hfz145_1 := blk_frozen BK206.out 1
             go_wp2_with (first | ((with_reducible refine gate_callee (f := 48) rfl ?_); refine goesL_ (some 86) rfl rfl Try.func48 (by kernel_rfl) rfl #[.agg #[.int .i64 t234, .slice Ao124 t235.length co124], .agg #[.int .i64 t201, .slice Ao23 t202.length co23]] rfl (by (try simp only [List.map_toArray, List.map_cons, List.map_nil]); first | done | rfl | (simp only [List.length_drop, List.length_take]; rfl)) ?_; (with_reducible refine (laws_eqClock.calls kj60 t234 _ _ t235 t201 _ _ t202 false _ ?side1 ?side2 ?side3 ?side4 A125.out).mono ?_); (case side1 => refine (Kd.R_reads' (e := 178) (base := w.heap.size) (ok := fun k_ => ((((True ∧ some k_ ≠ (.slice Ao23 t202.length co23 : Value).ownBlock) ∧ some k_ ≠ (.slice Ao30 t225.length co30 : Value).ownBlock) ∧ some k_ ≠ (.slice Ao37 t213.length co37 : Value).ownBlock) ∧ some k_ ≠ (.slice Ao116 t231.length co116 : Value).ownBlock)) (n := t235.length) (c := co124) ?_).2.2; exact (by (with_reducible repeat (first | apply Kd.R_alloc | apply Kd.R_drewN | apply Kd.R_drew)); exact (Kd.R_mono (Kd.R_far (p := ⟨gb239, 1, none⟩) (Kd.R_far (p := ⟨gb239, 0, none⟩) (Kd.R_types HO237.out BK239.out (by decide)) (fun _ hk => hk.2) (.int .i64 t234)) (fun _ hk => hk.2) (.slice Ao124 t235.length co124)) (fun _ h_ => h_.1)))); (case side2 => exact (Kd.R_reads' HO237.out).2.1); (case side3 => refine (Kd.R_reads' (e := 178) (base := w.heap.size) (ok := fun k_ => (((some k_ ≠ (.slice Ao30 t225.length co30 : Value).ownBlock ∧ some k_ ≠ (.slice Ao37 t213.length co37 : Value).ownBlock) ∧ some k_ ≠ (.slice Ao116 t231.length co116 : Value).ownBlock) ∧ some k_ ≠ (.slice Ao124 t235.length co124 : Value).ownBlock)) (n := t202.length) (c := co23) ?_).2.2; exact (by (with_reducible repeat (first | apply Kd.R_alloc | apply Kd.R_drewN | apply Kd.R_drew)); exact (Kd.R_mono (Kd.R_far (p := ⟨gb239, 1, none⟩) (Kd.R_far (p := ⟨gb239, 0, none⟩) (Kd.R_types HO_207001.out BK239.out (by decide)) (fun _ hk => hk.2) (.int .i64 t234)) (fun _ hk => hk.2) (.slice Ao124 t235.length co124)) (fun _ h_ => h_.1)))); (case side4 => exact (Kd.R_reads' HO_207001.out).2.1); rintro e w146 ⟨rfl, hb⟩; refine ⟨_, rfl, ?_⟩; have n0_ := Aside0.mk (Kd.R_below (by (with_reducible repeat (first | apply Kd.R_alloc | apply Kd.R_drewN | apply Kd.R_drew)); exact (Kd.R_mono (Kd.R_far (p := ⟨gb239, 1, none⟩) (Kd.R_far (p := ⟨gb239, 0, none⟩) (Kd.R_types HO_207001.out BK239.out (by decide)) (fun _ hk => hk.2) (.int .i64 t234)) (fun _ hk => hk.2) (.slice Ao124 t235.length co124)) (fun _ h_ => h_.1))) hb); have n1_ := Aside0.mk (Kd.R_below (by (with_reducible repeat (first | apply Kd.R_alloc | apply Kd.R_drewN | apply Kd.R_drew)); exact (Kd.R_mono (Kd.R_far (p := ⟨gb239, 1, none⟩) (Kd.R_far (p := ⟨gb239, 0, none⟩) (Kd.R_types HO_212001.out BK239.out (by decide)) (fun _ hk => hk.2) (.int .i64 t234)) (fun _ hk => hk.2) (.slice Ao124 t235.length co124)) (fun _ h_ => h_.1))) hb); have n2_ := Aside0.mk (Kd.R_below (by (with_reducible repeat (first | apply Kd.R_alloc | apply Kd.R_drewN | apply Kd.R_drew)); exact (Kd.R_mono (Kd.R_far (p := ⟨gb239, 1, none⟩) (Kd.R_far (p := ⟨gb239, 0, none⟩) (Kd.R_types HO_218001.out BK239.out (by decide)) (fun _ hk => hk.2) (.int .i64 t234)) (fun _ hk => hk.2) (.slice Ao124 t235.length co124)) (fun _ h_ => h_.1))) hb); have n3_ := Aside0.mk (Kd.R_below (by (with_reducible repeat (first | apply Kd.R_alloc | apply Kd.R_drewN | apply Kd.R_drew)); exact (Kd.R_mono (Kd.R_far (p := ⟨gb239, 1, none⟩) (Kd.R_far (p := ⟨gb239, 0, none⟩) (Kd.R_types HO233.out BK239.out (by decide)) (fun _ hk => hk.2) (.int .i64 t234)) (fun _ hk => hk.2) (.slice Ao124 t235.length co124)) (fun _ h_ => h_.1))) hb); have n4_ := Aside0.mk (Kd.R_below (by (with_reducible repeat (first | apply Kd.R_alloc | apply Kd.R_drewN | apply Kd.R_drew)); exact (Kd.R_mono (Kd.R_far (p := ⟨gb239, 1, none⟩) (Kd.R_far (p := ⟨gb239, 0, none⟩) (Kd.R_types HO237.out BK239.out (by decide)) (fun _ hk => hk.2) (.int .i64 t234)) (fun _ hk => hk.2) (.slice Ao124 t235.length co124)) (fun _ h_ => h_.1))) hb); have n5_ := Aside0.mk (blk_below (g := gb195) (o := .cells #[.int .i64 a0_0, .slice A0_1 l0_1.length c0_1] 79 (0, 0)) (by (with_reducible repeat (first | refine blk_drewN ?_ _ | refine blk_drew ?_ | refine blk_alloc ?_ _)); refine blk_far ?_ NB195_239.out _; (with_reducible repeat (first | refine blk_drewN ?_ _ | refine blk_drew ?_ | refine blk_alloc ?_ _)); refine blk_far ?_ NB195_239.out _; (with_reducible repeat (first | refine blk_drewN ?_ _ | refine blk_drew ?_ | refine blk_alloc ?_ _)); exact BK195.out) hb); have n6_ := Aside0.mk (blk_below (g := gb206) (o := .cells #[.int .i64 t201, .slice Ao23 t202.length co23] 83 (0, 0)) (by (with_reducible repeat (first | refine blk_drewN ?_ _ | refine blk_drew ?_ | refine blk_alloc ?_ _)); refine blk_far ?_ NB206_239.out _; (with_reducible repeat (first | refine blk_drewN ?_ _ | refine blk_drew ?_ | refine blk_alloc ?_ _)); refine blk_far ?_ NB206_239.out _; (with_reducible repeat (first | refine blk_drewN ?_ _ | refine blk_drew ?_ | refine blk_alloc ?_ _)); exact BK206.out) hb); have n7_ := Aside0.mk (blk_below (g := gb211) (o := .cells #[.int .i64 t207, .slice Ao30 t225.length co30] 83 (0, 0)) (by (with_reducible repeat (first | refine blk_drewN ?_ _ | refine blk_drew ?_ | refine blk_alloc ?_ _)); refine blk_far ?_ NB211_239.out _; (with_reducible repeat (first | refine blk_drewN ?_ _ | refine blk_drew ?_ | refine blk_alloc ?_ _)); refine blk_far ?_ NB211_239.out _; (with_reducible repeat (first | refine blk_drewN ?_ _ | refine blk_drew ?_ | refine blk_alloc ?_ _)); exact BK211.out) hb); have n8_ := Aside0.mk (blk_below (g := gb217) (o := .cells #[.int .i64 t212, .slice Ao37 t213.length co37] 83 (0, 0)) (by (with_reducible repeat (first | refine blk_drewN ?_ _ | refine blk_drew ?_ | refine blk_alloc ?_ _)); refine blk_far ?_ NB217_239.out _; (with_reducible repeat (first | refine blk_drewN ?_ _ | refine blk_drew ?_ | refine blk_alloc ?_ _)); refine blk_far ?_ NB217_239.out _; (with_reducible repeat (first | refine blk_drewN ?_ _ | refine blk_drew ?_ | refine blk_alloc ?_ _)); exact BK217.out) hb); have n9_ := Aside0.mk (blk_below (g := gb239) (o := .cells #[.int .i64 t234, .slice Ao124 t235.length co124] 83 (0, 0)) (by (with_reducible repeat (first | refine blk_drewN ?_ _ | refine blk_drew ?_ | refine blk_alloc ?_ _)); refine blk_put (cs := #[.int .i64 t234, .slice none 0 0]) ?_ 1 _ rfl; (with_reducible repeat (first | refine blk_drewN ?_ _ | refine blk_drew ?_ | refine blk_alloc ?_ _)); refine blk_put (cs := #[.int .i64 0, .slice none 0 0]) ?_ 0 _ rfl; (with_reducible repeat (first | refine blk_drewN ?_ _ | refine blk_drew ?_ | refine blk_alloc ?_ _)); exact BK239.out) hb); have n10_ := Aside0.mk (below_step (by repeat (first | (with_reducible first | exact HB.out | apply below_alloc | apply pw_below_drewN | apply below_drew1 | refine below_set ?_ GE195.out | refine below_set ?_ GE206.out | refine below_set ?_ GE211.out | refine below_set ?_ GE217.out | refine below_set ?_ GE239.out) | exact HB.out)) hb); clear HO_207001; clear HO_212001; clear HO_218001; clear HO233; clear HO237; clear BK195; clear BK206; clear BK211; clear BK217; clear BK239; clear HB; have HO_207001 := n0_; have HO_212001 := n1_; have HO_218001 := n2_; have HO233 := n3_; have HO237 := n4_; have BK195 := n5_; have BK206 := n6_; have BK211 := n7_; have BK217 := n8_; have BK239 := n9_; have HB := n10_; clear n0_ n1_ n2_ n3_ n4_ n5_ n6_ n7_ n8_ n9_ n10_; (try clear hb); (try clear hb2); (try clear hk); (try clear hi)))
             go_meet
             case rel => exact ⟨_, (true), (by first | rfl | (simp; done) | (simp [*]; done) | exact not_isEmpty _ | exact (not_isEmpty _).symm | exact is_empty _ | exact (is_empty _).symm), H', ⟨by have := HJ11.out; have := HJ60.out; first | omega | exact Nat.le_refl _⟩, ⟨by (try simp only [hl212001_60]); (with_reducible repeat (first | apply Kd.R_alloc | apply Kd.R_drewN | apply Kd.R_drew)); exact Kd.R_mono HO_207001.out (fun _ hk => ⟨hk.1.1.1, ⟨hk.1.1.2, hk.2⟩⟩)⟩, ⟨by (try simp only [hl212001_60]); (with_reducible repeat (first | apply Kd.R_alloc | apply Kd.R_drewN | apply Kd.R_drew)); exact Kd.R_mono HO_212001.out (fun _ hk => ⟨hk.1.1.1, ⟨hk.1.1.2, hk.2⟩⟩)⟩, ⟨by (try simp only [hl212001_60]); (with_reducible repeat (first | apply Kd.R_alloc | apply Kd.R_drewN | apply Kd.R_drew)); exact Kd.R_mono HO_218001.out (fun _ hk => ⟨hk.1.1.1, ⟨hk.1.1.2, hk.2⟩⟩)⟩, ⟨by (try simp only [hl212001_60]); (with_reducible repeat (first | apply Kd.R_alloc | apply Kd.R_drewN | apply Kd.R_drew)); exact Kd.R_mono HO237.out (fun _ hk => ⟨hk.1.1.1.2, ⟨hk.1.1.2, hk.1.2⟩⟩)⟩, ⟨by (try simp only [hl212001_60]); (with_reducible repeat (first | refine blk_drewN ?_ _ | refine blk_drew ?_ | refine blk_alloc ?_ _)); exact BK195.out⟩, ⟨by (try simp only [hl212001_60]); (with_reducible repeat (first | refine blk_drewN ?_ _ | refine blk_drew ?_ | refine blk_alloc ?_ _)); exact BK206.out⟩, ⟨by (try simp only [hl212001_60]); (with_reducible repeat (first | refine blk_drewN ?_ _ | refine blk_drew ?_ | refine blk_alloc ?_ _)); exact BK211.out⟩, ⟨by (try simp only [hl212001_60]); (with_reducible repeat (first | refine blk_drewN ?_ _ | refine blk_drew ?_ | refine blk_alloc ?_ _)); exact BK217.out⟩, ⟨by (try simp only [hl212001_60]); (with_reducible repeat (first | refine blk_drewN ?_ _ | refine blk_drew ?_ | refine blk_alloc ?_ _)); exact BK239.out⟩, ⟨by repeat (first | (with_reducible first | exact HB.out | apply below_alloc | apply pw_below_drewN | apply below_drew1 | refine below_set ?_ GE195.out | refine below_set ?_ GE206.out | refine below_set ?_ GE211.out | refine below_set ?_ GE217.out | refine below_set ?_ GE239.out) | exact HB.out)⟩⟩
           case rest =>
            clear HC104
            try clear c1
            try clear c2
            try clear p2
            try clear c3
            try clear c4
            try clear c4b0
            try clear c5
            try clear c6
            try clear c7
            try clear c8
            try clear c9
            try clear c10
            try clear c11
            try clear c12
            try clear c13
            try clear c14
            try clear c21
            try clear c27
            try clear c28
            try clear c33
            try clear c34
            try clear c35
            try clear c39
            try clear c40
            try clear c41
            try clear c42
            try clear c44
            try clear c45
            try clear c46
            try clear c47
            try clear c48
            try clear c49
            try clear c50
            try clear c52
            try clear c53
            try clear c56
            try clear c59
            try clear c66
            try clear c67
            try clear c68
            try clear c71
            try clear c71b0
            try clear c73
            try clear c74
            try clear c75
            try clear c76
            try clear c78
            try clear c79
            try clear c82
            try clear c83
            try clear c84
            try clear c86
            try clear c87
            try clear c90
            try clear c93
            try clear c93b0
            try clear c94
            try clear c95
            try clear c96
            try clear c101
            try clear c101b0
            try clear c101b1
            try clear c105
            try clear c106
            try clear c107
            try clear c112
            try clear c113
            try clear c119
            try clear c120
            try clear c121
            try clear c122
            try clear c126
            try clear c127
            try clear c128
            try clear c129
            try clear c130
            try clear c132
            try clear c133
            try clear c134
            try clear c137
            try clear c138
            try clear c139
            try clear c140
            try clear c142
            try clear c143
            try clear c144
            try clear hcz108_0
            try clear hcz108_1
            try clear hcz110_0
            try clear hcz110_1
            try clear hcz114_0
            try clear hcz114_1
            try clear hcz123_0
            try clear hcz123_1
            try clear hcz131_0
            try clear hcz131_1
            try clear hcz135_0
            try clear hcz135_1
            try clear hcz141_0
            try clear hcz141_1
            try clear hcz145_0
            try clear hcz145_1
            try clear hcz14_0
            try clear hcz14_1
            try clear hcz16_0
            try clear hcz16_1
            try clear hcz22_0
            try clear hcz22_1
            try clear hcz24_0
            try clear hcz24_1
            try clear hcz29_0
            try clear hcz29_1
            try clear hcz36_0
            try clear hcz36_1
            try clear hcz43_0
            try clear hcz43_1
            try clear hcz46_0
            try clear hcz46_1
            try clear hcz51_0
            try clear hcz51_1
            try clear hcz54_0
            try clear hcz54_1
            try clear hcz69_0
            try clear hcz69_1
            try clear hcz6_0
            try clear hcz6_1
            try clear hcz77_0
            try clear hcz77_1
            try clear hcz80_0
            try clear hcz80_1
            try clear hcz85_0
            try clear hcz85_1
            try clear hcz88_0
            try clear hcz88_1
            try clear hcz97_0
            try clear hcz97_1
            try clear hcz99_0
            try clear hcz99_1
            try clear hfz108_0
            try clear hfz108_1
            try clear hfz110_0
            try clear hfz110_1
            try clear hfz114_0
            try clear hfz114_1
            try clear hfz123_0
            try clear hfz123_1
            try clear hfz131_0
            try clear hfz131_1
            try clear hfz135_0
            try clear hfz135_1
            try clear hfz141_0
            try clear hfz141_1
            try clear hfz145_0
            try clear hfz145_1
            try clear hfz14_0
            try clear hfz14_1
            try clear hfz16_0
            try clear hfz16_1
            try clear hfz22_0
            try clear hfz22_1
            try clear hfz24_0
            try clear hfz24_1
            try clear hfz29_0
            try clear hfz29_1
            try clear hfz36_0
            try clear hfz36_1
            try clear hfz43_0
            try clear hfz43_1
            try clear hfz46_0
            try clear hfz46_1
            try clear hfz51_0
            try clear hfz51_1
            try clear hfz54_0
            try clear hfz54_1
            try clear hfz69_0
            try clear hfz69_1
            try clear hfz6_0
            try clear hfz6_1
            try clear hfz77_0
            try clear hfz77_1
            try clear hfz80_0
            try clear hfz80_1
            try clear hfz85_0
            try clear hfz85_1
            try clear hfz88_0
            try clear hfz88_1
            try clear hfz97_0
            try clear hfz97_1
            try clear hfz99_0
            try clear hfz99_1
            try clear p2
            obtain ⟨kq, x92_103, rfl, HA, HJ103, HO_207001, HO_212001, HO_218001, HO_240001, BK195, BK206, BK211, BK217, BK239, HB⟩ := hcut
            have hl218001_103 := (Kd.R_reads' HO_218001.out).1
            rw [hl218001_103] at HO_218001
            (try simp only [hl218001_103])
            (try simp only [hl218001_103] at BK195)
            (try simp only [hl218001_103] at BK206)
            (try simp only [hl218001_103] at BK211)
            (try simp only [hl218001_103] at BK217)
            (try simp only [hl218001_103] at BK239)
            (try simp only [hl218001_103] at HO_207001)
            (try simp only [hl218001_103] at HO_212001)
            (try simp only [hl218001_103] at HO_240001)
            cases kq with
            | zero => exact absurd HA.out (by simp [laws_FnExactDropTimer.j2])
            | succ kj103 =>
             have H := HA.out
             clear HA
             simp only [laws_FnExactDropTimer.j2] at H
             by_cases c147 : x92_103 = true
             ·subst c147
              have H1 : (some false) = some r := by rw [if_pos rfl] at H; exact H
              clear H
              have H := H1
              clear H1
              obtain rfl := Option.some.inj H
              go_wp2
              go_ret
              exact ⟨by first | rfl | (simp [errW_none, errW_some] <;> rfl) | (simp [*, errW_none, errW_some] <;> rfl), by repeat (first | (with_reducible first | exact HB.out | apply below_alloc | apply pw_below_drewN | apply below_drew1 | refine below_set ?_ GE195.out | refine below_set ?_ GE206.out | refine below_set ?_ GE211.out | refine below_set ?_ GE217.out | refine below_set ?_ GE239.out) | exact HB.out)⟩
             ·replace c147 := Bool.eq_false_iff.mpr c147
              subst c147
              have H1 : ((laws_heldClock.f kj103 t212 t228 1).bind fun t241 => (if t241 < 0 then (some false) else (if t241 = t227 then (some true) else (some false)))) = some r := by rw [if_neg (show ¬ (false = true) by decide)] at H; exact H
              clear H
              have H := H1
              clear H1
              replace H := Option.bind_eq_some_iff.mp H
              obtain ⟨t241, A1480, H⟩ := H
              replace H : (if t241 < 0 then (some false) else (if t241 = t227 then (some true) else (some false))) = some r := H
              have A148 := Aside0.mk A1480
              clear A1480
              by_cases c149 : t241 < 0
              ·rw [if_pos c149] at H
               have c149b0 : decide (t241 < 0) = true := decide_eq_true c149
               clear c149
               obtain rfl := Option.some.inj H
               have hnb150 := NB217_195.out
               have hnc150 := NB195_217.out
               have hnb151 := NB217_206.out
               have hnc151 := NB206_217.out
               have hnb152 := NB217_211.out
               have hnc152 := NB211_217.out
               have hnb153 := NB217_239.out
               have hnc153 := NB239_217.out
               have hcz154_0 : wc.cell? ⟨gb217, 0, none⟩ = some (.int .i64 t212) := (blk_cell BK217.out 0).trans rfl
               have hcz154_1 : wc.cell? ⟨gb217, 1, none⟩ = some (.slice Ao37 t228.length co37) := (blk_cell BK217.out 1).trans rfl
               have hfz154_0 := blk_frozen BK217.out 0
               have hfz154_1 := blk_frozen BK217.out 1
               go_wp2_with (first | ((with_reducible refine gate_callee (f := 50) rfl ?_); refine goesL_ (some 95) rfl rfl Try.func50 (by kernel_rfl) rfl #[.agg #[.int .i64 t212, .slice Ao37 t228.length co37], .int .i64 1] rfl (by (try simp only [List.map_toArray, List.map_cons, List.map_nil]); first | done | rfl | (simp only [List.length_drop, List.length_take]; rfl)) ?_; (with_reducible refine (laws_heldClock.calls kj103 t212 _ _ t228 1 t241 _ ?side1 ?side2 A148.out).mono ?_); (case side1 => repeat (first | exact (Kd.R_reads' HO_218001.out).2.2 | (with_reducible refine Kd.C_alloc ?_ _) | (with_reducible refine Kd.C_drewN ?_ _) | (with_reducible refine Kd.C_drew ?_))); (case side2 => exact (Kd.R_reads' HO_218001.out).2.1); rintro e w155 ⟨rfl, hb⟩; refine ⟨_, rfl, ?_⟩; have n0_ := Aside0.mk (Kd.R_below (by (with_reducible repeat (first | apply Kd.R_alloc | apply Kd.R_drewN | apply Kd.R_drew)); exact HO_207001.out) hb); have n1_ := Aside0.mk (Kd.R_below (by (with_reducible repeat (first | apply Kd.R_alloc | apply Kd.R_drewN | apply Kd.R_drew)); exact HO_212001.out) hb); have n2_ := Aside0.mk (Kd.R_below (by (with_reducible repeat (first | apply Kd.R_alloc | apply Kd.R_drewN | apply Kd.R_drew)); exact HO_218001.out) hb); have n3_ := Aside0.mk (Kd.R_below (by (with_reducible repeat (first | apply Kd.R_alloc | apply Kd.R_drewN | apply Kd.R_drew)); exact HO_240001.out) hb); have n4_ := Aside0.mk (blk_below (g := gb195) (o := .cells #[.int .i64 a0_0, .slice A0_1 l0_1.length c0_1] 79 (0, 0)) (by (with_reducible repeat (first | refine blk_drewN ?_ _ | refine blk_drew ?_ | refine blk_alloc ?_ _)); exact BK195.out) hb); have n5_ := Aside0.mk (blk_below (g := gb206) (o := .cells #[.int .i64 t201, .slice Ao23 t202.length co23] 83 (0, 0)) (by (with_reducible repeat (first | refine blk_drewN ?_ _ | refine blk_drew ?_ | refine blk_alloc ?_ _)); exact BK206.out) hb); have n6_ := Aside0.mk (blk_below (g := gb211) (o := .cells #[.int .i64 t207, .slice Ao30 t225.length co30] 83 (0, 0)) (by (with_reducible repeat (first | refine blk_drewN ?_ _ | refine blk_drew ?_ | refine blk_alloc ?_ _)); exact BK211.out) hb); have n7_ := Aside0.mk (blk_below (g := gb217) (o := .cells #[.int .i64 t212, .slice Ao37 t228.length co37] 83 (0, 0)) (by (with_reducible repeat (first | refine blk_drewN ?_ _ | refine blk_drew ?_ | refine blk_alloc ?_ _)); exact BK217.out) hb); have n8_ := Aside0.mk (blk_below (g := gb239) (o := .cells #[.int .i64 t234, .slice Ao124 t235.length co124] 83 (0, 0)) (by (with_reducible repeat (first | refine blk_drewN ?_ _ | refine blk_drew ?_ | refine blk_alloc ?_ _)); exact BK239.out) hb); have n9_ := Aside0.mk (below_step (by repeat (first | (with_reducible first | exact HB.out | apply below_alloc | apply pw_below_drewN | apply below_drew1 | refine below_set ?_ GE195.out | refine below_set ?_ GE206.out | refine below_set ?_ GE211.out | refine below_set ?_ GE217.out | refine below_set ?_ GE239.out) | exact HB.out)) hb); clear HO_207001; clear HO_212001; clear HO_218001; clear HO_240001; clear BK195; clear BK206; clear BK211; clear BK217; clear BK239; clear HB; have HO_207001 := n0_; have HO_212001 := n1_; have HO_218001 := n2_; have HO_240001 := n3_; have BK195 := n4_; have BK206 := n5_; have BK211 := n6_; have BK217 := n7_; have BK239 := n8_; have HB := n9_; clear n0_ n1_ n2_ n3_ n4_ n5_ n6_ n7_ n8_ n9_; (try clear hb); (try clear hb2); (try clear hk); (try clear hi)))
               go_ret
               exact ⟨by first | rfl | (simp [errW_none, errW_some] <;> rfl) | (simp [*, errW_none, errW_some] <;> rfl), by repeat (first | (with_reducible first | exact HB.out | apply below_alloc | apply pw_below_drewN | apply below_drew1 | refine below_set ?_ GE195.out | refine below_set ?_ GE206.out | refine below_set ?_ GE211.out | refine below_set ?_ GE217.out | refine below_set ?_ GE239.out) | exact HB.out)⟩
              ·rw [if_neg c149] at H
               have c149b0 : decide (t241 < 0) = false := decide_eq_false c149
               clear c149
               by_cases c156 : t241 = t227
               ·rw [if_pos c156] at H
                have c156b0 : (t241 == t227) = true := beq_iff_eq.mpr c156
                have c156b1 : (t241 != t227) = false := bne_eq_false_iff_eq.mpr c156
                clear c156
                obtain rfl := Option.some.inj H
                have hnb157 := NB217_195.out
                have hnc157 := NB195_217.out
                have hnb158 := NB217_206.out
                have hnc158 := NB206_217.out
                have hnb159 := NB217_211.out
                have hnc159 := NB211_217.out
                have hnb160 := NB217_239.out
                have hnc160 := NB239_217.out
                have hcz161_0 : wc.cell? ⟨gb217, 0, none⟩ = some (.int .i64 t212) := (blk_cell BK217.out 0).trans rfl
                have hcz161_1 : wc.cell? ⟨gb217, 1, none⟩ = some (.slice Ao37 t228.length co37) := (blk_cell BK217.out 1).trans rfl
                have hfz161_0 := blk_frozen BK217.out 0
                have hfz161_1 := blk_frozen BK217.out 1
                go_wp2_with (first | ((with_reducible refine gate_callee (f := 50) rfl ?_); refine goesL_ (some 95) rfl rfl Try.func50 (by kernel_rfl) rfl #[.agg #[.int .i64 t212, .slice Ao37 t228.length co37], .int .i64 1] rfl (by (try simp only [List.map_toArray, List.map_cons, List.map_nil]); first | done | rfl | (simp only [List.length_drop, List.length_take]; rfl)) ?_; (with_reducible refine (laws_heldClock.calls kj103 t212 _ _ t228 1 t241 _ ?side1 ?side2 A148.out).mono ?_); (case side1 => repeat (first | exact (Kd.R_reads' HO_218001.out).2.2 | (with_reducible refine Kd.C_alloc ?_ _) | (with_reducible refine Kd.C_drewN ?_ _) | (with_reducible refine Kd.C_drew ?_))); (case side2 => exact (Kd.R_reads' HO_218001.out).2.1); rintro e w162 ⟨rfl, hb⟩; refine ⟨_, rfl, ?_⟩; have n0_ := Aside0.mk (Kd.R_below (by (with_reducible repeat (first | apply Kd.R_alloc | apply Kd.R_drewN | apply Kd.R_drew)); exact HO_207001.out) hb); have n1_ := Aside0.mk (Kd.R_below (by (with_reducible repeat (first | apply Kd.R_alloc | apply Kd.R_drewN | apply Kd.R_drew)); exact HO_212001.out) hb); have n2_ := Aside0.mk (Kd.R_below (by (with_reducible repeat (first | apply Kd.R_alloc | apply Kd.R_drewN | apply Kd.R_drew)); exact HO_218001.out) hb); have n3_ := Aside0.mk (Kd.R_below (by (with_reducible repeat (first | apply Kd.R_alloc | apply Kd.R_drewN | apply Kd.R_drew)); exact HO_240001.out) hb); have n4_ := Aside0.mk (blk_below (g := gb195) (o := .cells #[.int .i64 a0_0, .slice A0_1 l0_1.length c0_1] 79 (0, 0)) (by (with_reducible repeat (first | refine blk_drewN ?_ _ | refine blk_drew ?_ | refine blk_alloc ?_ _)); exact BK195.out) hb); have n5_ := Aside0.mk (blk_below (g := gb206) (o := .cells #[.int .i64 t201, .slice Ao23 t202.length co23] 83 (0, 0)) (by (with_reducible repeat (first | refine blk_drewN ?_ _ | refine blk_drew ?_ | refine blk_alloc ?_ _)); exact BK206.out) hb); have n6_ := Aside0.mk (blk_below (g := gb211) (o := .cells #[.int .i64 t207, .slice Ao30 t225.length co30] 83 (0, 0)) (by (with_reducible repeat (first | refine blk_drewN ?_ _ | refine blk_drew ?_ | refine blk_alloc ?_ _)); exact BK211.out) hb); have n7_ := Aside0.mk (blk_below (g := gb217) (o := .cells #[.int .i64 t212, .slice Ao37 t228.length co37] 83 (0, 0)) (by (with_reducible repeat (first | refine blk_drewN ?_ _ | refine blk_drew ?_ | refine blk_alloc ?_ _)); exact BK217.out) hb); have n8_ := Aside0.mk (blk_below (g := gb239) (o := .cells #[.int .i64 t234, .slice Ao124 t235.length co124] 83 (0, 0)) (by (with_reducible repeat (first | refine blk_drewN ?_ _ | refine blk_drew ?_ | refine blk_alloc ?_ _)); exact BK239.out) hb); have n9_ := Aside0.mk (below_step (by repeat (first | (with_reducible first | exact HB.out | apply below_alloc | apply pw_below_drewN | apply below_drew1 | refine below_set ?_ GE195.out | refine below_set ?_ GE206.out | refine below_set ?_ GE211.out | refine below_set ?_ GE217.out | refine below_set ?_ GE239.out) | exact HB.out)) hb); clear HO_207001; clear HO_212001; clear HO_218001; clear HO_240001; clear BK195; clear BK206; clear BK211; clear BK217; clear BK239; clear HB; have HO_207001 := n0_; have HO_212001 := n1_; have HO_218001 := n2_; have HO_240001 := n3_; have BK195 := n4_; have BK206 := n5_; have BK211 := n6_; have BK217 := n7_; have BK239 := n8_; have HB := n9_; clear n0_ n1_ n2_ n3_ n4_ n5_ n6_ n7_ n8_ n9_; (try clear hb); (try clear hb2); (try clear hk); (try clear hi)))
                go_ret
                exact ⟨by first | rfl | (simp [errW_none, errW_some] <;> rfl) | (simp [*, errW_none, errW_some] <;> rfl), by repeat (first | (with_reducible first | exact HB.out | apply below_alloc | apply pw_below_drewN | apply below_drew1 | refine below_set ?_ GE195.out | refine below_set ?_ GE206.out | refine below_set ?_ GE211.out | refine below_set ?_ GE217.out | refine below_set ?_ GE239.out) | exact HB.out)⟩
               ·rw [if_neg c156] at H
                have c156b0 : (t241 == t227) = false := beq_eq_false_iff_ne.mpr c156
                have c156b1 : (t241 != t227) = true := bne_iff_ne.mpr c156
                obtain rfl := Option.some.inj H
                have hnb163 := NB217_195.out
                have hnc163 := NB195_217.out
                have hnb164 := NB217_206.out
                have hnc164 := NB206_217.out
                have hnb165 := NB217_211.out
                have hnc165 := NB211_217.out
                have hnb166 := NB217_239.out
                have hnc166 := NB239_217.out
                have hcz167_0 : wc.cell? ⟨gb217, 0, none⟩ = some (.int .i64 t212) := (blk_cell BK217.out 0).trans rfl
                have hcz167_1 : wc.cell? ⟨gb217, 1, none⟩ = some (.slice Ao37 t228.length co37) := (blk_cell BK217.out 1).trans rfl
                have hfz167_0 := blk_frozen BK217.out 0
                have hfz167_1 := blk_frozen BK217.out 1
                go_wp2_with (first | ((with_reducible refine gate_callee (f := 50) rfl ?_); refine goesL_ (some 95) rfl rfl Try.func50 (by kernel_rfl) rfl #[.agg #[.int .i64 t212, .slice Ao37 t228.length co37], .int .i64 1] rfl (by (try simp only [List.map_toArray, List.map_cons, List.map_nil]); first | done | rfl | (simp only [List.length_drop, List.length_take]; rfl)) ?_; (with_reducible refine (laws_heldClock.calls kj103 t212 _ _ t228 1 t241 _ ?side1 ?side2 A148.out).mono ?_); (case side1 => repeat (first | exact (Kd.R_reads' HO_218001.out).2.2 | (with_reducible refine Kd.C_alloc ?_ _) | (with_reducible refine Kd.C_drewN ?_ _) | (with_reducible refine Kd.C_drew ?_))); (case side2 => exact (Kd.R_reads' HO_218001.out).2.1); rintro e w168 ⟨rfl, hb⟩; refine ⟨_, rfl, ?_⟩; have n0_ := Aside0.mk (Kd.R_below (by (with_reducible repeat (first | apply Kd.R_alloc | apply Kd.R_drewN | apply Kd.R_drew)); exact HO_207001.out) hb); have n1_ := Aside0.mk (Kd.R_below (by (with_reducible repeat (first | apply Kd.R_alloc | apply Kd.R_drewN | apply Kd.R_drew)); exact HO_212001.out) hb); have n2_ := Aside0.mk (Kd.R_below (by (with_reducible repeat (first | apply Kd.R_alloc | apply Kd.R_drewN | apply Kd.R_drew)); exact HO_218001.out) hb); have n3_ := Aside0.mk (Kd.R_below (by (with_reducible repeat (first | apply Kd.R_alloc | apply Kd.R_drewN | apply Kd.R_drew)); exact HO_240001.out) hb); have n4_ := Aside0.mk (blk_below (g := gb195) (o := .cells #[.int .i64 a0_0, .slice A0_1 l0_1.length c0_1] 79 (0, 0)) (by (with_reducible repeat (first | refine blk_drewN ?_ _ | refine blk_drew ?_ | refine blk_alloc ?_ _)); exact BK195.out) hb); have n5_ := Aside0.mk (blk_below (g := gb206) (o := .cells #[.int .i64 t201, .slice Ao23 t202.length co23] 83 (0, 0)) (by (with_reducible repeat (first | refine blk_drewN ?_ _ | refine blk_drew ?_ | refine blk_alloc ?_ _)); exact BK206.out) hb); have n6_ := Aside0.mk (blk_below (g := gb211) (o := .cells #[.int .i64 t207, .slice Ao30 t225.length co30] 83 (0, 0)) (by (with_reducible repeat (first | refine blk_drewN ?_ _ | refine blk_drew ?_ | refine blk_alloc ?_ _)); exact BK211.out) hb); have n7_ := Aside0.mk (blk_below (g := gb217) (o := .cells #[.int .i64 t212, .slice Ao37 t228.length co37] 83 (0, 0)) (by (with_reducible repeat (first | refine blk_drewN ?_ _ | refine blk_drew ?_ | refine blk_alloc ?_ _)); exact BK217.out) hb); have n8_ := Aside0.mk (blk_below (g := gb239) (o := .cells #[.int .i64 t234, .slice Ao124 t235.length co124] 83 (0, 0)) (by (with_reducible repeat (first | refine blk_drewN ?_ _ | refine blk_drew ?_ | refine blk_alloc ?_ _)); exact BK239.out) hb); have n9_ := Aside0.mk (below_step (by repeat (first | (with_reducible first | exact HB.out | apply below_alloc | apply pw_below_drewN | apply below_drew1 | refine below_set ?_ GE195.out | refine below_set ?_ GE206.out | refine below_set ?_ GE211.out | refine below_set ?_ GE217.out | refine below_set ?_ GE239.out) | exact HB.out)) hb); clear HO_207001; clear HO_212001; clear HO_218001; clear HO_240001; clear BK195; clear BK206; clear BK211; clear BK217; clear BK239; clear HB; have HO_207001 := n0_; have HO_212001 := n1_; have HO_218001 := n2_; have HO_240001 := n3_; have BK195 := n4_; have BK206 := n5_; have BK211 := n6_; have BK217 := n7_; have BK239 := n8_; have HB := n9_; clear n0_ n1_ n2_ n3_ n4_ n5_ n6_ n7_ n8_ n9_; (try clear hb); (try clear hb2); (try clear hk); (try clear hi)))
                go_ret
                exact ⟨by first | rfl | (simp [errW_none, errW_some] <;> rfl) | (simp [*, errW_none, errW_some] <;> rfl), by repeat (first | (with_reducible first | exact HB.out | apply below_alloc | apply pw_below_drewN | apply below_drew1 | refine below_set ?_ GE195.out | refine below_set ?_ GE206.out | refine below_set ?_ GE211.out | refine below_set ?_ GE217.out | refine below_set ?_ GE239.out) | exact HB.out)⟩
          ·rw [if_neg c101] at H
           have c101b0 : (t229 == t227) = false := beq_eq_false_iff_ne.mpr c101
           have c101b1 : (t229 != t227) = true := bne_iff_ne.mpr c101
           obtain rfl := Option.some.inj H
           have hnb169 := NB217_195.out
           have hnc169 := NB195_217.out
           have hnb170 := NB217_206.out
           have hnc170 := NB206_217.out
           have hnb171 := NB217_211.out
           have hnc171 := NB211_217.out
           have hcz172_0 : wc.cell? ⟨gb217, 0, none⟩ = some (.int .i64 t212) := (blk_cell BK217.out 0).trans rfl
           have hcz172_1 : wc.cell? ⟨gb217, 1, none⟩ = some (.slice Ao37 t213.length co37) := (blk_cell BK217.out 1).trans rfl
           have hfz172_0 := blk_frozen BK217.out 0
           have hfz172_1 := blk_frozen BK217.out 1
           go_wp2_with (first | ((with_reducible refine gate_callee (f := 49) rfl ?_); refine goesL_ (some 68) rfl rfl Try.func49 (by kernel_rfl) rfl #[.agg #[.int .i64 t212, .slice Ao37 t213.length co37], .int .i64 1] rfl (by (try simp only [List.map_toArray, List.map_cons, List.map_nil]); first | done | rfl | (simp only [List.length_drop, List.length_take]; rfl)) ?_; (with_reducible refine (laws_markClock.calls kj60 t212 (fun k_ => some k_ = (.slice Ao37 t213.length co37 : Value).ownBlock) (.slice Ao37 t213.length co37) t213 1 t227 t228 w _ ?side1 ?side2 A91.out).mono ?_); (case side1 => repeat (first | (with_reducible first | exact HB.out | apply below_alloc | apply pw_below_drewN | apply below_drew1 | refine below_set ?_ GE195.out | refine below_set ?_ GE206.out | refine below_set ?_ GE211.out | refine below_set ?_ GE217.out) | exact HB.out)); (case side2 => exact Kd.R_tight rfl HO_218001.out); rintro e w173 ⟨rfl, hy0, hb, hkp⟩; refine ⟨_, rfl, ?_⟩; have n0_ := Aside0.mk (Kd.R_mono (ok' := fun k_ => some k_ ≠ (.slice Ao30 t225.length co30 : Value).ownBlock ∧ some k_ ≠ (.slice Ao37 t213.length co37 : Value).ownBlock) (Kd.R_keptB (HO_207001.out) hkp (fun k_ hk_ hs_ => (hk_.2) hs_)) (fun k_ hk_ => ⟨hk_.1.1, hk_.1.2⟩)); have n1_ := Aside0.mk (Kd.R_mono (ok' := fun k_ => some k_ ≠ (.slice Ao23 t202.length co23 : Value).ownBlock ∧ some k_ ≠ (.slice Ao37 t213.length co37 : Value).ownBlock) (Kd.R_keptB (HO_212001.out) hkp (fun k_ hk_ hs_ => (hk_.2) hs_)) (fun k_ hk_ => ⟨hk_.1.1, hk_.1.2⟩)); have n2_ := Aside0.mk (Kd.R_reok rfl hy0 (fun k_ e_ => HO_218001.out.1 k_ e_)); have n3_ := Aside0.mk (blk_kept (by (with_reducible repeat (first | refine blk_drewN ?_ _ | refine blk_drew ?_ | refine blk_alloc ?_ _)); exact BK195.out) hkp (fun hs_ => (fun e_ => (Kd.R_ne HO_218001.out BK195.out (by decide)) e_) hs_)); have n4_ := Aside0.mk (blk_kept (by (with_reducible repeat (first | refine blk_drewN ?_ _ | refine blk_drew ?_ | refine blk_alloc ?_ _)); exact BK206.out) hkp (fun hs_ => (fun e_ => (Kd.R_ne HO_218001.out BK206.out (by decide)) e_) hs_)); have n5_ := Aside0.mk (blk_kept (by (with_reducible repeat (first | refine blk_drewN ?_ _ | refine blk_drew ?_ | refine blk_alloc ?_ _)); exact BK211.out) hkp (fun hs_ => (fun e_ => (Kd.R_ne HO_218001.out BK211.out (by decide)) e_) hs_)); have n6_ := Aside0.mk (blk_kept (by (with_reducible repeat (first | refine blk_drewN ?_ _ | refine blk_drew ?_ | refine blk_alloc ?_ _)); exact BK217.out) hkp (fun hs_ => (fun e_ => (Kd.R_ne HO_218001.out BK217.out (by decide)) e_) hs_)); have n7_ := Aside0.mk (hb); clear HO_207001; clear HO_212001; clear HO_218001; clear BK195; clear BK206; clear BK211; clear BK217; clear HB; have HO_207001 := n0_; have HO_212001 := n1_; have HO_218001 := n2_; have BK195 := n3_; have BK206 := n4_; have BK211 := n5_; have BK217 := n6_; have HB := n7_; clear n0_ n1_ n2_ n3_ n4_ n5_ n6_ n7_; (try clear hb); (try clear hkp); (try clear hy0); have hcz174_0 : w173.cell? ⟨gb217, 0, none⟩ = some (.int .i64 t212) := (blk_cell BK217.out 0).trans rfl; have hcz174_1 : w173.cell? ⟨gb217, 1, none⟩ = some (.slice Ao37 t213.length co37) := (blk_cell BK217.out 1).trans rfl; have hfz174_0 := blk_frozen BK217.out 0; have hfz174_1 := blk_frozen BK217.out 1) | ((with_reducible refine gate_callee (f := 50) rfl ?_); refine goesL_ (some 71) rfl rfl Try.func50 (by kernel_rfl) rfl #[.agg #[.int .i64 t212, .slice Ao37 t228.length co37], .int .i64 1] rfl (by (try simp only [List.map_toArray, List.map_cons, List.map_nil]); first | done | (rw [show t228.length = t213.length from (Kd.R_reads' HO_218001.out).1.symm] <;> rfl) | rfl | (simp only [List.length_drop, List.length_take]; rfl)) ?_; (with_reducible refine (laws_heldClock.calls kj60 t212 _ _ t228 1 t229 _ ?side1 ?side2 A92.out).mono ?_); (case side1 => repeat (first | exact (Kd.R_reads' HO_218001.out).2.2 | (with_reducible refine Kd.C_alloc ?_ _) | (with_reducible refine Kd.C_drewN ?_ _) | (with_reducible refine Kd.C_drew ?_))); (case side2 => rw [show t228.length = t213.length from (Kd.R_reads' HO_218001.out).1.symm]; exact (Kd.R_reads' HO_218001.out).2.1); rintro e w175 ⟨rfl, hb⟩; refine ⟨_, rfl, ?_⟩; have n0_ := Aside0.mk (Kd.R_below (by (with_reducible repeat (first | apply Kd.R_alloc | apply Kd.R_drewN | apply Kd.R_drew)); exact HO_207001.out) hb); have n1_ := Aside0.mk (Kd.R_below (by (with_reducible repeat (first | apply Kd.R_alloc | apply Kd.R_drewN | apply Kd.R_drew)); exact HO_212001.out) hb); have n2_ := Aside0.mk (Kd.R_below (by (with_reducible repeat (first | apply Kd.R_alloc | apply Kd.R_drewN | apply Kd.R_drew)); exact HO_218001.out) hb); have n3_ := Aside0.mk (blk_below (g := gb195) (o := .cells #[.int .i64 a0_0, .slice A0_1 l0_1.length c0_1] 79 (0, 0)) (by (with_reducible repeat (first | refine blk_drewN ?_ _ | refine blk_drew ?_ | refine blk_alloc ?_ _)); exact BK195.out) hb); have n4_ := Aside0.mk (blk_below (g := gb206) (o := .cells #[.int .i64 t201, .slice Ao23 t202.length co23] 83 (0, 0)) (by (with_reducible repeat (first | refine blk_drewN ?_ _ | refine blk_drew ?_ | refine blk_alloc ?_ _)); exact BK206.out) hb); have n5_ := Aside0.mk (blk_below (g := gb211) (o := .cells #[.int .i64 t207, .slice Ao30 t225.length co30] 83 (0, 0)) (by (with_reducible repeat (first | refine blk_drewN ?_ _ | refine blk_drew ?_ | refine blk_alloc ?_ _)); exact BK211.out) hb); have n6_ := Aside0.mk (blk_below (g := gb217) (o := .cells #[.int .i64 t212, .slice Ao37 t213.length co37] 83 (0, 0)) (by (with_reducible repeat (first | refine blk_drewN ?_ _ | refine blk_drew ?_ | refine blk_alloc ?_ _)); exact BK217.out) hb); have n7_ := Aside0.mk (below_step (by repeat (first | (with_reducible first | exact HB.out | apply below_alloc | apply pw_below_drewN | apply below_drew1 | refine below_set ?_ GE195.out | refine below_set ?_ GE206.out | refine below_set ?_ GE211.out | refine below_set ?_ GE217.out) | exact HB.out)) hb); clear HO_207001; clear HO_212001; clear HO_218001; clear BK195; clear BK206; clear BK211; clear BK217; clear HB; have HO_207001 := n0_; have HO_212001 := n1_; have HO_218001 := n2_; have BK195 := n3_; have BK206 := n4_; have BK211 := n5_; have BK217 := n6_; have HB := n7_; clear n0_ n1_ n2_ n3_ n4_ n5_ n6_ n7_; (try clear hb); (try clear hb2); (try clear hk); (try clear hi)))
           go_ret
           exact ⟨by first | rfl | (simp [errW_none, errW_some] <;> rfl) | (simp [*, errW_none, errW_some] <;> rfl), by repeat (first | (with_reducible first | exact HB.out | apply below_alloc | apply pw_below_drewN | apply below_drew1 | refine below_set ?_ GE195.out | refine below_set ?_ GE206.out | refine below_set ?_ GE211.out | refine below_set ?_ GE217.out) | exact HB.out)⟩
     ·replace c59 := Bool.eq_false_iff.mpr c59
      subst c59
      have H1 : (some false) = some r := by rw [if_neg (show ¬ (false = true) by decide)] at H; exact H
      clear H
      have H := H1
      clear H1
      obtain rfl := Option.some.inj H
      try go_wp2
      have n0_ := Aside0.mk (Kd.R_drew HO_207001.out)
      have n1_ := Aside0.mk (Kd.R_drew HO_212001.out)
      have n2_ := Aside0.mk (Kd.R_drew HO_218001.out)
      have n3_ := Aside0.mk (blk_drew BK195.out)
      have n4_ := Aside0.mk (blk_drew BK206.out)
      have n5_ := Aside0.mk (blk_drew BK211.out)
      have n6_ := Aside0.mk (blk_drew BK217.out)
      have n7_ := Aside0.mk (below_drew1 HB.out)
      clear HO_207001
      clear HO_212001
      clear HO_218001
      clear BK195
      clear BK206
      clear BK211
      clear BK217
      clear HB
      have HO_207001 := n0_
      have HO_212001 := n1_
      have HO_218001 := n2_
      have BK195 := n3_
      have BK206 := n4_
      have BK211 := n5_
      have BK217 := n6_
      have HB := n7_
      clear n0_ n1_ n2_ n3_ n4_ n5_ n6_ n7_
      refine start_ (n := 5) (S := fun w' => w'.cell? ⟨gb211, 0, none⟩ = some (.int .i64 t207) ∧ w'.cell? ⟨gb211, 1, none⟩ = some (.slice Ao30 t208.length co30) ∧ w'.cell? ⟨gb195, 0, none⟩ = some (.int .i64 a0_0) ∧ w'.cell? ⟨gb195, 1, none⟩ = some (.slice A0_1 l0_1.length c0_1)) (ds := []) #[false, false, false, false, false] (by kernel_rfl) rfl rfl ⟨(blk_cell BK211.out 0).trans rfl, (blk_cell BK211.out 1).trans rfl, (blk_cell BK195.out 0).trans rfl, (blk_cell BK195.out 1).trans rfl⟩ (fun hHeld => ?_)
      generalize wc.drew = w176 at HO_207001 HO_212001 HO_218001 BK195 BK206 BK211 BK217 HB hHeld ⊢
      refine take_ (i := 0) (N := some 45) (v := ?_) (a' := ?_) (bz 5 1) rfl rfl (by kernel_rfl) (fun _ _ _ h => h) (Or.inl ⟨by rfl, ?_⟩) hHeld ?_ ?_
      rotate_left
      ·rintro w' ⟨s0, s1, s2, s3⟩
       go_simp
       with_reducible rfl
      rotate_left
      ·simp only [Act.put, List.setIfInBounds_toArray, List.set_cons_zero, List.set_cons_succ, i64_w, i32_w]
       rfl
      refine take_ (i := 1) (N := some 46) (v := ?_) (a' := ?_) (bz 5 3) rfl rfl (by kernel_rfl) (fun _ _ _ h => h) (Or.inl ⟨by rfl, ?_⟩) hHeld ?_ ?_
      rotate_left
      ·rintro w' ⟨s0, s1, s2, s3⟩
       go_simp
       with_reducible rfl
      rotate_left
      ·simp only [Act.put, List.setIfInBounds_toArray, List.set_cons_zero, List.set_cons_succ, i64_w, i32_w]
       rfl
      refine one_ (i := 2) (N := some 47) (bz 5 7) rfl rfl (by kernel_rfl) (by decide) (fun K hK => ?_)
      refine goes_ Try.func46 (by kernel_rfl) rfl #[.agg #[.int .i64 a0_0, .slice A0_1 l0_1.length c0_1]] (by rfl) rfl rfl (by (try simp only [List.map_toArray, List.map_cons, List.map_nil]); first | done | rfl | (simp only [List.length_drop, List.length_take]; rfl)) ?_
      with_reducible refine (laws_toClock.calls kj11 a0_0 _ _ l0_1 t219 t220 _ ?side1 ?side2 A57.out).mono ?_
      (case side1 => repeat (first | exact (Kd.C_below HR0_1.out HB.out) | (with_reducible refine Kd.C_alloc ?_ _) | (with_reducible refine Kd.C_drewN ?_ _) | (with_reducible refine Kd.C_drew ?_)))
      (case side2 => exact HC0_1.out)
      rintro e w177 ⟨v221, rfl, ho0, hb⟩
      refine ⟨_, rfl, ?_⟩
      have n0_ := Aside0.mk (Kd.R_elder' (by (with_reducible repeat (first | apply Kd.R_alloc | apply Kd.R_drewN | apply Kd.R_drew)); exact HO_207001.out) (Kd.R_base ho0) hb)
      have n1_ := Aside0.mk (Kd.R_elder' (by (with_reducible repeat (first | apply Kd.R_alloc | apply Kd.R_drewN | apply Kd.R_drew)); exact HO_212001.out) (Kd.R_base ho0) hb)
      have n2_ := Aside0.mk (Kd.R_elder' (by (with_reducible repeat (first | apply Kd.R_alloc | apply Kd.R_drewN | apply Kd.R_drew)); exact HO_218001.out) (Kd.R_base ho0) hb)
      have n3_ := Aside0.mk (Kd.R_lower (Kd.R_new' (Kd.R_new' (Kd.R_new' ho0 (Kd.R_lt (by (with_reducible repeat (first | apply Kd.R_alloc | apply Kd.R_drewN | apply Kd.R_drew)); exact HO_207001.out))) (Kd.R_lt (by (with_reducible repeat (first | apply Kd.R_alloc | apply Kd.R_drewN | apply Kd.R_drew)); exact HO_212001.out))) (Kd.R_lt (by (with_reducible repeat (first | apply Kd.R_alloc | apply Kd.R_drewN | apply Kd.R_drew)); exact HO_218001.out))) (below_size (by repeat (first | (with_reducible first | exact HB.out | apply below_alloc | apply pw_below_drewN | apply below_drew1 | refine below_set ?_ GE195.out | refine below_set ?_ GE206.out | refine below_set ?_ GE211.out | refine below_set ?_ GE217.out) | exact HB.out))))
      have n4_ := Aside0.mk (blk_below (g := gb195) (o := .cells #[.int .i64 a0_0, .slice A0_1 l0_1.length c0_1] 79 (0, 0)) (by (with_reducible repeat (first | refine blk_drewN ?_ _ | refine blk_drew ?_ | refine blk_alloc ?_ _)); exact BK195.out) hb)
      have n5_ := Aside0.mk (blk_below (g := gb206) (o := .cells #[.int .i64 t201, .slice Ao23 t202.length co23] 83 (0, 0)) (by (with_reducible repeat (first | refine blk_drewN ?_ _ | refine blk_drew ?_ | refine blk_alloc ?_ _)); exact BK206.out) hb)
      have n6_ := Aside0.mk (blk_below (g := gb211) (o := .cells #[.int .i64 t207, .slice Ao30 t208.length co30] 83 (0, 0)) (by (with_reducible repeat (first | refine blk_drewN ?_ _ | refine blk_drew ?_ | refine blk_alloc ?_ _)); exact BK211.out) hb)
      have n7_ := Aside0.mk (blk_below (g := gb217) (o := .cells #[.int .i64 t212, .slice Ao37 t213.length co37] 83 (0, 0)) (by (with_reducible repeat (first | refine blk_drewN ?_ _ | refine blk_drew ?_ | refine blk_alloc ?_ _)); exact BK217.out) hb)
      have n8_ := Aside0.mk (below_step (by repeat (first | (with_reducible first | exact HB.out | apply below_alloc | apply pw_below_drewN | apply below_drew1 | refine below_set ?_ GE195.out | refine below_set ?_ GE206.out | refine below_set ?_ GE211.out | refine below_set ?_ GE217.out) | exact HB.out)) hb)
      clear HO_207001
      clear HO_212001
      clear HO_218001
      clear BK195
      clear BK206
      clear BK211
      clear BK217
      clear HB
      have HO_207001 := n0_
      have HO_212001 := n1_
      have HO_218001 := n2_
      have HO222 := n3_
      have BK195 := n4_
      have BK206 := n5_
      have BK211 := n6_
      have BK217 := n7_
      have HB := n8_
      clear n0_ n1_ n2_ n3_ n4_ n5_ n6_ n7_ n8_
      (try clear hb)
      (try clear hb2)
      (try clear hk)
      (try clear hi)
      (try clear ho0)
      obtain ⟨Ao178, co178, eo178⟩ := Kd.R_slice HO222.out
      (first | subst eo178 | (injection eo178 with f1_ f2_ f3_; have f4_ := f1_.symm; have f5_ := f3_.symm; clear f1_ f2_ f3_; subst f4_; subst f5_))
      refine hK.out _ _ ⟨(blk_cell BK211.out 0).trans rfl, (blk_cell BK211.out 1).trans rfl, (blk_cell BK195.out 0).trans rfl, (blk_cell BK195.out 1).trans rfl⟩ (fun hHeld => ?_)
      clear hK K
      refine norm_ (a' := ?_) ?_ ?_
      rotate_left
      ·show Act.put _ (some 47) _ = _
       simp only [Act.put, List.setIfInBounds_toArray, List.set_cons_zero, List.set_cons_succ, i64_w, i32_w]
       rfl
      refine one_ (i := 3) (N := some 48) (bz 5 15) rfl rfl (by kernel_rfl) (by decide) (fun K hK => ?_)
      refine goes_ Try.func48 (by kernel_rfl) rfl #[.agg #[.int .i64 t207, .slice Ao30 t208.length co30], .agg #[.int .i64 t219, .slice Ao178 t220.length co178]] (by rfl) rfl rfl (by (try simp only [List.map_toArray, List.map_cons, List.map_nil]); first | done | rfl | (simp only [List.length_drop, List.length_take]; rfl)) ?_
      with_reducible refine (laws_eqClock.calls kj11 t207 _ _ t208 t219 _ _ t220 false _ ?side1 ?side2 ?side3 ?side4 A58.out).mono ?_
      (case side1 => repeat (first | exact (Kd.R_reads' HO_212001.out).2.2 | (with_reducible refine Kd.C_alloc ?_ _) | (with_reducible refine Kd.C_drewN ?_ _) | (with_reducible refine Kd.C_drew ?_)))
      (case side2 => exact (Kd.R_reads' HO_212001.out).2.1)
      (case side3 => repeat (first | exact (Kd.R_reads' HO222.out).2.2 | (with_reducible refine Kd.C_alloc ?_ _) | (with_reducible refine Kd.C_drewN ?_ _) | (with_reducible refine Kd.C_drew ?_)))
      (case side4 => exact (Kd.R_reads' HO222.out).2.1)
      rintro e w179 ⟨rfl, hb⟩
      refine ⟨_, rfl, ?_⟩
      have n0_ := Aside0.mk (Kd.R_below (by (with_reducible repeat (first | apply Kd.R_alloc | apply Kd.R_drewN | apply Kd.R_drew)); exact HO_207001.out) hb)
      have n1_ := Aside0.mk (Kd.R_below (by (with_reducible repeat (first | apply Kd.R_alloc | apply Kd.R_drewN | apply Kd.R_drew)); exact HO_212001.out) hb)
      have n2_ := Aside0.mk (Kd.R_below (by (with_reducible repeat (first | apply Kd.R_alloc | apply Kd.R_drewN | apply Kd.R_drew)); exact HO_218001.out) hb)
      have n3_ := Aside0.mk (Kd.R_below (by (with_reducible repeat (first | apply Kd.R_alloc | apply Kd.R_drewN | apply Kd.R_drew)); exact HO222.out) hb)
      have n4_ := Aside0.mk (blk_below (g := gb195) (o := .cells #[.int .i64 a0_0, .slice A0_1 l0_1.length c0_1] 79 (0, 0)) (by (with_reducible repeat (first | refine blk_drewN ?_ _ | refine blk_drew ?_ | refine blk_alloc ?_ _)); exact BK195.out) hb)
      have n5_ := Aside0.mk (blk_below (g := gb206) (o := .cells #[.int .i64 t201, .slice Ao23 t202.length co23] 83 (0, 0)) (by (with_reducible repeat (first | refine blk_drewN ?_ _ | refine blk_drew ?_ | refine blk_alloc ?_ _)); exact BK206.out) hb)
      have n6_ := Aside0.mk (blk_below (g := gb211) (o := .cells #[.int .i64 t207, .slice Ao30 t208.length co30] 83 (0, 0)) (by (with_reducible repeat (first | refine blk_drewN ?_ _ | refine blk_drew ?_ | refine blk_alloc ?_ _)); exact BK211.out) hb)
      have n7_ := Aside0.mk (blk_below (g := gb217) (o := .cells #[.int .i64 t212, .slice Ao37 t213.length co37] 83 (0, 0)) (by (with_reducible repeat (first | refine blk_drewN ?_ _ | refine blk_drew ?_ | refine blk_alloc ?_ _)); exact BK217.out) hb)
      have n8_ := Aside0.mk (below_step (by repeat (first | (with_reducible first | exact HB.out | apply below_alloc | apply pw_below_drewN | apply below_drew1 | refine below_set ?_ GE195.out | refine below_set ?_ GE206.out | refine below_set ?_ GE211.out | refine below_set ?_ GE217.out) | exact HB.out)) hb)
      clear HO_207001
      clear HO_212001
      clear HO_218001
      clear HO222
      clear BK195
      clear BK206
      clear BK211
      clear BK217
      clear HB
      have HO_207001 := n0_
      have HO_212001 := n1_
      have HO_218001 := n2_
      have HO222 := n3_
      have BK195 := n4_
      have BK206 := n5_
      have BK211 := n6_
      have BK217 := n7_
      have HB := n8_
      clear n0_ n1_ n2_ n3_ n4_ n5_ n6_ n7_ n8_
      (try clear hb)
      (try clear hb2)
      (try clear hk)
      (try clear hi)
      refine hK.out _ _ ⟨(blk_cell BK211.out 0).trans rfl, (blk_cell BK211.out 1).trans rfl, (blk_cell BK195.out 0).trans rfl, (blk_cell BK195.out 1).trans rfl⟩ (fun hHeld => ?_)
      clear hK K
      refine norm_ (a' := ?_) ?_ ?_
      rotate_left
      ·show Act.put _ (some 48) _ = _
       simp only [Act.put, List.setIfInBounds_toArray, List.set_cons_zero, List.set_cons_succ, i64_w, i32_w]
       rfl
      refine pure_ (i := 4) (N := some 49) (v := ?_) (a' := ?_) (bz 5 31) rfl rfl (by kernel_rfl) (fun _ _ _ h => h) (Or.inl ⟨by rfl, ?_⟩) ?_ ?_
      rotate_left
      ·intro w'
       go_simp
       with_reducible rfl
      rotate_left
      ·simp only [Act.put, List.setIfInBounds_toArray, List.set_cons_zero, List.set_cons_succ, i64_w, i32_w]
       rfl
      refine done_ (by kernel_rfl) ?_
      try go_wp2
      go_ret
      exact ⟨by first | rfl | (simp [errW_none, errW_some] <;> rfl) | (simp [*, errW_none, errW_some] <;> rfl), by repeat (first | (with_reducible first | exact HB.out | apply below_alloc | apply pw_below_drewN | apply below_drew1 | refine below_set ?_ GE195.out | refine below_set ?_ GE206.out | refine below_set ?_ GE211.out | refine below_set ?_ GE217.out) | exact HB.out)⟩
end Go.Proofs.Ytligkajfedkldaa.PFnExactDropTimer
namespace Go.Proofs.YtligkajfedkldaaO
open Go.ChangeShapes Go.WideShapes Go.Proofs.YtligkajfedkldaaW.PrintWords Go.RowKit
def In64 (n : Int) : Prop := -9223372036854775808 ≤ n ∧ n ≤ 9223372036854775807
def Opens {α : Type} (P : Program) (t : TypeId) (d : Kd α) (g : α → Prop) : Prop :=
  ∀ {H : Type} (enc : TypeId × Value → H) (w : World) (fuel : Nat) (cs : List Value) (y : DataW H) (ps : List MemPlace),
    DataW.trod enc P w 0 (fun _ => true) true fuel t cs = some (y, ps) → (∀ n ∈ y.weights P t, n ≤ reachBytes) → ∃ x, d.K w x cs ∧ g x
theorem Opens.imp {α : Type} {P : Program} {t : TypeId} {d : Kd α} {g g' : α → Prop} (h : Opens P t d g) (k : ∀ x, g x → g' x) : Opens P t d g' := by
  intro H enc w fuel cs y ps ht hw
  obtain ⟨x, hx, hg⟩ := h enc w fuel cs y ps ht hw
  exact ⟨x, hx, k x hg⟩
theorem opens_int {P : Program} {t : TypeId} {k : IntKind} (ht : P.underlying t = some (.int k)) : Opens P t (Kd.int k) (fun n => (Lit.int k n).wf = true) := by
  intro H enc w fuel cs y ps h _
  obtain ⟨n, rfl, _, hw⟩ := DataW.trod_int ht h
  exact ⟨n, rfl, hw⟩
theorem wf_i64 {n : Int} (h : (Lit.int .i64 n).wf = true) : In64 n := bounds_i64 h
theorem opens_i64 {P : Program} {t : TypeId} (ht : P.underlying t = some (.int .i64)) : Opens P t (Kd.int .i64) In64 := Opens.imp (opens_int ht) fun _ h => wf_i64 h
theorem exists_list {α : Type} (p : Nat → α → Prop) : ∀ n : Nat, (∀ i, i < n → ∃ x, p i x) → ∃ xs : List α, xs.length = n ∧ ∀ i x, xs[i]? = some x → p i x
  | 0, _ => ⟨[], rfl, fun i x h => by simp at h⟩
  | n + 1, h => by
    obtain ⟨xs, hl, hx⟩ := exists_list p n (fun i hi => h i (by omega))
    obtain ⟨x, hp⟩ := h n (by omega)
    refine ⟨xs ++ [x], by simp [hl], fun i y hy => ?_⟩
    rcases Nat.lt_or_ge i xs.length with hi | hi
    · rw [List.getElem?_append_left hi] at hy
      exact hx i y hy
    · have : i = n := by
        have := (List.getElem?_eq_some_iff.1 hy).1
        rw [List.length_append, List.length_singleton] at this
        omega
      subst this
      rw [List.getElem?_append_right hi] at hy
      rw [hl] at hy
      simp at hy
      subst hy
      exact hp
theorem add_add (ad : Addr) (i j : Nat) : (ad.add i).add j = ad.add (i + j) := by
  unfold Addr.add
  by_cases h1 : i = 0 <;> by_cases h2 : j = 0 <;> simp [h1, h2, Nat.add_assoc]
theorem weightsAll_mem {H : Type} {P : Program} {e : TypeId} : ∀ {l : List (DataW H)} {d : DataW H}, d ∈ l → ∀ n ∈ d.weights P e, n ∈ DataW.weightsAll P e l
  | [], d, h, _, _ => by simp at h
  | x :: r, d, h, n, hn => by
    simp only [DataW.weightsAll, List.mem_append]
    rcases List.mem_cons.1 h with rfl | h
    · exact .inl hn
    · exact .inr (weightsAll_mem h n hn)
theorem opens_slice {α : Type} {P : Program} {t e : TypeId} {d : Kd α} {g : α → Prop} {B : Nat} (ht : P.underlying t = some (.slice e)) (hs : P.cellsOf e = d.sz) (hB : P.bytesOf e = B) (h : Opens P e d g) :
    Opens P t (Kd.slice e d) (fun xs => xs.length * B ≤ 140737488351232 ∧ ∀ x ∈ xs, g x) := by
  intro H enc w fuel cs y ps hy hw
  rcases DataW.trod_slice ht hy with ⟨rfl, _⟩ | ⟨a, len, cap, elems, rest, n, rfl, rfl, hx, _, hlc, hcm, hel, hget, _, _⟩
  · exact ⟨[], ⟨none, 0, rfl, Nat.le_refl _, Kd.C_nil d w⟩, by simp⟩
  · obtain ⟨rfl, _⟩ := Prod.mk.inj hx
    simp only [DataW.weights, ht] at hw
    have hlen : len * B ≤ 140737488351232 := by
      have := hw _ List.mem_cons_self
      simp only [List.length_map, hB] at this
      have h2 : len * B ≤ (elems.length + rest.length) * B := Nat.mul_le_mul_right _ (by omega)
      exact Nat.le_trans h2 this
    have key : ∀ i, i < len → ∃ x, (∃ c, c.length = d.sz ∧ d.K w x c ∧ ∀ j u, c[j]? = some u → w.cell? (a.add (i * d.sz + j)) = some u) ∧ g x := by
      intro i hi
      have hg := hget i hi
      rw [List.getElem?_eq_getElem (by omega), Option.bind_eq_some_iff] at hg
      obtain ⟨c, hc, hd⟩ := hg
      obtain ⟨_, hcl, hcell⟩ := World.cells?_some hc
      obtain ⟨x, hK, hgx⟩ := h enc w n c _ _ hd (fun m hm => hw m (List.mem_cons_of_mem _ (List.mem_append_left _ (weightsAll_mem (List.mem_map_of_mem (List.getElem_mem _)) m hm))))
      refine ⟨x, ⟨c, hcl.trans hs, hK, fun j u hj => ?_⟩, hgx⟩
      have hjl : j < P.cellsOf e := by
        have := (List.getElem?_eq_some_iff.1 hj).1
        omega
      have := hcell j hjl
      rw [add_add, hj, hs] at this
      exact this
    obtain ⟨xs, hxl, hxs⟩ := exists_list _ len key
    refine ⟨xs, ⟨some a, cap, by rw [hxl], by omega, hxl ▸ ⟨hxl, by simp only [maxLen] at hcm; omega, fun _ => ⟨a, rfl, fun j p hp => (hxs j p hp).1⟩⟩⟩, by rw [hxl]; exact hlen, fun x hx => ?_⟩
    obtain ⟨i, hi, rfl⟩ := List.getElem_of_mem hx
    exact (hxs i _ (List.getElem?_eq_getElem hi)).2
theorem opens_iso {α β : Type} {P : Program} {t : TypeId} {d : Kd α} {g : α → Prop} (f : β → α) (inv : α → β) (hi : ∀ x, f (inv x) = x) (h : Opens P t d g) : Opens P t (Kd.iso d f) (fun x => g (f x)) := by
  intro H enc w fuel cs y ps hy hw
  obtain ⟨x, hK, hg⟩ := h enc w fuel cs y ps hy hw
  refine ⟨inv x, ?_, ?_⟩
  · show d.K w (f (inv x)) cs
    rw [hi]; exact hK
  · show g (f (inv x))
    rw [hi]; exact hg
def OpensL {α : Type} (P : Program) (fs : List Field) (off : Nat) (d : Kd α) (g : α → Prop) : Prop :=
  ∀ {H : Type} (enc : TypeId × Value → H) (w : World) (n : Nat) (cs : List Value) (ys : List (DataW H × List MemPlace)), ys.length = fs.length →
    (∀ (i : Nat) (f : Field), fs[i]? = some f → DataW.trod enc P w 0 (fun _ => true) true n f.type ((cs.drop f.offset).take (P.cellsOf f.type)) = ys[i]?) →
    (∀ m ∈ DataW.weightsEach P (fs.map (·.type)) (ys.map (·.1)), m ≤ reachBytes) → ∃ x, d.K w x ((cs.drop off).take d.sz) ∧ g x
theorem opensL_one {α : Type} {P : Program} {f : Field} {off : Nat} {d : Kd α} {g : α → Prop} (ho : f.offset = off) (hs : P.cellsOf f.type = d.sz) (h : Opens P f.type d g) : OpensL P [f] off d g := by
  intro H enc w n cs ys hl hf hw
  match ys, hl with
  | [y], _ =>
    have h0 := hf 0 f rfl
    rw [ho, hs] at h0
    exact h enc w n _ y.1 y.2 h0 (fun m hm => hw m (by simp only [List.map_cons, DataW.weightsEach, List.mem_append]; exact .inl hm))
theorem opensL_cons {α β : Type} {P : Program} {f : Field} {fs : List Field} {off : Nat} {a : Kd α} {b : Kd β} {ga : α → Prop} {gb : β → Prop} (ho : f.offset = off) (hs : P.cellsOf f.type = a.sz) (h : Opens P f.type a ga) (hr : OpensL P fs (off + a.sz) b gb) :
    OpensL P (f :: fs) off (Kd.pair a b) (fun x => ga x.1 ∧ gb x.2) := by
  intro H enc w n cs ys hl hf hw
  match ys, hl with
  | y :: ys, hl =>
    have h0 := hf 0 f rfl
    rw [ho, hs] at h0
    obtain ⟨x, hx, hgx⟩ := h enc w n _ y.1 y.2 h0 (fun m hm => hw m (by simp only [List.map_cons, DataW.weightsEach, List.mem_append]; exact .inl hm))
    obtain ⟨x', hx', hgx'⟩ := hr enc w n cs ys (by simpa using hl) (fun i f' hf' => by have := hf (i + 1) f' (by simpa using hf'); simpa using this) (fun m hm => hw m (by simp only [List.map_cons, DataW.weightsEach, List.mem_append]; exact .inr hm))
    refine ⟨(x, x'), ⟨_, _, ?_, hx, hx'⟩, hgx, hgx'⟩
    show (cs.drop off).take (a.sz + b.sz) = _
    rw [List.take_add, List.drop_drop]
theorem opens_struct {α : Type} {P : Program} {t : TypeId} {fs : Array Field} {d : Kd α} {g : α → Prop} (ht : P.underlying t = some (.struct fs)) (hs : P.cellsOf t = d.sz) (h : OpensL P fs.toList 0 d g) : Opens P t d g := by
  intro H enc w fuel cs y ps hy hw
  obtain ⟨xs, n, rfl, hx, hl, hxl, hget⟩ := DataW.trod_struct ht hy
  obtain ⟨rfl, _⟩ := Prod.mk.inj hx
  simp only [DataW.weights, ht] at hw
  obtain ⟨x, hK, hg⟩ := h enc w n cs xs (by simpa using hxl) (fun i f hf => hget i f (by simpa using hf)) (by simpa using hw)
  rw [List.drop_zero, List.take_of_length_le (by omega)] at hK
  exact ⟨x, hK, hg⟩
theorem weights_of {H : Type} {P : Program} {ts : List TypeId} {ds : List (DataW H)} {j : Nat} {t : TypeId} {d : DataW H} (hsz : (DataW.weightsEach P ts ds).all (· ≤ reachBytes) = true) (ht : ts[j]? = some t) (hd : ds[j]? = some d) : ∀ n ∈ d.weights P t, n ≤ reachBytes := by
  intro n hn
  have := List.all_eq_true.1 hsz n (DataW.weights_mem_each ht hd n hn)
  simpa using this
theorem open_agg {α H : Type} {enc : TypeId × Value → H} {P : Program} {W : World} {t : TypeId} {d : Kd α} {g : α → Prop} {cs : Array Value} {y : DataW H} {ps : List MemPlace} (h : Opens P t d g)
    (hy : DataW.Trod enc P W 0 (fun _ => true) true t (.agg cs) y ps) (hw : ∀ n ∈ y.weights P t, n ≤ reachBytes) : ∃ x : α, d.K W x cs.toList ∧ g x := by
  obtain ⟨fuel, hf⟩ := hy
  exact h enc W fuel _ y ps (by simpa [Value.cells] using hf) hw
end Go.Proofs.YtligkajfedkldaaO
namespace Go.Proofs.Ytligkajfedkldaa.OFnExactDropTimer
open Go.RowKit Go.Proofs.Ytligkajfedkldaa.PFnExactDropTimer Go.Proofs.YtligkajfedkldaaW.PrintWords Go.Proofs.YtligkajfedkldaaO
def Ok254 (x : S254) : Prop := (In64 x.f0) ∧ (In64 x.f1) ∧ (In64 x.f2) ∧ (In64 x.f3)
theorem opens254 : Opens Try.prog 254 k254 Ok254 :=
  Opens.imp (opens_iso _ (fun x => (⟨x.1, x.2.1, x.2.2.1, x.2.2.2⟩ : S254)) (fun _ => rfl) (opens_struct Try.underlying254 (by kernel_rfl) (opensL_cons rfl (by kernel_rfl) (opens_i64 Try.underlying3) (opensL_cons rfl (by kernel_rfl) (opens_i64 Try.underlying3) (opensL_cons rfl (by kernel_rfl) (opens_i64 Try.underlying3) (opensL_one rfl (by kernel_rfl) (opens_i64 Try.underlying3))))))) fun x h => by
    obtain ⟨h0, h1, h2, h3⟩ := h
    exact ⟨h0, h1, h2, h3⟩
end Go.Proofs.Ytligkajfedkldaa.OFnExactDropTimer
namespace Go.Proofs.YtligkajfedkldaaO
open Go.RowKit Go.Proofs.YtligkajfedkldaaW.PrintWords Go.Proofs.YtligkajfedkldaaW.PrintLast Go.Proofs.YtligkajfedkldaaW.PrintMore
theorem w64 {n : Int} (h : -9223372036854775808 ≤ n) (k : n ≤ 9223372036854775807) : wrap64 n = n := by unfold wrap64; omega
theorem w64s (i : Nat) (h : i < 4611686018427387904) : wrap64 ((i : Int) + 1) = ((i + 1 : Nat) : Int) := by unfold wrap64; omega
theorem ev_eq {α : Type} {x : Option α} {r : α} (h : x = some r) : Ev (fun _ => x) r := ⟨0, fun _ _ => h⟩
theorem ev_some {α : Type} {x r : α} (h : x = r) : Ev (fun _ => some x) r := ⟨0, fun _ _ => by rw [h]⟩
theorem ev_pos {α : Type} {c : Prop} [Decidable c] {f g : Nat → Option α} {r : α} (h : c) (k : Ev f r) : Ev (fun n => if c then f n else g n) r := by
  obtain ⟨K, hK⟩ := k
  exact ⟨K, fun n hn => (if_pos h).trans (hK n hn)⟩
theorem ev_neg {α : Type} {c : Prop} [Decidable c] {f g : Nat → Option α} {r : α} (h : ¬ c) (k : Ev g r) : Ev (fun n => if c then f n else g n) r := by
  obtain ⟨K, hK⟩ := k
  exact ⟨K, fun n hn => (if_neg h).trans (hK n hn)⟩
theorem ev_ite {α : Type} {c : Prop} [Decidable c] {f g : Nat → Option α} {r : α} (h : c → Ev f r) (k : ¬ c → Ev g r) : Ev (fun n => if c then f n else g n) r := by
  by_cases hc : c
  · exact ev_pos hc (h hc)
  · exact ev_neg hc (k hc)
theorem ev_bindc {α β : Type} {x : Option α} {f : Nat → α → Option β} {a : α} {r : β} (h : x = some a) (k : Ev (fun n => f n a) r) : Ev (fun n => x.bind (f n)) r := by
  subst h; exact k
theorem ev_for {σ ρ : Type} (n : Nat) (L : Nat → Nat → σ → Option ρ) (I : Nat → σ → Prop) (Q : ρ → Prop)
    (hend : ∀ s, I n s → ∃ r, Ev (fun k => L k n s) r ∧ Q r)
    (hstep : ∀ i s, i < n → I i s → (∃ r, Ev (fun k => L k i s) r ∧ Q r) ∨ ∃ s', I (i + 1) s' ∧ ∀ r, Ev (fun k => L k (i + 1) s') r → Ev (fun k => L k i s) r) :
    ∀ i s, i ≤ n → I i s → ∃ r, Ev (fun k => L k i s) r ∧ Q r := by
  have key : ∀ d i s, i + d = n → I i s → ∃ r, Ev (fun k => L k i s) r ∧ Q r := by
    intro d
    induction d with
    | zero => intro i s hi h; obtain rfl : i = n := by omega
              exact hend s h
    | succ d ih =>
      intro i s hi h
      rcases hstep i s (by omega) h with h' | ⟨s', hI, hr⟩
      · exact h'
      · obtain ⟨r, hr', hQ⟩ := ih (i + 1) s' (by omega) hI
        exact ⟨r, hr r hr', hQ⟩
  intro i s hi h
  exact key (n - i) i s (by omega) h
theorem ev_for1 {σ ρ : Type} (n : Nat) (L : Nat → Nat → σ → Option ρ) (I : Nat → σ → Prop) (a : ρ)
    (hend : ∀ s, I n s → Ev (fun k => L k n s) a)
    (hstep : ∀ i s, i < n → I i s → Ev (fun k => L k i s) a ∨ ∃ s', I (i + 1) s' ∧ ∀ r, Ev (fun k => L k (i + 1) s') r → Ev (fun k => L k i s) r) :
    ∀ i s, i ≤ n → I i s → Ev (fun k => L k i s) a := by
  intro i s hi h
  obtain ⟨r, hr, rfl⟩ := ev_for n L I (fun r => r = a) (fun s hs => ⟨a, hend s hs, rfl⟩) (fun i s hi hs => (hstep i s hi hs).imp (fun h => ⟨a, h, rfl⟩) id) i s hi h
  exact hr
theorem getD_get {α : Type} {d : α} {xs : List α} {i : Nat} (h : i < xs.length) : xs.getD (i : Int).toNat d = xs[i] := by simp [List.getD_eq_getElem?_getD, h]
theorem ev_alike {α β : Type} (L : Nat → List α → List β → Int → Option Bool) (e : Nat → List α → List β → Int → Option Bool) (g : α → β → Bool)
    (hL : ∀ k xs ys i, L (k + 1) xs ys i = if i < (xs.length : Int) then (if 0 ≤ i then (if i < (ys.length : Int) then ((e k xs ys i).bind fun v => if v = true then L k xs ys (wrap64 (i + 1)) else some false) else none) else none) else some true)
    (xs : List α) (ys : List β) (hx : xs.length < 4611686018427387904) (hy : ys.length = xs.length) (he : ∀ i : Nat, ∀ (h : i < xs.length) (h' : i < ys.length), Ev (fun k => e k xs ys (i : Int)) (g xs[i] ys[i]))
    (b : Bool) (hb : b = true ↔ ∀ i : Nat, ∀ (h : i < xs.length) (h' : i < ys.length), g xs[i] ys[i] = true) :
    Ev (fun k => L k xs ys 0) b := by
  refine ev_for1 xs.length (fun k i (_ : Unit) => L k xs ys (i : Int)) (fun i _ => ∀ j, j < i → ∀ (h : j < xs.length) (h' : j < ys.length), g xs[j] ys[j] = true) b ?_ ?_ 0 () (Nat.zero_le _) (fun j hj => by omega)
  · intro _ h
    refine Ev.step (fun k => hL k xs ys _) (ev_neg (by omega) (ev_some ?_))
    exact (hb.2 fun i hi hi' => h i hi hi hi').symm
  · intro i _ hi h
    have hi' : i < ys.length := by omega
    by_cases hg : g xs[i] ys[i] = true
    · refine .inr ⟨(), fun j hj h1 h2 => ?_, fun r hr => ?_⟩
      · rcases Nat.lt_or_ge j i with hji | hji
        · exact h j hji h1 h2
        · obtain rfl : j = i := by omega
          exact hg
      · refine Ev.step (fun k => hL k xs ys _) (ev_pos (by omega) (ev_pos (by omega) (ev_pos (by omega) (Ev.bind (he i hi hi') (ev_pos hg ?_)))))
        rw [w64s i (by omega)]
        exact hr
    · refine .inl (Ev.step (fun k => hL k xs ys _) (ev_pos (by omega) (ev_pos (by omega) (ev_pos (by omega) (Ev.bind (he i hi hi') (ev_neg hg (ev_some ?_)))))))
      cases b with
      | false => rfl
      | true => exact absurd (hb.1 rfl i hi hi') hg
theorem ev_alike_self {α : Type} (L : Nat → List α → List α → Int → Option Bool) (e : Nat → List α → List α → Int → Option Bool)
    (hL : ∀ k xs ys i, L (k + 1) xs ys i = if i < (xs.length : Int) then (if 0 ≤ i then (if i < (ys.length : Int) then ((e k xs ys i).bind fun v => if v = true then L k xs ys (wrap64 (i + 1)) else some false) else none) else none) else some true)
    (xs : List α) (hx : xs.length < 4611686018427387904) (he : ∀ i : Nat, ∀ (_ : i < xs.length), Ev (fun k => e k xs xs (i : Int)) true) :
    Ev (fun k => L k xs xs 0) true :=
  ev_alike L e (fun _ _ => true) hL xs xs hx rfl (fun i h _ => he i h) true ⟨fun _ _ _ _ => rfl, fun _ => rfl⟩
theorem bool_of (P : Prop) : ∃ b : Bool, b = true ↔ P := ⟨@decide P (Classical.propDecidable P), by simp⟩
theorem bool_false {P : Prop} {b : Bool} (h : b = true ↔ P) (k : ¬ P) : b = false := by
  cases b with
  | false => rfl
  | true => exact absurd (h.1 rfl) k
theorem ev_all (n : Nat) (L : Nat → Nat → Option Bool) (ok : Nat → Prop) (e b : Bool) (hb : b = true ↔ e = true ∧ ∀ i, i < n → ok i) (hend : Ev (fun k => L k n) e)
    (hyes : ∀ i, i < n → (∀ j, j < i → ok j) → ok i → ∀ r, Ev (fun k => L k (i + 1)) r → Ev (fun k => L k i) r) (hno : ∀ i, i < n → (∀ j, j < i → ok j) → ¬ ok i → Ev (fun k => L k i) false) : Ev (fun k => L k 0) b := by
  refine ev_for1 n (fun k i (_ : Unit) => L k i) (fun i _ => ∀ j, j < i → ok j) b ?_ ?_ 0 () (Nat.zero_le _) (fun j hj => by omega)
  · intro _ h
    have : b = e := by
      cases e with
      | false => exact bool_false hb (fun h => by simp at h)
      | true => exact hb.2 ⟨rfl, h⟩
    rw [this]
    exact hend
  · intro i _ hi h
    by_cases ho : ok i
    · refine .inr ⟨(), fun j hj => ?_, hyes i hi h ho⟩
      rcases Nat.lt_or_ge j i with h1 | h1
      · exact h j h1
      · obtain rfl : j = i := by omega
        exact ho
    · have : b = false := bool_false hb (fun h => ho (h.2 i hi))
      rw [this]
      exact .inl (hno i hi h ho)
theorem wrap_u64 {n : Int} (h0 : 0 ≤ n) (h1 : n ≤ 18446744073709551615) : IntKind.u64.wrap n = n := by
  have e : IntKind.u64.wrap n = n % 18446744073709551616 := by simp only [IntKind.wrap, IntKind.bits, IntKind.signed]; rfl
  rw [e]; omega
def Chain {α : Type} (E : α → Int → Int → Prop) : List α → Int → Int → Prop
  | [], c, d => c = d
  | x :: r, c, d => ∃ m, E x c m ∧ Chain E r m d
theorem Chain.snoc {α : Type} {E : α → Int → Int → Prop} : ∀ {l : List α} {c m d : Int} {x : α}, Chain E l c m → E x m d → Chain E (l ++ [x]) c d
  | [], _, _, _, _, h, k => by cases h; exact ⟨_, k, rfl⟩
  | _ :: _, _, _, _, _, ⟨q, h1, h2⟩, k => ⟨q, h1, Chain.snoc h2 k⟩
theorem Chain.le {α : Type} {E : α → Int → Int → Prop} (hm : ∀ x c d, E x c d → c ≤ d) : ∀ {l : List α} {c d : Int}, Chain E l c d → c ≤ d
  | [], _, _, h => Int.le_of_eq h
  | _ :: _, _, _, ⟨_, h1, h2⟩ => Int.le_trans (hm _ _ _ h1) (Chain.le hm h2)
theorem ev_mark {α : Type} (L : Nat → List α → Int → Nat → Option (Int × List α)) (E : α → Int → Int → Prop) (G : α → Prop) (W : Int) (hW : 0 ≤ W) (hW' : W ≤ 1099511627776)
    (hend : ∀ zs c, Ev (fun k => L k zs c zs.length) (c, zs))
    (hstep : ∀ zs c i, ∀ hi : i < zs.length, i < 1048576 → G zs[i] → 0 ≤ c → c ≤ 2305843009213693952 → ∃ x' c', E x' c c' ∧ c ≤ c' ∧ c' ≤ c + W ∧ ∀ r, Ev (fun k => L k (zs.set i x') c' (i + 1)) r → Ev (fun k => L k zs c i) r)
    (xs : List α) (hG : ∀ x ∈ xs, G x) (hl : xs.length ≤ 1048576) (c : Int) (hc0 : 0 ≤ c) (hc1 : c ≤ 1152921504606846976) :
    ∃ ys d, Chain E ys c d ∧ c ≤ d ∧ d ≤ c + W * xs.length ∧ ys.length = xs.length ∧ Ev (fun k => L k xs c 0) (d, ys) := by
  have key : ∀ n i : Nat, ∀ zs : List α, ∀ m : Int, i + n = xs.length → zs.length = xs.length → zs.drop i = xs.drop i → Chain E (zs.take i) c m → c ≤ m → m ≤ c + W * i →
      ∃ ys d, Chain E ys c d ∧ c ≤ d ∧ d ≤ c + W * xs.length ∧ ys.length = xs.length ∧ Ev (fun k => L k zs m i) (d, ys) := by
    intro n
    induction n with
    | zero =>
      intro i zs m hi hz hd hch h1 h2
      obtain rfl : i = zs.length := by omega
      rw [List.take_length] at hch
      rw [← hz]
      exact ⟨zs, m, hch, h1, h2, rfl, hend zs m⟩
    | succ n ih =>
      intro i zs m hi hz hd hch h1 h2
      have hlt : i < zs.length := by omega
      have hx : i < xs.length := by omega
      have hget : zs[i] = xs[i] := by
        have e1 := List.drop_eq_getElem_cons hlt
        have e2 := List.drop_eq_getElem_cons hx
        rw [hd, e2] at e1
        exact (List.cons.inj e1).1.symm
      have hWi : W * (i : Int) ≤ 1099511627776 * 1048576 := Int.mul_le_mul hW' (by omega) (by omega) (by omega)
      obtain ⟨x', c', hE, hc, hcW, hr⟩ := hstep zs m i hlt (by omega) (by rw [hget]; exact hG _ (List.getElem_mem hx)) (by omega) (by omega)
      obtain ⟨ys, d, g1, g2, g3, g4, g5⟩ := ih (i + 1) (zs.set i x') c' (by omega) (by simpa using hz) (by
          rw [List.drop_set_of_lt (by omega)]
          have e1 := List.drop_eq_getElem_cons hlt
          have e2 := List.drop_eq_getElem_cons hx
          rw [hd, e2] at e1
          exact (List.cons.inj e1).2.symm) (by
          rw [List.take_succ_eq_append_getElem (by simpa using hlt), List.take_set_of_le (Nat.le_refl i), List.getElem_set_self]
          exact Chain.snoc hch hE) (by omega) (by
          have : W * ((i + 1 : Nat) : Int) = W * i + W := by rw [Int.natCast_add, Int.mul_add]; simp
          omega)
      exact ⟨ys, d, g1, g2, g3, g4, hr _ g5⟩
  have := key xs.length 0 xs c (by omega) rfl rfl (by simp [Chain]) (Int.le_refl _) (by simp)
  exact this
theorem ev_held {α : Type} (H : Nat → List α → Int → Nat → Option Int) (E : α → Int → Int → Prop) (hm : ∀ x c d, E x c d → c ≤ d)
    (hend : ∀ ys c, Ev (fun k => H k ys c ys.length) c)
    (hstep : ∀ ys c c' i, ∀ hi : i < ys.length, i < 1048576 → E ys[i] c c' → 0 ≤ c → c' ≤ 2305843009213693952 → ∀ r, Ev (fun k => H k ys c' (i + 1)) r → Ev (fun k => H k ys c i) r)
    (ys : List α) (hl : ys.length ≤ 1048576) (c d : Int) (hc0 : 0 ≤ c) (hd : d ≤ 2305843009213693952) (h : Chain E ys c d) : Ev (fun k => H k ys c 0) d := by
  have key : ∀ n i : Nat, ∀ m : Int, i + n = ys.length → 0 ≤ m → Chain E (ys.drop i) m d → Ev (fun k => H k ys m i) d := by
    intro n
    induction n with
    | zero =>
      intro i m hi h0 hch
      obtain rfl : i = ys.length := by omega
      rw [List.drop_length] at hch
      obtain rfl : m = d := hch
      exact hend ys m
    | succ n ih =>
      intro i m hi h0 hch
      have hlt : i < ys.length := by omega
      rw [List.drop_eq_getElem_cons hlt] at hch
      obtain ⟨m', hE, hch⟩ := hch
      have h1 := hm _ _ _ hE
      exact hstep ys m m' i hlt (by omega) hE h0 (by have := Chain.le hm hch; omega) d (ih (i + 1) m' (by omega) (by omega) hch)
  exact key ys.length 0 c (by omega) hc0 h
theorem exev_bind {α β : Type} {g : Nat → Option α} {f : Nat → α → Option β} {a : α} {Q : β → Prop} (h : Ev g a) (k : ∃ r, Ev (fun n => f n a) r ∧ Q r) : ∃ r, Ev (fun n => (g n).bind (f n)) r ∧ Q r := by
  obtain ⟨r, hr, hq⟩ := k
  exact ⟨r, Ev.bind h hr, hq⟩
theorem exev_pos {α : Type} {c : Prop} [Decidable c] {f g : Nat → Option α} {Q : α → Prop} (h : c) (k : ∃ r, Ev f r ∧ Q r) : ∃ r, Ev (fun n => if c then f n else g n) r ∧ Q r := by
  obtain ⟨r, hr, hq⟩ := k
  exact ⟨r, ev_pos h hr, hq⟩
theorem exev_neg {α : Type} {c : Prop} [Decidable c] {f g : Nat → Option α} {Q : α → Prop} (h : ¬ c) (k : ∃ r, Ev g r ∧ Q r) : ∃ r, Ev (fun n => if c then f n else g n) r ∧ Q r := by
  obtain ⟨r, hr, hq⟩ := k
  exact ⟨r, ev_neg h hr, hq⟩
theorem exev_ite {α : Type} {c : Prop} [Decidable c] {f g : Nat → Option α} {Q : α → Prop} (h : c → ∃ r, Ev f r ∧ Q r) (k : ¬ c → ∃ r, Ev g r ∧ Q r) : ∃ r, Ev (fun n => if c then f n else g n) r ∧ Q r := by
  by_cases hc : c
  · exact exev_pos hc (h hc)
  · exact exev_neg hc (k hc)
theorem exev_some {α : Type} {x : α} {Q : α → Prop} (h : Q x) : ∃ r, Ev (fun _ => some x) r ∧ Q r := ⟨x, ev_some rfl, h⟩
theorem ev_copy2 {α β τ : Type} (L : Nat → List α → List β → Int → Option (List β)) (e : Nat → List α → Int → Option τ) (mk : τ → β) (g : α → β)
    (hL : ∀ k xs ys i, L (k + 1) xs ys i = if i < (xs.length : Int) then (if 0 ≤ i then ((e k xs i).bind fun v => if i < (ys.length : Int) then L k xs (ys.set (i : Int).toNat (mk v)) (wrap64 (i + 1)) else none) else none) else some ys)
    (xs : List α) (hx : xs.length < 4611686018427387904) (he : ∀ i : Nat, ∀ h : i < xs.length, ∃ t, Ev (fun k => e k xs (i : Int)) t ∧ mk t = g xs[i]) (ys : List β) (hy : ys.length = xs.length) :
    Ev (fun k => L k xs ys 0) (xs.map g) := by
  refine ev_for1 xs.length (fun k i ys => L k xs ys (i : Int)) (fun i ys => ys.length = xs.length ∧ ∀ j, j < i → ys[j]? = (xs.map g)[j]?) (xs.map g) ?_ ?_ 0 ys (Nat.zero_le _) ⟨hy, fun j hj => by omega⟩
  · intro ys ⟨hl, h⟩
    refine Ev.step (fun k => hL k xs ys _) (ev_neg (by omega) (ev_some ?_))
    apply List.ext_getElem?
    intro j
    rcases Nat.lt_or_ge j xs.length with hj | hj
    · exact h j hj
    · rw [List.getElem?_eq_none (by omega), List.getElem?_eq_none (by simpa using hj)]
  · intro i ys hi ⟨hl, h⟩
    obtain ⟨t, ht, hmk⟩ := he i hi
    refine .inr ⟨ys.set i (g xs[i]), ⟨by simpa using hl, fun j hj => ?_⟩, fun r hr => ?_⟩
    · rcases Nat.lt_or_ge j i with hji | hji
      · rw [List.getElem?_set_ne (by omega)]
        exact h j hji
      · obtain rfl : j = i := by omega
        rw [List.getElem?_set_self (by omega), List.getElem?_map, List.getElem?_eq_getElem hi]
        rfl
    · refine Ev.step (fun k => hL k xs ys _) (ev_pos (by omega) (ev_pos (by omega) (Ev.bind ht (ev_pos (by omega) ?_))))
      rw [w64s i (by omega), hmk]
      exact hr
theorem mid_of (lo hi : Nat) (h : lo ≤ 1048576) (k : hi ≤ 1048576) : wrap64 ((IntKind.u64.wrap (wrap64 ((lo : Int) + (hi : Int)))) / 2) = (((lo + hi) / 2 : Nat) : Int) := by
  rw [w64 (n := (lo : Int) + (hi : Int)) (by omega) (by omega), wrap_u64 (by omega) (by omega), w64 (by omega) (by omega)]
  omega
theorem ev_search {α τ : Type} (L : Nat → List α → τ → Int → Int → Int → Option (Int × Bool)) (c : Nat → List α → Int → τ → Option Int)
    (hL : ∀ k xs x n i j, L (k + 1) xs x n i j = if i < j then (if 0 ≤ (wrap64 ((IntKind.u64.wrap (wrap64 (i + j))) / 2)) then (if (wrap64 ((IntKind.u64.wrap (wrap64 (i + j))) / 2)) < (xs.length : Int) then ((c k xs (wrap64 ((IntKind.u64.wrap (wrap64 (i + j))) / 2)) x).bind fun t => (if t < 0 then (L k xs x n (wrap64 ((wrap64 ((IntKind.u64.wrap (wrap64 (i + j))) / 2)) + 1)) j) else (L k xs x n i (wrap64 ((IntKind.u64.wrap (wrap64 (i + j))) / 2))))) else (none)) else (none)) else (if i < n then (if 0 ≤ i then (if i < (xs.length : Int) then ((c k xs i x).bind fun t => (some (i, (t == 0)))) else (none)) else (none)) else (some (i, false))))
    (xs : List α) (x : τ) (hl : xs.length ≤ 1048576) (C : Nat → Int) (hc : ∀ i : Nat, i < xs.length → Ev (fun k => c k xs (i : Int) x) (C i)) (hm : ∀ i j : Nat, i < j → j < xs.length → 0 ≤ C i → 0 < C j) :
    ∃ p : Nat, p ≤ xs.length ∧ (∀ i, i < p → C i < 0) ∧ (∀ i, p ≤ i → i < xs.length → 0 ≤ C i) ∧ Ev (fun k => L k xs x (xs.length : Int) 0 (xs.length : Int)) ((p : Int), decide (p < xs.length ∧ C p = 0)) := by
  have key : ∀ d lo hi : Nat, hi - lo ≤ d → lo ≤ hi → hi ≤ xs.length → (∀ i, i < lo → C i < 0) → (∀ i, hi ≤ i → i < xs.length → 0 ≤ C i) →
      ∃ p : Nat, p ≤ xs.length ∧ (∀ i, i < p → C i < 0) ∧ (∀ i, p ≤ i → i < xs.length → 0 ≤ C i) ∧ Ev (fun k => L k xs x (xs.length : Int) (lo : Int) (hi : Int)) ((p : Int), decide (p < xs.length ∧ C p = 0)) := by
    intro d
    induction d with
    | zero =>
      intro lo hi hd hle hhl h1 h2
      obtain rfl : lo = hi := by omega
      refine ⟨lo, hhl, h1, h2, Ev.step (fun k => hL k xs x _ _ _) (ev_neg (by omega) ?_)⟩
      by_cases hlt : lo < xs.length
      · refine ev_pos (by omega) (ev_pos (by omega) (ev_pos (by omega) (Ev.bind (hc lo hlt) (ev_some ?_))))
        by_cases h0 : C lo = 0 <;> simp [h0, hlt]
      · refine ev_neg (by omega) (ev_some ?_)
        simp [hlt]
    | succ d ih =>
      intro lo hi hd hle hhl h1 h2
      by_cases he : lo = hi
      · exact ih lo hi (by omega) hle hhl h1 h2
      · have em := mid_of lo hi (by omega) (by omega)
        have hm1 : (lo + hi) / 2 < hi := by omega
        have hm0 : lo ≤ (lo + hi) / 2 := by omega
        generalize (lo + hi) / 2 = m at em hm1 hm0
        by_cases hcm : C m < 0
        · obtain ⟨p, g1, g2, g3, g4⟩ := ih (m + 1) hi (by omega) (by omega) hhl (fun i hi' => by
            rcases Nat.lt_or_ge i m with hh | hh
            · rcases Classical.em (C i < 0) with h | h
              · exact h
              · have := hm i m hh (by omega) (by omega); omega
            · obtain rfl : i = m := by omega
              exact hcm) h2
          refine ⟨p, g1, g2, g3, Ev.step (fun k => hL k xs x _ _ _) (ev_pos (by omega) ?_)⟩
          rw [em]
          refine ev_pos (by omega) (ev_pos (by omega) (Ev.bind (hc m (by omega)) (ev_pos hcm ?_)))
          rw [w64s m (by omega)]
          exact g4
        · obtain ⟨p, g1, g2, g3, g4⟩ := ih lo m (by omega) (by omega) (by omega) h1 (fun i hi1 hi2 => by
            rcases Nat.lt_or_ge m i with hh | hh
            · have := hm m i hh hi2 (by omega); omega
            · obtain rfl : i = m := by omega
              omega)
          refine ⟨p, g1, g2, g3, Ev.step (fun k => hL k xs x _ _ _) (ev_pos (by omega) ?_)⟩
          rw [em]
          exact ev_pos (by omega) (ev_pos (by omega) (Ev.bind (hc m (by omega)) (ev_neg hcm g4)))
  exact key xs.length 0 xs.length (by omega) (by omega) (by omega) (fun i hi => by omega) (fun i h h' => by omega)
end Go.Proofs.YtligkajfedkldaaO
namespace Go.Proofs.Ytligkajfedkldaa.Pure
open Go.RowKit Go.Proofs.Ytligkajfedkldaa.PFnExactDropTimer Go.Proofs.Ytligkajfedkldaa.OFnExactDropTimer Go.Proofs.YtligkajfedkldaaW.PrintWords Go.Proofs.YtligkajfedkldaaW.PrintLast Go.Proofs.YtligkajfedkldaaW.PrintMore Go.Proofs.YtligkajfedkldaaO
set_option linter.unusedVariables false
set_option linter.unusedSimpArgs false
theorem st_spec_GoodClock_j0 {r : (Bool)} {x14 : Bool} {x104000 : Int} {x104001 : List (S178)} (h : Ev (fun k => if x14 = true then (some false) else (spec_GoodClock.l0 k x104001 (x104001.length : Int) 0 x104000 x104001)) r) : Ev (fun k => spec_GoodClock.j0 k x14 x104000 x104001) r := Ev.step (fun k => by rw [spec_GoodClock.j0]) h
theorem st_spec_GoodClock_l0 {r : (Bool)} {x16 : List (S178)} {x17 : Int} {x18 : Int} {x104000 : Int} {x104001 : List (S178)} (h : Ev (fun k => if x18 < x17 then (if 0 ≤ x18 then (if x18 < (x16.length : Int) then ((spec_l1In.f ((rd_T178 x16 x18).f0) 0 999).bind fun t107 => (if t107 = true then (if x18 > 0 then (if 0 ≤ (wrap64 (x18 - 1)) then (if (wrap64 (x18 - 1)) < (x104001.length : Int) then (if ((rd_T178 x104001 (wrap64 (x18 - 1))).f0) ≥ ((rd_T178 x16 x18).f0) then (spec_GoodClock.j2 k x16 x17 x18 true x104000 x104001) else ((spec_l1In.f ((rd_T178 x16 x18).f1) (wrap64 (x104000 + 1)) 200000).bind fun t109 => (if t109 = true then ((spec_l1In.f ((rd_T178 x16 x18).f2) 0 100000).bind fun t110 => (if t110 = true then ((spec_l1In.f ((rd_T178 x16 x18).f3) 1 1000).bind fun t111 => (if t111 = true then (if ((rd_T178 x16 x18).f2) = 0 then (spec_GoodClock.j2 k x16 x17 x18 (((rd_T178 x16 x18).f3) != 1) x104000 x104001) else (spec_GoodClock.j2 k x16 x17 x18 false x104000 x104001)) else (spec_GoodClock.j2 k x16 x17 x18 true x104000 x104001))) else (spec_GoodClock.j2 k x16 x17 x18 true x104000 x104001))) else (spec_GoodClock.j2 k x16 x17 x18 true x104000 x104001)))) else (none)) else (none)) else ((spec_l1In.f ((rd_T178 x16 x18).f1) (wrap64 (x104000 + 1)) 200000).bind fun t112 => (if t112 = true then ((spec_l1In.f ((rd_T178 x16 x18).f2) 0 100000).bind fun t113 => (if t113 = true then ((spec_l1In.f ((rd_T178 x16 x18).f3) 1 1000).bind fun t114 => (if t114 = true then (if ((rd_T178 x16 x18).f2) = 0 then (spec_GoodClock.j2 k x16 x17 x18 (((rd_T178 x16 x18).f3) != 1) x104000 x104001) else (spec_GoodClock.j2 k x16 x17 x18 false x104000 x104001)) else (spec_GoodClock.j2 k x16 x17 x18 true x104000 x104001))) else (spec_GoodClock.j2 k x16 x17 x18 true x104000 x104001))) else (spec_GoodClock.j2 k x16 x17 x18 true x104000 x104001)))) else (spec_GoodClock.j2 k x16 x17 x18 true x104000 x104001))) else (none)) else (none)) else (some true)) r) : Ev (fun k => spec_GoodClock.l0 k x16 x17 x18 x104000 x104001) r := Ev.step (fun k => by rw [spec_GoodClock.l0]) h
theorem st_spec_GoodClock_j2 {r : (Bool)} {x16 : List (S178)} {x17 : Int} {x18 : Int} {x73 : Bool} {x104000 : Int} {x104001 : List (S178)} (h : Ev (fun k => if x73 = true then (some false) else (spec_GoodClock.l0 k x16 x17 (wrap64 (x18 + 1)) x104000 x104001)) r) : Ev (fun k => spec_GoodClock.j2 k x16 x17 x18 x73 x104000 x104001) r := Ev.step (fun k => by rw [spec_GoodClock.j2]) h
theorem st_spec_DropTimer_l0 {r : (Int × (List (S178)) × Bool)} {x1 : Int} {x17 : List (S178)} {x18 : Int} {x19 : Int} {x116000 : Int} {x116001 : List (S178)} {x119000 : Int} {x119001 : List (S178)} (h : Ev (fun k => if x19 < x18 then (if 0 ≤ x19 then (if x19 < (x17.length : Int) then (if ((rd_T178 x17 x19).f0) = x1 then (spec_DropTimer.l0 k x1 x17 x18 (wrap64 (x19 + 1)) x116000 x116001 x119000 x119001) else (if x119001.length < 4398046511104 then (spec_DropTimer.l0 k x1 x17 x18 (wrap64 (x19 + 1)) x116000 x116001 x119000 (x119001 ++ [(⟨(rd_T178 x17 x19).f0, (rd_T178 x17 x19).f1, (rd_T178 x17 x19).f2, (rd_T178 x17 x19).f3⟩ : S178)])) else (none))) else (none)) else (none)) else (if (x119001.length : Int) = (x116001.length : Int) then (some (0, ([] : List (S178)), false)) else (some (x119000, x119001, true)))) r) : Ev (fun k => spec_DropTimer.l0 k x1 x17 x18 x19 x116000 x116001 x119000 x119001) r := Ev.step (fun k => by rw [spec_DropTimer.l0]) h
theorem st_impl_GoodClock_j0 {r : (Bool)} {x14 : Bool} {x149000 : Int} {x149001 : List (S178)} (h : Ev (fun k => if x14 = true then (some false) else (impl_GoodClock.l0 k x149001 (x149001.length : Int) 0 x149000 x149001)) r) : Ev (fun k => impl_GoodClock.j0 k x14 x149000 x149001) r := Ev.step (fun k => by rw [impl_GoodClock.j0]) h
theorem st_impl_GoodClock_l0 {r : (Bool)} {x16 : List (S178)} {x17 : Int} {x18 : Int} {x149000 : Int} {x149001 : List (S178)} (h : Ev (fun k => if x18 < x17 then (if 0 ≤ x18 then (if x18 < (x16.length : Int) then ((impl_isTimer.f ((rd_T178 x16 x18).f0) ((rd_T178 x16 x18).f1) ((rd_T178 x16 x18).f2) ((rd_T178 x16 x18).f3) x149000).bind fun t152 => (if t152 = true then (if x18 > 0 then (if 0 ≤ (wrap64 (x18 - 1)) then (if (wrap64 (x18 - 1)) < (x149001.length : Int) then (impl_GoodClock.j2 k x16 x17 x18 (decide (((rd_T178 x149001 (wrap64 (x18 - 1))).f0) ≥ ((rd_T178 x16 x18).f0))) x149000 x149001) else (none)) else (none)) else (impl_GoodClock.j2 k x16 x17 x18 false x149000 x149001)) else (impl_GoodClock.j2 k x16 x17 x18 true x149000 x149001))) else (none)) else (none)) else (some true)) r) : Ev (fun k => impl_GoodClock.l0 k x16 x17 x18 x149000 x149001) r := Ev.step (fun k => by rw [impl_GoodClock.l0]) h
theorem st_impl_GoodClock_j2 {r : (Bool)} {x16 : List (S178)} {x17 : Int} {x18 : Int} {x43 : Bool} {x149000 : Int} {x149001 : List (S178)} (h : Ev (fun k => if x43 = true then (some false) else (impl_GoodClock.l0 k x16 x17 (wrap64 (x18 + 1)) x149000 x149001)) r) : Ev (fun k => impl_GoodClock.j2 k x16 x17 x18 x43 x149000 x149001) r := Ev.step (fun k => by rw [impl_GoodClock.j2]) h
theorem st_impl_DropTimer_j0 {r : (Int × (List (S178)) × Bool)} {x1 : Int} {x15 : Bool} {x163000 : Int} {x163001 : List (S178)} (h : Ev (fun k => if x15 = true then (some (0, ([] : List (S178)), false)) else ((impl_Clock_place.f k x163000 x163001 x1).bind fun bt166 => (if bt166.2 = true then ((impl_Timer_131.f x163001).bind fun t168 => ((impl_Timer_130.f t168 bt166.1 (wrap64 (bt166.1 + 1))).bind fun t171 => (some (x163000, t171, true)))) else (some (0, ([] : List (S178)), false))))) r) : Ev (fun k => impl_DropTimer.j0 k x1 x15 x163000 x163001) r := Ev.step (fun k => by rw [impl_DropTimer.j0]) h
theorem st_laws_FnExactDropTimer_j0 {r : (Bool)} {x1 : Int} {x7 : Bool} {x10 : Bool} {x44 : Bool} {x196000 : Int} {x196001 : List (S254)} {x207000 : Int} {x207001 : List (S178)} {x212000 : Int} {x212001 : List (S178)} {x218000 : Int} {x218001 : List (S178)} (h : Ev (fun k => if x44 = true then (some false) else ((laws_toClock.f k x196000 x196001).bind fun bt219 => ((laws_eqClock.f k x212000 x212001 bt219.1 bt219.2).bind fun t223 => (if t223 = true then ((laws_markClock.f k x212000 x212001 1).bind fun bt224 => (if bt224.1 < 0 then (laws_FnExactDropTimer.j1 k x1 x7 true x196000 x196001 x207000 x207001 x218000 x218001) else ((laws_eqClock.f k x218000 x218001 x207000 x207001).bind fun t226 => (if t226 = true then (laws_FnExactDropTimer.j1 k x1 x7 (x10 != x7) x196000 x196001 x207000 x207001 x218000 x218001) else (laws_FnExactDropTimer.j1 k x1 x7 true x196000 x196001 x207000 x207001 x218000 x218001))))) else (some false))))) r) : Ev (fun k => laws_FnExactDropTimer.j0 k x1 x7 x10 x44 x196000 x196001 x207000 x207001 x212000 x212001 x218000 x218001) r := Ev.step (fun k => by rw [laws_FnExactDropTimer.j0]) h
theorem st_laws_FnExactDropTimer_j1 {r : (Bool)} {x1 : Int} {x7 : Bool} {x65 : Bool} {x196000 : Int} {x196001 : List (S254)} {x207000 : Int} {x207001 : List (S178)} {x218000 : Int} {x218001 : List (S178)} (h : Ev (fun k => if x65 = true then (some false) else ((laws_markClock.f k x218000 x218001 1).bind fun bt227 => ((laws_heldClock.f k x218000 bt227.2 1).bind fun t229 => (if t229 < 0 then (some false) else (if t229 = bt227.1 then ((laws_toClock.f k x196000 x196001).bind fun bt230 => ((impl_DropTimer.f k bt230.1 bt230.2 x1).bind fun bt234 => ((laws_eqClock.f k bt234.1 bt234.2.1 x207000 x207001).bind fun t240 => (if t240 = true then (laws_FnExactDropTimer.j2 k bt227.1 (bt234.2.2 != x7) x218000 bt227.2) else (laws_FnExactDropTimer.j2 k bt227.1 true x218000 bt227.2))))) else (some false)))))) r) : Ev (fun k => laws_FnExactDropTimer.j1 k x1 x7 x65 x196000 x196001 x207000 x207001 x218000 x218001) r := Ev.step (fun k => by rw [laws_FnExactDropTimer.j1]) h
theorem st_laws_FnExactDropTimer_j2 {r : (Bool)} {x12 : Int} {x92 : Bool} {x218000 : Int} {x218001 : List (S178)} (h : Ev (fun k => if x92 = true then (some false) else ((laws_heldClock.f k x218000 x218001 1).bind fun t241 => (if t241 < 0 then (some false) else (if t241 = x12 then (some true) else (some false))))) r) : Ev (fun k => laws_FnExactDropTimer.j2 k x12 x92 x218000 x218001) r := Ev.step (fun k => by rw [laws_FnExactDropTimer.j2]) h
theorem in_some (a b c : Int) : spec_l1In.f a b c = some (decide (b ≤ a ∧ a ≤ c)) := by
  unfold spec_l1In.f
  split <;> simp_all <;> omega
theorem in_same (a b c : Int) : impl_inRange.f a b c = spec_l1In.f a b c := rfl
theorem szTimerS_some (xs : List S254) (g : xs.length * 32 ≤ 140737488351232 ∧ ∀ y ∈ xs, Ok254 y) (left : Int) (h0 : 0 ≤ left) (h1 : left ≤ 1048576) : ∃ r, Ev (fun _ => laws_szTimerS.f xs left) r ∧ (r < 0 ∨ 0 ≤ r ∧ r ≤ left ∧ xs.length ≤ 1048576) := by
  have g1 := g.1
  unfold laws_szTimerS.f
  rw [w64 (n := left - (xs.length : Int)) (by omega) (by omega)]
  refine exev_ite (fun _ => exev_some (.inl (by omega))) fun hc => ?_
  exact exev_some (.inr ⟨by omega, by omega, by omega⟩)
theorem szClock_some (a0 : Int) (l1 : List S254) (ga0 : In64 a0) (gl1 : l1.length * 32 ≤ 140737488351232 ∧ ∀ y ∈ l1, Ok254 y) (left : Int) (h0 : 0 ≤ left) (h1 : left ≤ 1048576) : ∃ r, Ev (fun _ => laws_szClock.f a0 l1 left) r ∧ (r < 0 ∨ 0 ≤ r ∧ r ≤ left ∧ (l1.length ≤ 1048576)) := by
  unfold laws_szClock.f
  obtain ⟨r0, hr0, hq0⟩ := szTimerS_some l1 gl1 (left) (by omega) (by omega)
  refine exev_bind hr0 (exev_ite (fun _ => exev_some (.inl (by omega))) fun c0 => ?_)
  rcases hq0 with hq0 | ⟨u0, v0, w0⟩
  · omega
  exact exev_some (.inr ⟨by omega, by omega, w0⟩)
def cv254 (x : S254) : S178 := ⟨x.f0, x.f1, x.f2, x.f3⟩
theorem toTimerS_ev (xs : List S254) (h : xs.length ≤ 1048576) : Ev (fun k => laws_toTimerS.f k xs) (xs.map cv254) := by
  refine ev_pos (by omega) (ev_pos (by have := h; omega) ?_)
  refine ev_copy2 laws_toTimerS.l0 (fun k xs i => laws_toTimer.f ((rd_T254 xs i).f0) ((rd_T254 xs i).f1) ((rd_T254 xs i).f2) ((rd_T254 xs i).f3)) (fun t => (⟨t.1, t.2.1, t.2.2.1, t.2.2.2⟩ : S178)) cv254 (fun _ _ _ _ => rfl) xs (by have := h; omega) (fun i hi => ?_) _ (by simp)
  · have e : rd_T254 xs (i : Int) = xs[i] := getD_get hi
    rw [e]
    exact ⟨_, ev_eq rfl, rfl⟩
theorem toClock_ev (a0 : Int) (l1 : List S254) (hl1 : l1.length ≤ 1048576) : Ev (fun k => laws_toClock.f k a0 l1) (a0, (l1.map cv254)) := by
  unfold laws_toClock.f
  repeat (first | exact ev_some rfl | refine Ev.bind (toTimerS_ev _ hl1) ?_ | refine ev_bindc rfl ?_)
theorem eqTimer_self (a0 : Int) (a1 : Int) (a2 : Int) (a3 : Int) : laws_eqTimer.f a0 a1 a2 a3 a0 a1 a2 a3 = some true := by
  simp [laws_eqTimer.f]
theorem eqTimerS_ev (xs : List S178) (h : xs.length ≤ 1048576) : Ev (fun k => laws_eqTimerS.f k xs xs) true := by
  refine ev_pos rfl (ev_alike_self laws_eqTimerS.l0 (fun k xs ys i => laws_eqTimer.f ((rd_T178 xs i).f0) ((rd_T178 xs i).f1) ((rd_T178 xs i).f2) ((rd_T178 xs i).f3) ((rd_T178 ys i).f0) ((rd_T178 ys i).f1) ((rd_T178 ys i).f2) ((rd_T178 ys i).f3)) (fun _ _ _ _ => rfl) xs (by have := h; omega) (fun i hi => ?_))
  · exact ev_eq (eqTimer_self _ _ _ _)
theorem eqClock_ev (a0 : Int) (l1 : List S178) (hl1 : l1.length ≤ 1048576) : Ev (fun k => laws_eqClock.f k a0 l1 a0 l1) true := by
  unfold laws_eqClock.f
  repeat (first | exact ev_some rfl | refine Ev.bind (eqTimerS_ev l1 hl1) ?_ | refine ev_pos rfl ?_ | refine ev_neg (by simp) ?_)
def MarkTimerS (x : S178) (c d : Int) : Prop := x = (⟨c, c + 1, c + 1 + 1, c + 1 + 1 + 1⟩ : S178) ∧ d = c + 1 + 1 + 1 + 1
theorem rd_set178 {xs : List S178} {i : Nat} (h : i < xs.length) (v : S178) : rd_T178 (xs.set i v) (i : Int) = v := by
  unfold rd_T178
  rw [getD_get (by simpa using h), List.getElem_set_self]
theorem markTimerS_ev (xs : List S178) (hl : xs.length ≤ 1048576) (c : Int) (hc0 : 0 ≤ c) (hc1 : c ≤ 1152921504606846976) :
    ∃ ys d, Chain MarkTimerS ys c d ∧ c ≤ d ∧ d ≤ c + 4 * xs.length ∧ ys.length = xs.length ∧ Ev (fun k => laws_markTimerS.f k xs c) (d, ys) := by
  refine ev_mark (fun k zs c i => laws_markTimerS.l0 k zs c (i : Int)) MarkTimerS (fun _ => True) 4 (by omega) (by omega) ?_ ?_ xs (fun _ _ => trivial) hl c hc0 hc1
  · intro zs c
    exact Ev.step (fun _ => rfl) (ev_neg (by omega) (ev_some rfl))
  · intro zs c i hi h20 _ h0 h1
    refine ⟨_, _, ⟨rfl, rfl⟩, by omega, by omega, fun r hr => Ev.step (fun _ => rfl) (ev_pos (by omega) (ev_pos (by omega) ?_))⟩
    simp only [Option.bind_some, Int.toNat_natCast, rd_set178 hi, List.set_set, w64s i (by omega), w64 (n := c + 1) (by omega) (by omega), w64 (n := c + 1 + 1) (by omega) (by omega), w64 (n := c + 1 + 1 + 1) (by omega) (by omega), w64 (n := c + 1 + 1 + 1 + 1) (by omega) (by omega)]
    exact hr
theorem heldTimerS_ev (ys : List S178) (hl : ys.length ≤ 1048576) (c d : Int) (hc : 0 ≤ c) (hd : d ≤ 2305843009213693952) (h : Chain MarkTimerS ys c d) : Ev (fun k => laws_heldTimerS.f k ys c) d := by
  refine ev_held (fun k zs c i => laws_heldTimerS.l0 k zs c (i : Int)) MarkTimerS (fun x c d h => by have := h.2; omega) ?_ ?_ ys hl c d hc hd h
  · intro zs c
    exact Ev.step (fun _ => rfl) (ev_neg (by omega) (ev_some rfl))
  · intro zs c c' i hi h20 hE h0 h1 r hr
    obtain ⟨hx, rfl⟩ := hE
    have hg : rd_T178 zs (i : Int) = (⟨c, c + 1, c + 1 + 1, c + 1 + 1 + 1⟩ : S178) := (getD_get hi).trans hx
    refine Ev.step (fun _ => rfl) (ev_pos (by omega) (ev_pos (by omega) ?_))
    rw [hg]
    simp only [w64s i (by omega), w64 (n := c + 1) (by omega) (by omega), w64 (n := c + 1 + 1) (by omega) (by omega), w64 (n := c + 1 + 1 + 1) (by omega) (by omega), w64 (n := c + 1 + 1 + 1 + 1) (by omega) (by omega)]
    exact ev_pos (by trivial) (ev_pos (by trivial) (ev_pos (by trivial) (ev_pos (by trivial) (hr))))
def TimerOk (a : Int) (l : List S178) (i : Nat) : Prop := (0 ≤ (rd_T178 l (i : Int)).f0 ∧ (rd_T178 l (i : Int)).f0 ≤ 999) ∧ (a + 1 ≤ (rd_T178 l (i : Int)).f1 ∧ (rd_T178 l (i : Int)).f1 ≤ 200000) ∧ (0 ≤ (rd_T178 l (i : Int)).f2 ∧ (rd_T178 l (i : Int)).f2 ≤ 100000) ∧ (1 ≤ (rd_T178 l (i : Int)).f3 ∧ (rd_T178 l (i : Int)).f3 ≤ 1000) ∧ ((rd_T178 l (i : Int)).f2 = 0 → (rd_T178 l (i : Int)).f3 = 1)
def StandOk (a : Int) (l : List S178) (i : Nat) : Prop := TimerOk a l i ∧ (0 < i → (rd_T178 l ((i : Int) - 1)).f0 < (rd_T178 l (i : Int)).f0)
def ClockOk (a : Int) (l : List S178) : Prop := (0 ≤ a ∧ a ≤ 100000) ∧ l.length ≤ 20 ∧ ∀ i, i < l.length → StandOk a l i
theorem clock_spec (a : Int) (l : List S178) (t : Bool) (ht : t = true ↔ ClockOk a l) : Ev (fun k => spec_GoodClock.f k a l) t := by
  have j0t : Ev (fun k => spec_GoodClock.j0 k true a l) false := st_spec_GoodClock_j0 (ev_pos rfl (ev_some rfl))
  have no : ¬ ClockOk a l → t = false := bool_false ht
  refine ev_bindc (in_some _ _ _) (ev_ite (fun ha => ?_) fun ha => by rw [no (fun h => ha (decide_eq_true h.1))]; exact j0t)
  have ha := of_decide_eq_true ha
  by_cases hn : (l.length : Int) > 20
  · rw [decide_eq_true hn, no (fun h => by have := h.2.1; omega)]; exact j0t
  rw [decide_eq_false hn]
  refine st_spec_GoodClock_j0 (ev_neg (by decide) ?_)
  refine ev_all l.length (fun k i => spec_GoodClock.l0 k l (l.length : Int) (i : Int) a l) (StandOk a l) true t ?_ ?_ ?_ ?_
  · rw [ht]; unfold ClockOk; exact ⟨fun h => ⟨rfl, h.2.2⟩, fun h => ⟨ha, by omega, h.2⟩⟩
  · exact st_spec_GoodClock_l0 (ev_neg (by omega) (ev_some rfl))
  · intro i hi _ ⟨⟨h0, h1, h2, h3, h4⟩, h5⟩ r hr
    have e1 : wrap64 (a + 1) = a + 1 := w64 (by omega) (by omega)
    have e2 : wrap64 ((i : Int) - 1) = (i : Int) - 1 := w64 (by omega) (by omega)
    refine st_spec_GoodClock_l0 (ev_pos (by omega) (ev_pos (by omega) (ev_pos (by omega) (ev_bindc (in_some _ _ _) (ev_pos (decide_eq_true h0) ?_)))))
    rw [e1, e2]
    refine ev_ite (fun hi0 => ev_pos (by omega) (ev_pos (by omega) (ev_neg (by have := h5 (by omega); omega) ?_))) fun hi0 => ?_
    all_goals
      refine ev_bindc (in_some _ _ _) (ev_pos (decide_eq_true h1) (ev_bindc (in_some _ _ _) (ev_pos (decide_eq_true h2) (ev_bindc (in_some _ _ _) (ev_pos (decide_eq_true h3) ?_)))))
      refine ev_ite (fun hz => ?_) fun hz => ?_
      · rw [h4 hz]
        refine st_spec_GoodClock_j2 (ev_neg (by decide) ?_)
        rw [w64s i (by omega)]; exact hr
      · refine st_spec_GoodClock_j2 (ev_neg (by decide) ?_)
        rw [w64s i (by omega)]; exact hr
  · intro i hi _ ho
    have e1 : wrap64 (a + 1) = a + 1 := w64 (by omega) (by omega)
    have e2 : wrap64 ((i : Int) - 1) = (i : Int) - 1 := w64 (by omega) (by omega)
    have bad : Ev (fun k => spec_GoodClock.j2 k l (l.length : Int) (i : Int) true a l) false := st_spec_GoodClock_j2 (ev_pos rfl (ev_some rfl))
    refine st_spec_GoodClock_l0 (ev_pos (by omega) (ev_pos (by omega) (ev_pos (by omega) (ev_bindc (in_some _ _ _) (ev_ite (fun h0 => ?_) fun _ => bad)))))
    rw [e1, e2]
    refine ev_ite (fun hi0 => ev_pos (by omega) (ev_pos (by omega) (ev_ite (fun _ => bad) fun h5 => ?_))) fun hi0 => ?_
    all_goals
      refine ev_bindc (in_some _ _ _) (ev_ite (fun h1 => ?_) fun _ => bad)
      refine ev_bindc (in_some _ _ _) (ev_ite (fun h2 => ?_) fun _ => bad)
      refine ev_bindc (in_some _ _ _) (ev_ite (fun h3 => ?_) fun _ => bad)
      refine ev_ite (fun hz => ?_) fun hz => ?_
      · by_cases h4 : (rd_T178 l (i : Int)).f3 = 1
        · exact absurd ⟨⟨of_decide_eq_true h0, of_decide_eq_true h1, of_decide_eq_true h2, of_decide_eq_true h3, fun _ => h4⟩, fun _ => by omega⟩ ho
        · have e : ((rd_T178 l (i : Int)).f3 != 1) = true := by simpa using h4
          rw [e]; exact bad
      · exact absurd ⟨⟨of_decide_eq_true h0, of_decide_eq_true h1, of_decide_eq_true h2, of_decide_eq_true h3, fun h => absurd h hz⟩, fun _ => by omega⟩ ho
theorem timer_impl (a : Int) (ha : 0 ≤ a ∧ a ≤ 100000) (l : List S178) (i : Nat) : ∃ c : Bool, impl_isTimer.f (rd_T178 l (i : Int)).f0 (rd_T178 l (i : Int)).f1 (rd_T178 l (i : Int)).f2 (rd_T178 l (i : Int)).f3 a = some c ∧ (c = true ↔ TimerOk a l i) := by
  have e1 : wrap64 (a + 1) = a + 1 := w64 (by omega) (by omega)
  unfold impl_isTimer.f impl_isTime.f TimerOk
  rw [e1]
  simp only [in_same, in_some, Option.bind_some]
  generalize rd_T178 l (i : Int) = x
  by_cases h0 : 0 ≤ x.f0 ∧ x.f0 ≤ 999
  · by_cases h1 : a + 1 ≤ x.f1 ∧ x.f1 ≤ 200000
    · by_cases h2 : 0 ≤ x.f2 ∧ x.f2 ≤ 100000
      · by_cases h3 : 1 ≤ x.f3 ∧ x.f3 ≤ 1000
        · rw [decide_eq_true h0, if_pos rfl, decide_eq_true h1, if_pos rfl, decide_eq_true h2, if_pos rfl, decide_eq_true h3, if_pos rfl]
          by_cases hz : x.f2 > 0
          · rw [if_pos hz]; exact ⟨_, rfl, ⟨fun _ => ⟨h0, h1, h2, h3, fun h => by omega⟩, fun _ => rfl⟩⟩
          · rw [if_neg hz]
            refine ⟨_, rfl, ⟨fun h => ⟨h0, h1, h2, h3, fun _ => by simpa using h⟩, fun h => ?_⟩⟩
            rw [h.2.2.2.2 (by omega)]; rfl
        · rw [decide_eq_true h0, if_pos rfl, decide_eq_true h1, if_pos rfl, decide_eq_true h2, if_pos rfl, decide_eq_false h3, if_neg (by decide)]
          exact ⟨_, rfl, ⟨fun h => (by cases h), fun h => absurd h.2.2.2.1 h3⟩⟩
      · rw [decide_eq_true h0, if_pos rfl, decide_eq_true h1, if_pos rfl, decide_eq_false h2, if_neg (by decide)]
        exact ⟨_, rfl, ⟨fun h => (by cases h), fun h => absurd h.2.2.1 h2⟩⟩
    · rw [decide_eq_true h0, if_pos rfl, decide_eq_false h1, if_neg (by decide)]
      exact ⟨_, rfl, ⟨fun h => (by cases h), fun h => absurd h.2.1 h1⟩⟩
  · rw [decide_eq_false h0, if_neg (by decide)]
    exact ⟨_, rfl, ⟨fun h => (by cases h), fun h => absurd h.1 h0⟩⟩
theorem clock_impl (a : Int) (l : List S178) (t : Bool) (ht : t = true ↔ ClockOk a l) : Ev (fun k => impl_GoodClock.f k a l) t := by
  have j0t : Ev (fun k => impl_GoodClock.j0 k true a l) false := st_impl_GoodClock_j0 (ev_pos rfl (ev_some rfl))
  have no : ¬ ClockOk a l → t = false := bool_false ht
  have time : impl_isTime.f a = some (decide (0 ≤ a ∧ a ≤ 100000)) := by unfold impl_isTime.f; rw [in_same, in_some]; rfl
  refine ev_bindc time (ev_ite (fun ha => ?_) fun ha => by rw [no (fun h => ha (decide_eq_true h.1))]; exact j0t)
  have ha := of_decide_eq_true ha
  by_cases hn : (l.length : Int) > 20
  · rw [decide_eq_true hn, no (fun h => by have := h.2.1; omega)]; exact j0t
  rw [decide_eq_false hn]
  refine st_impl_GoodClock_j0 (ev_neg (by decide) ?_)
  refine ev_all l.length (fun k i => impl_GoodClock.l0 k l (l.length : Int) (i : Int) a l) (StandOk a l) true t ?_ ?_ ?_ ?_
  · rw [ht]; unfold ClockOk; exact ⟨fun h => ⟨rfl, h.2.2⟩, fun h => ⟨ha, by omega, h.2⟩⟩
  · exact st_impl_GoodClock_l0 (ev_neg (by omega) (ev_some rfl))
  · intro i hi _ ⟨h4, h5⟩ r hr
    obtain ⟨c, hc, hc'⟩ := timer_impl a ha l i
    obtain rfl := hc'.2 h4
    have e2 : wrap64 ((i : Int) - 1) = (i : Int) - 1 := w64 (by omega) (by omega)
    refine st_impl_GoodClock_l0 (ev_pos (by omega) (ev_pos (by omega) (ev_pos (by omega) (ev_bindc hc (ev_pos rfl ?_)))))
    rw [e2]
    refine ev_ite (fun hi0 => ev_pos (by omega) (ev_pos (by omega) ?_)) fun hi0 => ?_
    · rw [decide_eq_false (by have := h5 (by omega); omega)]
      refine st_impl_GoodClock_j2 (ev_neg (by decide) ?_)
      rw [w64s i (by omega)]; exact hr
    · refine st_impl_GoodClock_j2 (ev_neg (by decide) ?_)
      rw [w64s i (by omega)]; exact hr
  · intro i hi _ ho
    obtain ⟨c, hc, hc'⟩ := timer_impl a ha l i
    have e2 : wrap64 ((i : Int) - 1) = (i : Int) - 1 := w64 (by omega) (by omega)
    have bad : Ev (fun k => impl_GoodClock.j2 k l (l.length : Int) (i : Int) true a l) false := st_impl_GoodClock_j2 (ev_pos rfl (ev_some rfl))
    refine st_impl_GoodClock_l0 (ev_pos (by omega) (ev_pos (by omega) (ev_pos (by omega) (ev_bindc hc (ev_ite (fun h0 => ?_) fun _ => bad)))))
    rw [e2]
    refine ev_ite (fun hi0 => ev_pos (by omega) (ev_pos (by omega) ?_)) fun hi0 => ?_
    · by_cases h5 : (rd_T178 l ((i : Int) - 1)).f0 ≥ (rd_T178 l (i : Int)).f0
      · rw [decide_eq_true h5]; exact bad
      · exact absurd ⟨hc'.1 h0, fun _ => by omega⟩ ho
    · exact absurd ⟨hc'.1 h0, fun h => by omega⟩ ho
theorem clock_rise {a : Int} {l : List S178} (h : ClockOk a l) : ∀ d i : Nat, i + d + 1 < l.length → (rd_T178 l (i : Int)).f0 < (rd_T178 l ((i + d + 1 : Nat) : Int)).f0 := by
  intro d
  induction d with
  | zero =>
    intro i hi
    have := (h.2.2 (i + 1) (by omega)).2 (by omega)
    have e : (((i + 1 : Nat) : Int) - 1) = (i : Int) := by omega
    rw [e] at this
    exact this
  | succ d ih =>
    intro i hi
    have h1 := ih i (by omega)
    have h2 := (h.2.2 (i + d + 1 + 1) (by omega)).2 (by omega)
    have e : (((i + d + 1 + 1 : Nat) : Int) - 1) = ((i + d + 1 : Nat) : Int) := by omega
    rw [e] at h2
    exact Int.lt_trans h1 h2
theorem clock_rises {a : Int} {l : List S178} (h : ClockOk a l) (i j : Nat) (hij : i < j) (hj : j < l.length) : (rd_T178 l (i : Int)).f0 < (rd_T178 l (j : Int)).f0 := by
  obtain ⟨d, rfl⟩ : ∃ d, j = i + d + 1 := ⟨j - i - 1, by omega⟩
  exact clock_rise h d i hj
theorem rd_timer (l : List S178) (i : Nat) (h : i < l.length) : rd_T178 l (i : Int) = l[i] := by
  simp [rd_T178, List.getD_eq_getElem?_getD, h]
theorem place_ev (a : Int) (l : List S178) (h : ClockOk a l) (id : Int) (hid : 0 ≤ id ∧ id ≤ 999) :
    ∃ p : Nat, p ≤ l.length ∧ (∀ i : Nat, i < p → i < l.length → (rd_T178 l (i : Int)).f0 < id) ∧ (∀ i : Nat, p ≤ i → i < l.length → id ≤ (rd_T178 l (i : Int)).f0) ∧
      Ev (fun k => impl_Clock_place.f k a l id) ((p : Int), decide (p < l.length ∧ (rd_T178 l (p : Int)).f0 = id)) := by
  have hl := h.2.1
  have hr : ∀ i : Nat, i < l.length → 0 ≤ (rd_T178 l (i : Int)).f0 ∧ (rd_T178 l (i : Int)).f0 ≤ 999 := fun i hi => (h.2.2 i hi).1.1
  have hw : ∀ i : Nat, i < l.length → wrap64 ((rd_T178 l (i : Int)).f0 - id) = (rd_T178 l (i : Int)).f0 - id := fun i hi => by have := hr i hi; exact w64 (by omega) (by omega)
  obtain ⟨p, h1, h2, h3, h4⟩ := ev_search slices_BinarySearchFunc_w213.l0 (fun _ xs i x => impl_Clock_place_1.f ((rd_T178 xs i).f0) ((rd_T178 xs i).f1) ((rd_T178 xs i).f2) ((rd_T178 xs i).f3) x) (fun _ _ _ _ _ _ => rfl) l id (by omega)
    (fun i => wrap64 ((rd_T178 l (i : Int)).f0 - id)) (fun i _ => ev_some rfl) (fun i j hij hj h0 => by
      have q := clock_rises h i j hij hj
      have g1 := hw i (by omega)
      have g2 := hw j hj
      omega)
  refine ⟨p, h1, fun i hi hi' => by have := h2 i hi; have g := hw i hi'; omega, fun i hi hi' => by have := h3 i hi hi'; have g := hw i hi'; omega, ?_⟩
  refine Ev.bind h4 (ev_some ?_)
  simp only [Prod.mk.injEq, true_and]
  by_cases hp : p < l.length
  · have g := hw p hp
    rw [g]
    have : ((rd_T178 l (p : Int)).f0 - id = 0) ↔ ((rd_T178 l (p : Int)).f0 = id) := by omega
    simp only [this]
  · simp [hp]
theorem markClock_ev (a : Int) {l ys : List S178} {c d : Int} (h : Ev (fun k => laws_markTimerS.f k l c) (d, ys)) : Ev (fun k => laws_markClock.f k a l c) (d, ys) := Ev.bind h (ev_some rfl)
theorem heldClock_ev (a : Int) {l : List S178} {c d : Int} (hd : 0 ≤ d) (h : Ev (fun k => laws_heldTimerS.f k l c) d) : Ev (fun k => laws_heldClock.f k a l c) d := Ev.bind h (ev_neg (by omega) (ev_some rfl))
def others (l : List S178) (id : Int) : List S178 := l.filter fun x => decide (x.f0 ≠ id)
theorem drop_spec (a : Int) (l : List S178) (hl : l.length ≤ 20) (id : Int) :
    Ev (fun k => spec_DropTimer.l0 k id l (l.length : Int) 0 a l a []) (if (others l id).length = l.length then (0, [], false) else (a, others l id, true)) := by
  refine ev_for1 l.length (fun k i s => spec_DropTimer.l0 k id l (l.length : Int) (i : Int) a l a s) (fun i s => s = others (l.take i) id) _ ?_ ?_ 0 [] (Nat.zero_le _) rfl
  · intro s hs
    rw [List.take_length] at hs
    subst hs
    refine st_spec_DropTimer_l0 (ev_neg (by omega) ?_)
    by_cases he : (others l id).length = l.length
    · rw [if_pos he]; exact ev_pos (by omega) (ev_some rfl)
    · rw [if_neg he]; exact ev_neg (by omega) (ev_some rfl)
  · intro i s hi hs
    subst hs
    have e : others (l.take (i + 1)) id = others (l.take i) id ++ (if (rd_T178 l (i : Int)).f0 = id then [] else [rd_T178 l (i : Int)]) := by
      rw [rd_timer l i hi, List.take_succ_eq_append_getElem hi, others, List.filter_append]
      congr 1
      by_cases h : l[i].f0 = id <;> simp [h]
    refine .inr ⟨others (l.take (i + 1)) id, rfl, fun r hr => st_spec_DropTimer_l0 (ev_pos (by omega) (ev_pos (by omega) (ev_pos (by omega) ?_)))⟩
    rw [w64s i (by omega)]
    have hlen : (others (l.take i) id).length ≤ 20 := Nat.le_trans (List.length_filter_le _ _) (by rw [List.length_take]; omega)
    rw [e] at hr
    by_cases h : (rd_T178 l (i : Int)).f0 = id
    · rw [if_pos h, List.append_nil] at hr
      exact ev_pos h hr
    · rw [if_neg h] at hr
      exact ev_neg h (ev_pos (by omega) hr)
theorem others_at {a : Int} {l : List S178} (h : ClockOk a l) (p : Nat) (hp : p < l.length) : others l (rd_T178 l (p : Int)).f0 = l.eraseIdx p := by
  rw [rd_timer l p hp, List.eraseIdx_eq_take_drop_succ, others]
  obtain ⟨q, hq⟩ : ∃ q, q = l[p].f0 := ⟨_, rfl⟩
  have hs : l = l.take p ++ l[p] :: l.drop (p + 1) := by rw [← List.drop_eq_getElem_cons hp, List.take_append_drop]
  rw [← hq]
  conv => lhs; rw [hs]
  rw [List.filter_append, List.filter_cons_of_neg (by simp [hq])]
  congr 1
  · rw [List.filter_eq_self]
    intro x hx
    obtain ⟨i, hi, rfl⟩ := List.getElem_of_mem hx
    rw [List.length_take] at hi
    have := clock_rises h i p (by omega) hp
    rw [rd_timer l p hp, rd_timer l i (by omega)] at this
    rw [List.getElem_take, hq]
    simp; omega
  · rw [List.filter_eq_self]
    intro x hx
    obtain ⟨i, hi, rfl⟩ := List.getElem_of_mem hx
    rw [List.length_drop] at hi
    have := clock_rises h p (p + 1 + i) (by omega) (by omega)
    rw [rd_timer l p hp, rd_timer l (p + 1 + i) (by omega)] at this
    rw [List.getElem_drop, hq]
    simp; omega
theorem others_none {l : List S178} {id : Int} (h : ∀ i : Nat, i < l.length → (rd_T178 l (i : Int)).f0 ≠ id) : others l id = l := by
  rw [others, List.filter_eq_self]
  intro x hx
  obtain ⟨i, hi, rfl⟩ := List.getElem_of_mem hx
  have := h i hi
  rw [rd_timer l i hi] at this
  simpa using this
theorem same (a : Int) (l : List S178) (hl : l.length ≤ 1048576) (id : Int) : ∃ (b : Int) (m : List S178) (t : Bool), Ev (fun k => spec_DropTimer.f k a l id) (b, m, t) ∧ Ev (fun k => impl_DropTimer.f k a l id) (b, m, t) ∧ m.length ≤ 20 := by
  obtain ⟨t, ht⟩ := bool_of (ClockOk a l)
  cases t with
  | false => exact ⟨0, [], false, Ev.bind (clock_spec a l false ht) (ev_neg (by decide) (ev_some rfl)), Ev.bind (clock_impl a l false ht) (ev_neg (by decide) (st_impl_DropTimer_j0 (ev_pos rfl (ev_some rfl)))), by simp⟩
  | true =>
    have hok := ht.1 rfl
    have hl20 := hok.2.1
    have hs := drop_spec a l hl20 id
    by_cases hid : 0 ≤ id ∧ id ≤ 999
    · obtain ⟨p, h1, h2, h3, h4⟩ := place_ev a l hok id hid
      have hj : ∀ r, Ev (fun k => (impl_Clock_place.f k a l id).bind fun bt166 => (if bt166.2 = true then ((impl_Timer_131.f l).bind fun t168 => ((impl_Timer_130.f t168 bt166.1 (wrap64 (bt166.1 + 1))).bind fun t171 => (some (a, t171, true)))) else (some (0, ([] : List (S178)), false)))) r → Ev (fun k => impl_DropTimer.f k a l id) r := fun r hr =>
        Ev.bind (clock_impl a l true ht) (ev_pos rfl (ev_bindc ((in_same _ _ _).trans (in_some _ _ _)) (by rw [decide_eq_true hid]; exact st_impl_DropTimer_j0 (ev_neg (by decide) hr))))
      by_cases hp : p < l.length ∧ (rd_T178 l (p : Int)).f0 = id
      · have e := others_at hok p hp.1
        rw [hp.2] at e
        have he : (l.eraseIdx p).length = l.length - 1 := List.length_eraseIdx_of_lt hp.1
        rw [e, if_neg (by omega)] at hs
        refine ⟨a, l.eraseIdx p, true, Ev.bind (clock_spec a l true ht) (ev_pos rfl hs), hj _ (Ev.bind h4 (ev_pos (decide_eq_true hp) ?_)), by omega⟩
        have c1 : impl_Timer_131.f l = some l := if_pos (by omega)
        have c2 : impl_Timer_130.f l (p : Int) (wrap64 ((p : Int) + 1)) = some (l.eraseIdx p) := by
          rw [w64s p (by omega)]
          unfold impl_Timer_130.f
          rw [if_pos (by omega), if_pos (by omega), if_pos (by omega)]; rfl
        exact ev_bindc c1 (ev_bindc c2 (ev_some rfl))
      · have e : others l id = l := others_none fun i hi hh => by
          rcases Nat.lt_or_ge i p with h | h
          · have := h2 i h hi; omega
          · rcases Nat.lt_or_ge p i with h' | h'
            · have g := clock_rises hok p i h' hi
              have := h3 p (Nat.le_refl _) (by omega)
              omega
            · obtain rfl : i = p := by omega
              exact hp ⟨hi, hh⟩
        rw [e, if_pos rfl] at hs
        exact ⟨0, [], false, Ev.bind (clock_spec a l true ht) (ev_pos rfl hs), hj _ (Ev.bind h4 (ev_neg (by simpa using hp) (ev_some rfl))), by simp⟩
    · have e : others l id = l := others_none fun i hi hh => hid (by have := (hok.2.2 i hi).1.1; omega)
      rw [e, if_pos rfl] at hs
      refine ⟨0, [], false, Ev.bind (clock_spec a l true ht) (ev_pos rfl hs), ?_, by simp⟩
      exact Ev.bind (clock_impl a l true ht) (ev_pos rfl (ev_bindc ((in_same _ _ _).trans (in_some _ _ _)) (by rw [decide_eq_false hid]; exact st_impl_DropTimer_j0 (ev_pos rfl (ev_some rfl)))))
theorem FnExactDropTimer : ∀ (a0_0 : Int) (l0_1 : List (S254)) (a1 : Int), (In64 a0_0) → (l0_1.length * 32 ≤ 140737488351232 ∧ ∀ y ∈ l0_1, Ok254 y) → (In64 a1) → ∃ k, laws_FnExactDropTimer.f k a0_0 l0_1 a1 = some true := by
  intro a xs id ga gl _
  refine Ev.rounds (g := fun k => laws_FnExactDropTimer.f k a xs id) ?_
  obtain ⟨r, hr, h | ⟨h0, h1, hx⟩⟩ := szClock_some a xs ga gl 1048576 (by omega) (by omega)
  · exact Ev.bind hr (ev_pos h (ev_some rfl))
  · have tx := toClock_ev a xs hx
    have hx' : (xs.map cv254).length ≤ 1048576 := by rw [List.length_map]; exact hx
    obtain ⟨b, m, t, hs, hi, hm⟩ := same a (xs.map cv254) hx' id
    obtain ⟨y1, d1, _, p0, _, _, hm1⟩ := markTimerS_ev (xs.map cv254) hx' 1 (by omega) (by omega)
    obtain ⟨y2, d2, hch, q0, q1, ml, hm2⟩ := markTimerS_ev m (by omega) 1 (by omega) (by omega)
    have hh := heldClock_ev b (by omega) (heldTimerS_ev y2 (by omega) 1 d2 (by omega) (by omega) hch)
    have hm1 := markClock_ev a hm1
    have hm2 := markClock_ev b hm2
    have ee := eqClock_ev b m (by omega)
    have ex := eqClock_ev a (xs.map cv254) hx'
    have et : (t != t) = false := by simp
    refine Ev.bind hr (ev_neg (by omega) (Ev.bind tx (Ev.bind hs (Ev.bind tx (Ev.bind hi (Ev.bind ee (ev_pos rfl ?_)))))))
    simp only [et]
    refine st_laws_FnExactDropTimer_j0 (ev_neg (by decide) (Ev.bind tx (Ev.bind ex (ev_pos rfl (Ev.bind hm1 (ev_neg (by omega) (Ev.bind ee (ev_pos rfl ?_))))))))
    simp only [et]
    refine st_laws_FnExactDropTimer_j1 (ev_neg (by decide) (Ev.bind hm2 (Ev.bind hh (ev_neg (by omega) (ev_pos rfl (Ev.bind tx (Ev.bind hi (Ev.bind ee (ev_pos rfl ?_)))))))))
    simp only [et]
    exact st_laws_FnExactDropTimer_j2 (ev_neg (by decide) (Ev.bind hh (ev_neg (by omega) (ev_pos rfl (ev_some rfl)))))
end Go.Proofs.Ytligkajfedkldaa.Pure
