/- Texts of the row of the law FnExactNewPeer, laid together. -/
import Derived.Test.YtifejplilaefiaaZFnExactNewPeer3
import Derived.Test.YtifejplilaefiaaZFnExactNewPeer4
import Derived.Test.YtifejplilaefiaaZFnExactNewPeer0
import Derived.SizedLaws
import Derived.ChangeArms
import Derived.OpenShut
import Derived.WideShapes
import Derived.WalkKit
import Derived.KernelRfl
import Derived.Laws.BitsLemmas
namespace Go.Proofs.Ytifejplilaefiaa.PFnExactNewPeer
open Go.RowKit Go.Proofs.YtifejplilaefiaaW.PrintWords Go.Proofs.YtifejplilaefiaaW.PrintLast Go.Proofs.YtifejplilaefiaaW.PrintMore
attribute [local go_sem] max2_int min2_int max_two min_two max_three min_three max_four min_four   -- for this text's walks alone
set_option linter.unusedVariables false
set_option linter.unusedSimpArgs false
mutual
def laws_FnExactNewPeer.j0 : Nat → Int → Int → Bool → Bool → Int → Int → List (S110) → List (List Int) → List (List Bool) → List (S48) → Int → Int → List (S110) → List (List Int) → List (List Bool) → List (S48) → Option (Bool)
 | 0, _, _, _, _, _, _, _, _, _, _, _, _, _, _, _, _ => none
 | k + 1, x0, x1, x6, x33, x253000, x253001, x253002, x253003, x253004, x253005, x269000, x269001, x269002, x269003, x269004, x269005 => if x33 = true then (some false) else ((laws_markPeer.f k x269000 x269001 x269002 x269003 x269004 x269005 1).bind fun bt270 => ((laws_heldPeer.f k x269000 x269001 bt270.2.1 bt270.2.2.1 bt270.2.2.2.1 bt270.2.2.2.2 1).bind fun t275 => (if t275 < 0 then (some false) else (if t275 = bt270.1 then ((impl_NewPeer.f k x0 x1).bind fun bt276 => ((laws_eqPeer.f k bt276.1 bt276.2.1 bt276.2.2.1 bt276.2.2.2.1 bt276.2.2.2.2.1 bt276.2.2.2.2.2.1 x253000 x253001 x253002 x253003 x253004 x253005).bind fun t292 => (if t292 = true then (laws_FnExactNewPeer.j1 k bt270.1 (bt276.2.2.2.2.2.2 != x6) x269000 x269001 bt270.2.1 bt270.2.2.1 bt270.2.2.2.1 bt270.2.2.2.2) else (laws_FnExactNewPeer.j1 k bt270.1 true x269000 x269001 bt270.2.1 bt270.2.2.1 bt270.2.2.2.1 bt270.2.2.2.2)))) else (some false)))))
def laws_FnExactNewPeer.j1 : Nat → Int → Bool → Int → Int → List (S110) → List (List Int) → List (List Bool) → List (S48) → Option (Bool)
 | 0, _, _, _, _, _, _, _, _ => none
 | k + 1, x9, x59, x269000, x269001, x269002, x269003, x269004, x269005 => if x59 = true then (some false) else ((laws_heldPeer.f k x269000 x269001 x269002 x269003 x269004 x269005 1).bind fun t293 => (if t293 < 0 then (some false) else (if t293 = x9 then (some true) else (some false))))
end
def laws_FnExactNewPeer.f (k : Nat) (a0 : Int) (a1 : Int) : Option (Bool) := (spec_NewPeer.f k a0 a1).bind fun bt237 => ((impl_NewPeer.f k a0 a1).bind fun bt253 => ((laws_eqPeer.f k bt253.1 bt253.2.1 bt253.2.2.1 bt253.2.2.2.1 bt253.2.2.2.2.1 bt253.2.2.2.2.2.1 bt237.1 bt237.2.1 bt237.2.2.1 bt237.2.2.2.1 bt237.2.2.2.2.1 bt237.2.2.2.2.2.1).bind fun t269 => (if t269 = true then (laws_FnExactNewPeer.j0 k a0 a1 bt237.2.2.2.2.2.2 (bt253.2.2.2.2.2.2 != bt237.2.2.2.2.2.2) bt237.1 bt237.2.1 bt237.2.2.1 bt237.2.2.2.1 bt237.2.2.2.2.1 bt237.2.2.2.2.2.1 bt253.1 bt253.2.1 bt253.2.2.1 bt253.2.2.2.1 bt253.2.2.2.2.1 bt253.2.2.2.2.2.1) else (laws_FnExactNewPeer.j0 k a0 a1 bt237.2.2.2.2.2.2 true bt237.1 bt237.2.1 bt237.2.2.1 bt237.2.2.2.1 bt237.2.2.2.2.1 bt237.2.2.2.2.2.1 bt253.1 bt253.2.1 bt253.2.2.1 bt253.2.2.2.1 bt253.2.2.2.2.1 bt253.2.2.2.2.2.1))))
theorem laws_FnExactNewPeer.mono_l : ∀ k, (∀ y0 y1 y2 y3 y4 y5 y6 y7 y8 y9 y10 y11 y12 y13 y14 y15, LeO (laws_FnExactNewPeer.j0 k y0 y1 y2 y3 y4 y5 y6 y7 y8 y9 y10 y11 y12 y13 y14 y15) (laws_FnExactNewPeer.j0 (k + 1) y0 y1 y2 y3 y4 y5 y6 y7 y8 y9 y10 y11 y12 y13 y14 y15)) ∧ (∀ y0 y1 y2 y3 y4 y5 y6 y7, LeO (laws_FnExactNewPeer.j1 k y0 y1 y2 y3 y4 y5 y6 y7) (laws_FnExactNewPeer.j1 (k + 1) y0 y1 y2 y3 y4 y5 y6 y7))
 | 0 => ⟨fun _ _ _ _ _ _ _ _ _ _ _ _ _ _ _ _ r h => by simp [laws_FnExactNewPeer.j0] at h, fun _ _ _ _ _ _ _ _ r h => by simp [laws_FnExactNewPeer.j1] at h⟩
 | k + 1 => by
  obtain ⟨ih0, ih1⟩ := laws_FnExactNewPeer.mono_l k
  refine ⟨?_, ?_⟩
  ·intro y0 y1 y2 y3 y4 y5 y6 y7 y8 y9 y10 y11 y12 y13 y14 y15
   unfold laws_FnExactNewPeer.j0
   repeat' first
   | (with_reducible exact ih0 _ _ _ _ _ _ _ _ _ _ _ _ _ _ _ _)
   | (with_reducible exact ih1 _ _ _ _ _ _ _ _)
   | (with_reducible exact impl_NewPeer.mono _ _ _)
   | (with_reducible exact laws_eqPeer.mono _ _ _ _ _ _ _ _ _ _ _ _ _)
   | (with_reducible exact laws_heldPeer.mono _ _ _ _ _ _ _ _)
   | (with_reducible exact laws_markPeer.mono _ _ _ _ _ _ _ _)
   | (with_reducible exact spec_NewPeer.mono _ _ _)
   | (with_reducible exact LeO.refl _)
   | (with_reducible exact LeO.none _)
   | (with_reducible refine LeO.ite ?_ ?_)
   | (with_reducible refine LeO.bind ?_ (fun _ => ?_))
   | exact ih0 _ _ _ _ _ _ _ _ _ _ _ _ _ _ _ _
   | exact ih1 _ _ _ _ _ _ _ _
   | exact impl_NewPeer.mono _ _ _
   | exact laws_eqPeer.mono _ _ _ _ _ _ _ _ _ _ _ _ _
   | exact laws_heldPeer.mono _ _ _ _ _ _ _ _
   | exact laws_markPeer.mono _ _ _ _ _ _ _ _
   | exact spec_NewPeer.mono _ _ _
   | exact LeO.none _
   | refine LeO.ite ?_ ?_
   | refine LeO.bind ?_ (fun _ => ?_)
  ·intro y0 y1 y2 y3 y4 y5 y6 y7
   unfold laws_FnExactNewPeer.j1
   repeat' first
   | (with_reducible exact ih0 _ _ _ _ _ _ _ _ _ _ _ _ _ _ _ _)
   | (with_reducible exact ih1 _ _ _ _ _ _ _ _)
   | (with_reducible exact impl_NewPeer.mono _ _ _)
   | (with_reducible exact laws_eqPeer.mono _ _ _ _ _ _ _ _ _ _ _ _ _)
   | (with_reducible exact laws_heldPeer.mono _ _ _ _ _ _ _ _)
   | (with_reducible exact laws_markPeer.mono _ _ _ _ _ _ _ _)
   | (with_reducible exact spec_NewPeer.mono _ _ _)
   | (with_reducible exact LeO.refl _)
   | (with_reducible exact LeO.none _)
   | (with_reducible refine LeO.ite ?_ ?_)
   | (with_reducible refine LeO.bind ?_ (fun _ => ?_))
   | exact ih0 _ _ _ _ _ _ _ _ _ _ _ _ _ _ _ _
   | exact ih1 _ _ _ _ _ _ _ _
   | exact impl_NewPeer.mono _ _ _
   | exact laws_eqPeer.mono _ _ _ _ _ _ _ _ _ _ _ _ _
   | exact laws_heldPeer.mono _ _ _ _ _ _ _ _
   | exact laws_markPeer.mono _ _ _ _ _ _ _ _
   | exact spec_NewPeer.mono _ _ _
   | exact LeO.none _
   | refine LeO.ite ?_ ?_
   | refine LeO.bind ?_ (fun _ => ?_)
theorem laws_FnExactNewPeer.mono : ∀ a0 a1 k, LeO (laws_FnExactNewPeer.f k a0 a1) (laws_FnExactNewPeer.f (k + 1) a0 a1) := by
 intro a0 a1 k
 obtain ⟨ih0, ih1⟩ := laws_FnExactNewPeer.mono_l k
 unfold laws_FnExactNewPeer.f
 repeat' first
   | (with_reducible exact ih0 _ _ _ _ _ _ _ _ _ _ _ _ _ _ _ _)
   | (with_reducible exact ih1 _ _ _ _ _ _ _ _)
   | (with_reducible exact impl_NewPeer.mono _ _ _)
   | (with_reducible exact laws_eqPeer.mono _ _ _ _ _ _ _ _ _ _ _ _ _)
   | (with_reducible exact laws_heldPeer.mono _ _ _ _ _ _ _ _)
   | (with_reducible exact laws_markPeer.mono _ _ _ _ _ _ _ _)
   | (with_reducible exact spec_NewPeer.mono _ _ _)
   | (with_reducible exact LeO.refl _)
   | (with_reducible exact LeO.none _)
   | (with_reducible refine LeO.ite ?_ ?_)
   | (with_reducible refine LeO.bind ?_ (fun _ => ?_))
   | exact ih0 _ _ _ _ _ _ _ _ _ _ _ _ _ _ _ _
   | exact ih1 _ _ _ _ _ _ _ _
   | exact impl_NewPeer.mono _ _ _
   | exact laws_eqPeer.mono _ _ _ _ _ _ _ _ _ _ _ _ _
   | exact laws_heldPeer.mono _ _ _ _ _ _ _ _
   | exact laws_markPeer.mono _ _ _ _ _ _ _ _
   | exact spec_NewPeer.mono _ _ _
   | exact LeO.none _
   | refine LeO.ite ?_ ?_
   | refine LeO.bind ?_ (fun _ => ?_)
set_option maxHeartbeats 8000000 in
set_option maxRecDepth 100000 in
theorem laws_FnExactNewPeer.calls (k : Nat) (a0 : Int) (a1 : Int) (r : Bool) (w : World) (h : laws_FnExactNewPeer.f k a0 a1 = some r) :
  Calls Try.prog 6 #[.int .i64 a0, .int .i64 a1] w fun e w' => e = .returned (.bool r) ∧ Below w.heap.size w w' := by
 have hu53 := Try.underlying53
 have HB := Aside0.mk (Below.refl w.heap.size w)
 have H : ((spec_NewPeer.f k a0 a1).bind fun bt237 => ((impl_NewPeer.f k a0 a1).bind fun bt253 => ((laws_eqPeer.f k bt253.1 bt253.2.1 bt253.2.2.1 bt253.2.2.2.1 bt253.2.2.2.2.1 bt253.2.2.2.2.2.1 bt237.1 bt237.2.1 bt237.2.2.1 bt237.2.2.2.1 bt237.2.2.2.2.1 bt237.2.2.2.2.2.1).bind fun t269 => (if t269 = true then (laws_FnExactNewPeer.j0 k a0 a1 bt237.2.2.2.2.2.2 (bt253.2.2.2.2.2.2 != bt237.2.2.2.2.2.2) bt237.1 bt237.2.1 bt237.2.2.1 bt237.2.2.2.1 bt237.2.2.2.2.1 bt237.2.2.2.2.2.1 bt253.1 bt253.2.1 bt253.2.2.1 bt253.2.2.2.1 bt253.2.2.2.2.1 bt253.2.2.2.2.2.1) else (laws_FnExactNewPeer.j0 k a0 a1 bt237.2.2.2.2.2.2 true bt237.1 bt237.2.1 bt237.2.2.1 bt237.2.2.2.1 bt237.2.2.2.2.1 bt237.2.2.2.2.2.1 bt253.1 bt253.2.1 bt253.2.2.1 bt253.2.2.2.1 bt253.2.2.2.2.1 bt253.2.2.2.2.2.1))))) = some r := h
 clear h
 replace H := Option.bind_eq_some_iff.mp H
 obtain ⟨⟨t237, t238, t239, t242, t245, t248, t251⟩, A30, H⟩ := H
 replace H : ((impl_NewPeer.f k a0 a1).bind fun bt253 => ((laws_eqPeer.f k bt253.1 bt253.2.1 bt253.2.2.1 bt253.2.2.2.1 bt253.2.2.2.2.1 bt253.2.2.2.2.2.1 t237 t238 t239 t242 t245 t248).bind fun t269 => (if t269 = true then (laws_FnExactNewPeer.j0 k a0 a1 t251 (bt253.2.2.2.2.2.2 != t251) t237 t238 t239 t242 t245 t248 bt253.1 bt253.2.1 bt253.2.2.1 bt253.2.2.2.1 bt253.2.2.2.2.1 bt253.2.2.2.2.2.1) else (laws_FnExactNewPeer.j0 k a0 a1 t251 true t237 t238 t239 t242 t245 t248 bt253.1 bt253.2.1 bt253.2.2.1 bt253.2.2.2.1 bt253.2.2.2.2.1 bt253.2.2.2.2.2.1)))) = some r := H
 have A3 := Aside0.mk A30
 clear A30
 replace H := Option.bind_eq_some_iff.mp H
 obtain ⟨⟨t253, t254, t255, t258, t261, t264, t267⟩, A40, H⟩ := H
 replace H : ((laws_eqPeer.f k t253 t254 t255 t258 t261 t264 t237 t238 t239 t242 t245 t248).bind fun t269 => (if t269 = true then (laws_FnExactNewPeer.j0 k a0 a1 t251 (t267 != t251) t237 t238 t239 t242 t245 t248 t253 t254 t255 t258 t261 t264) else (laws_FnExactNewPeer.j0 k a0 a1 t251 true t237 t238 t239 t242 t245 t248 t253 t254 t255 t258 t261 t264))) = some r := H
 have A4 := Aside0.mk A40
 clear A40
 have HC5 := Aside0.mk H
 clear H
 go_enter Try.func6, Try.ntmps6
 go_upto_region 3 with (first | ((with_reducible refine gate_callee (f := 23) rfl ?_); refine goesL_ (some 16) rfl rfl Try.func23 (by kernel_rfl) rfl #[.int .i64 a0, .int .i64 a1] rfl aE ?_; (with_reducible refine (spec_NewPeer.calls k a0 a1 t237 t238 t239 t242 t245 t248 t251 _ A3.out).mono ?_); rintro e w6 ⟨v240, v243, v246, v249, rfl, ho0, ho1, ho2, ho3, hb⟩; refine ⟨_, rfl, ?_⟩; have HO241 := Aside0.mk (Kd.R_lower ho0 (below_size (lU))); have HO244 := Aside0.mk (Kd.S_lower ho1 (below_size (lU))); have HO247 := Aside0.mk (Kd.S_lower ho2 (below_size (lU))); have HO250 := Aside0.mk (Kd.S_lower ho3 (below_size (lU))); replace HB := bH (lU) hb; (try clear hb); (try clear ho0); (try clear ho1); (try clear ho2); (try clear ho3); obtain ⟨A241, c241, e241_⟩ := Kd.R_slice HO241.out; subst e241_; have HR241 := Aside0.mk (Kd.R_reads' HO241.out).2.2; have HC241 := Aside0.mk (Kd.R_reads' HO241.out).2.1; obtain ⟨A244, c244, e244_⟩ := Kd.S_slice HO244.out; subst e244_; have HR244 := Aside0.mk (Kd.S_reads' HO244.out).2.2; have HC244 := Aside0.mk (Kd.S_reads' HO244.out).2.1; obtain ⟨A247, c247, e247_⟩ := Kd.S_slice HO247.out; subst e247_; have HR247 := Aside0.mk (Kd.S_reads' HO247.out).2.2; have HC247 := Aside0.mk (Kd.S_reads' HO247.out).2.1; obtain ⟨A250, c250, e250_⟩ := Kd.S_slice HO250.out; subst e250_; have HR250 := Aside0.mk (Kd.S_reads' HO250.out).2.2; have HC250 := Aside0.mk (Kd.S_reads' HO250.out).2.1; have HB00 := Aside0.mk lU; obtain ⟨w, hw_⟩ : ∃ w_ : World, w_ = w6 := ⟨_, rfl⟩; replace HR241 := Aside0.mk (show Kd.C k110 w A241 t239.length t239 from by rw [hw_]; exact HR241.out); replace HR244 := Aside0.mk (show Kd.C (Kd.slice 3 (Kd.int .i64)) w A244 t242.length t242 from by rw [hw_]; exact HR244.out); replace HR247 := Aside0.mk (show Kd.C (Kd.slice 4 Kd.bool) w A247 t245.length t245 from by rw [hw_]; exact HR247.out); replace HR250 := Aside0.mk (show Kd.C k48 w A250 t248.length t248 from by rw [hw_]; exact HR250.out); have HB := Aside0.mk (show Below w.heap.size w w6 from by rw [hw_]; exact Below.refl _ _); rw [← hw_] at HB00; clear hw_) | ((with_reducible refine gate_dst (N := 5) rfl ?_); refine box_event rfl (N := 5) rfl (cs := #[.int .i64 0, .int .i64 0, .slice none 0 0, .slice none 0 0, .slice none 0 0, .slice none 0 0]) (t := 53) sE ?_; intro gb252 hg w7 hbox hb; have BK252 := Aside0.mk hbox; have GW252 := gS w hg (lU); have GE252 := gS w hg (lU); replace HB := bH (lU) hb; clear hb hbox hg; have hcz8_0 := cz BK252 0 (.int .i64 0); have hcz8_1 := cz BK252 1 (.int .i64 0); have hcz8_2 := cz BK252 2 (.slice none 0 0); have hcz8_3 := cz BK252 3 (.slice none 0 0); have hcz8_4 := cz BK252 4 (.slice none 0 0); have hcz8_5 := cz BK252 5 (.slice none 0 0); have hfz8_0 := fz BK252 0; have hfz8_1 := fz BK252 1; have hfz8_2 := fz BK252 2; have hfz8_3 := fz BK252 3; have hfz8_4 := fz BK252 4; have hfz8_5 := fz BK252 5) | ((with_reducible refine gate_store (t := 53) (p := 5) rfl ?_); refine store_event (t := 53) (p := 5) (v := ?vo_w9) (w1 := ((((((w7.setCell ⟨gb252, 0, none⟩ (.int .i64 t237)).setCell ⟨gb252, 1, none⟩ (.int .i64 t238)).setCell ⟨gb252, 2, none⟩ (.slice A241 t239.length c241)).setCell ⟨gb252, 3, none⟩ (.slice A244 t242.length c244)).setCell ⟨gb252, 4, none⟩ (.slice A247 t245.length c247)).setCell ⟨gb252, 5, none⟩ (.slice A250 t248.length c250))) ?hg ?ho ?hn ?hr ?_; (case ho => rfl); (case hg => rfl); (case hn => rfl); (case hr => first | (go_simp; done) | (go_simp; rfl) | (have hq0_ := (blk_cell BK252.out 0).trans (show _ = some _ from rfl); have hf0_ := blk_frozen BK252.out 0; have hq1_ := (blk_cell BK252.out 1).trans (show _ = some _ from rfl); have hf1_ := blk_frozen BK252.out 1; have hq2_ := (blk_cell BK252.out 2).trans (show _ = some _ from rfl); have hf2_ := blk_frozen BK252.out 2; have hq3_ := (blk_cell BK252.out 3).trans (show _ = some _ from rfl); have hf3_ := blk_frozen BK252.out 3; have hq4_ := (blk_cell BK252.out 4).trans (show _ = some _ from rfl); have hf4_ := blk_frozen BK252.out 4; have hq5_ := (blk_cell BK252.out 5).trans (show _ = some _ from rfl); have hf5_ := blk_frozen BK252.out 5; first | (go_simp; done) | (go_simp; rfl))); intro w9 hw; replace BK252 : Aside0 (w9.heap[gb252]? = some (.cells #[.int .i64 t237, .int .i64 t238, .slice A241 t239.length c241, .slice A244 t242.length c244, .slice A247 t245.length c247, .slice A250 t248.length c250] 53 (0, 0))) := ⟨(by rw [hw]; exact (by refine bU ?_; refine blk_put (cs := #[.int .i64 t237, .int .i64 t238, .slice A241 t239.length c241, .slice A244 t242.length c244, .slice A247 t245.length c247, .slice none 0 0]) ?_ 5 _ rfl; refine bU ?_; refine blk_put (cs := #[.int .i64 t237, .int .i64 t238, .slice A241 t239.length c241, .slice A244 t242.length c244, .slice none 0 0, .slice none 0 0]) ?_ 4 _ rfl; refine bU ?_; refine blk_put (cs := #[.int .i64 t237, .int .i64 t238, .slice A241 t239.length c241, .slice none 0 0, .slice none 0 0, .slice none 0 0]) ?_ 3 _ rfl; refine bU ?_; refine blk_put (cs := #[.int .i64 t237, .int .i64 t238, .slice none 0 0, .slice none 0 0, .slice none 0 0, .slice none 0 0]) ?_ 2 _ rfl; refine bU ?_; refine blk_put (cs := #[.int .i64 t237, .int .i64 0, .slice none 0 0, .slice none 0 0, .slice none 0 0, .slice none 0 0]) ?_ 1 _ rfl; refine bU ?_; refine blk_put (cs := #[.int .i64 0, .int .i64 0, .slice none 0 0, .slice none 0 0, .slice none 0 0, .slice none 0 0]) ?_ 0 _ rfl; refine bU ?_; exact BK252.out))⟩; replace HB : Aside0 (Below w.heap.size w w9) := ⟨(by rw [hw]; exact (lV1 GE252))⟩; clear hw) | ((with_reducible refine gate_callee (f := 24) rfl ?_); refine goesL_ (some 22) rfl rfl Try.func24 (by kernel_rfl) rfl #[.int .i64 a0, .int .i64 a1] rfl aE ?_; (with_reducible refine (impl_NewPeer.calls k a0 a1 t253 t254 t255 t258 t261 t264 t267 _ A4.out).mono ?_); rintro e w10 ⟨v256, v259, v262, v265, rfl, ho0, ho1, ho2, ho3, hb⟩; refine ⟨_, rfl, ?_⟩; have HO257 := Aside0.mk (Kd.R_lower ho0 (below_size (lV1 GE252))); have HO260 := Aside0.mk (Kd.S_lower ho1 (below_size (lV1 GE252))); have HO263 := Aside0.mk (Kd.S_lower ho2 (below_size (lV1 GE252))); have HO266 := Aside0.mk (Kd.S_lower ho3 (below_size (lV1 GE252))); replace BK252 := bB (bV BK252) hb; replace HB := bH (lV1 GE252) hb; (try clear hb); (try clear ho0); (try clear ho1); (try clear ho2); (try clear ho3)) | ((with_reducible refine gate_dst (N := 7) rfl ?_); refine box_event rfl (N := 7) rfl (cs := #[.int .i64 0, .int .i64 0, .slice none 0 0, .slice none 0 0, .slice none 0 0, .slice none 0 0]) (t := 53) sE ?_; intro gb268 hg w11 hbox hb; replace HO257 := Aside0.mk (Kd.R_below (rU HO257.out) hb); replace HO260 := Aside0.mk (Kd.S_below (by (with_reducible repeat (first | apply Kd.S_alloc | apply Kd.S_drewN | apply Kd.S_drew)); exact HO260.out) hb); replace HO263 := Aside0.mk (Kd.S_below (by (with_reducible repeat (first | apply Kd.S_alloc | apply Kd.S_drewN | apply Kd.S_drew)); exact HO263.out) hb); replace HO266 := Aside0.mk (Kd.S_below (by (with_reducible repeat (first | apply Kd.S_alloc | apply Kd.S_drewN | apply Kd.S_drew)); exact HO266.out) hb); have BK268 := Aside0.mk hbox; have GW268 := gS w hg (lV1 GE252); have GE268 := gS w hg (lV1 GE252); replace HB := bH (lV1 GE252) hb; have NB252_268 := nL hg (bV BK252); have NB268_252 := nG hg (bV BK252); replace BK252 := bB (bV BK252) hb; clear hb hbox hg; have hnb12 := NB268_252.out; have hnc12 := NB252_268.out; have hcz13_0 := cz BK268 0 (.int .i64 0); have hcz13_1 := cz BK268 1 (.int .i64 0); have hcz13_2 := cz BK268 2 (.slice none 0 0); have hcz13_3 := cz BK268 3 (.slice none 0 0); have hcz13_4 := cz BK268 4 (.slice none 0 0); have hcz13_5 := cz BK268 5 (.slice none 0 0); have hfz13_0 := fz BK268 0; have hfz13_1 := fz BK268 1; have hfz13_2 := fz BK268 2; have hfz13_3 := fz BK268 3; have hfz13_4 := fz BK268 4; have hfz13_5 := fz BK268 5; obtain ⟨Ao14, co14, eo14⟩ := Kd.R_slice HO257.out; subst eo14; obtain ⟨Ao15, co15, eo15⟩ := Kd.S_slice HO260.out; subst eo15; obtain ⟨Ao16, co16, eo16⟩ := Kd.S_slice HO263.out; subst eo16; obtain ⟨Ao17, co17, eo17⟩ := Kd.S_slice HO266.out; subst eo17) | ((with_reducible refine gate_store (t := 53) (p := 7) rfl ?_); refine store_event (t := 53) (p := 7) (v := ?vo_w18) (w1 := ((((((w11.setCell ⟨gb268, 0, none⟩ (.int .i64 t253)).setCell ⟨gb268, 1, none⟩ (.int .i64 t254)).setCell ⟨gb268, 2, none⟩ (.slice Ao14 t255.length co14)).setCell ⟨gb268, 3, none⟩ (.slice Ao15 t258.length co15)).setCell ⟨gb268, 4, none⟩ (.slice Ao16 t261.length co16)).setCell ⟨gb268, 5, none⟩ (.slice Ao17 t264.length co17))) ?hg ?ho ?hn ?hr ?_; (case ho => rfl); (case hg => rfl); (case hn => rfl); (case hr => first | (go_simp; done) | (go_simp; rfl) | (have hq0_ := (blk_cell BK268.out 0).trans (show _ = some _ from rfl); have hf0_ := blk_frozen BK268.out 0; have hq1_ := (blk_cell BK268.out 1).trans (show _ = some _ from rfl); have hf1_ := blk_frozen BK268.out 1; have hq2_ := (blk_cell BK268.out 2).trans (show _ = some _ from rfl); have hf2_ := blk_frozen BK268.out 2; have hq3_ := (blk_cell BK268.out 3).trans (show _ = some _ from rfl); have hf3_ := blk_frozen BK268.out 3; have hq4_ := (blk_cell BK268.out 4).trans (show _ = some _ from rfl); have hf4_ := blk_frozen BK268.out 4; have hq5_ := (blk_cell BK268.out 5).trans (show _ = some _ from rfl); have hf5_ := blk_frozen BK268.out 5; first | (go_simp; done) | (go_simp; rfl))); intro w18 hw; replace HO257 : Aside0 (Kd.R k110 110 w18 w.heap.size (fun _ => True) (.slice Ao14 t255.length co14) t255) := ⟨(by rw [hw]; exact (by (with_reducible repeat (first | apply Kd.R_alloc | apply Kd.R_drewN | apply Kd.R_drew)); exact Kd.R_mono (Kd.R_far (p := ⟨gb268, 5, none⟩) (Kd.R_far (p := ⟨gb268, 4, none⟩) (Kd.R_far (p := ⟨gb268, 3, none⟩) (Kd.R_far (p := ⟨gb268, 2, none⟩) (Kd.R_far (p := ⟨gb268, 1, none⟩) (Kd.R_far (p := ⟨gb268, 0, none⟩) (Kd.R_types HO257.out BK268.out (by decide)) (fun _ hk => hk.2) (.int .i64 t253)) (fun _ hk => hk.2) (.int .i64 t254)) (fun _ hk => hk.2) (.slice Ao14 t255.length co14)) (fun _ hk => hk.2) (.slice Ao15 t258.length co15)) (fun _ hk => hk.2) (.slice Ao16 t261.length co16)) (fun _ hk => hk.2) (.slice Ao17 t264.length co17)) (fun _ hk => trivial)))⟩; replace HO260 : Aside0 (Kd.S (Kd.slice 3 (Kd.int .i64)) 86 w18 w.heap.size (fun _ => True) (.slice Ao15 t258.length co15) t258) := ⟨(by rw [hw]; exact (by (with_reducible repeat (first | apply Kd.S_alloc | apply Kd.S_drewN | apply Kd.S_drew)); exact Kd.S_mono (Kd.S_far (p := ⟨gb268, 5, none⟩) (Kd.S_far (p := ⟨gb268, 4, none⟩) (Kd.S_far (p := ⟨gb268, 3, none⟩) (Kd.S_far (p := ⟨gb268, 2, none⟩) (Kd.S_far (p := ⟨gb268, 1, none⟩) (Kd.S_far (p := ⟨gb268, 0, none⟩) (Kd.S_types HO260.out BK268.out (by decide)) (fun _ hk => hk.2) (.int .i64 t253)) (fun _ hk => hk.2) (.int .i64 t254)) (fun _ hk => hk.2) (.slice Ao14 t255.length co14)) (fun _ hk => hk.2) (.slice Ao15 t258.length co15)) (fun _ hk => hk.2) (.slice Ao16 t261.length co16)) (fun _ hk => hk.2) (.slice Ao17 t264.length co17)) (fun _ hk => trivial)))⟩; replace HO263 : Aside0 (Kd.S (Kd.slice 4 Kd.bool) 87 w18 w.heap.size (fun _ => True) (.slice Ao16 t261.length co16) t261) := ⟨(by rw [hw]; exact (by (with_reducible repeat (first | apply Kd.S_alloc | apply Kd.S_drewN | apply Kd.S_drew)); exact Kd.S_mono (Kd.S_far (p := ⟨gb268, 5, none⟩) (Kd.S_far (p := ⟨gb268, 4, none⟩) (Kd.S_far (p := ⟨gb268, 3, none⟩) (Kd.S_far (p := ⟨gb268, 2, none⟩) (Kd.S_far (p := ⟨gb268, 1, none⟩) (Kd.S_far (p := ⟨gb268, 0, none⟩) (Kd.S_types HO263.out BK268.out (by decide)) (fun _ hk => hk.2) (.int .i64 t253)) (fun _ hk => hk.2) (.int .i64 t254)) (fun _ hk => hk.2) (.slice Ao14 t255.length co14)) (fun _ hk => hk.2) (.slice Ao15 t258.length co15)) (fun _ hk => hk.2) (.slice Ao16 t261.length co16)) (fun _ hk => hk.2) (.slice Ao17 t264.length co17)) (fun _ hk => trivial)))⟩; replace HO266 : Aside0 (Kd.S k48 48 w18 w.heap.size (fun k_ => some k_ ≠ (.slice Ao14 t255.length co14 : Value).ownBlock) (.slice Ao17 t264.length co17) t264) := ⟨(by rw [hw]; exact (by (with_reducible repeat (first | apply Kd.S_alloc | apply Kd.S_drewN | apply Kd.S_drew)); exact Kd.S_mono (Kd.S_far (p := ⟨gb268, 5, none⟩) (Kd.S_far (p := ⟨gb268, 4, none⟩) (Kd.S_far (p := ⟨gb268, 3, none⟩) (Kd.S_far (p := ⟨gb268, 2, none⟩) (Kd.S_far (p := ⟨gb268, 1, none⟩) (Kd.S_far (p := ⟨gb268, 0, none⟩) (Kd.S_types HO266.out BK268.out (by decide)) (fun _ hk => hk.2) (.int .i64 t253)) (fun _ hk => hk.2) (.int .i64 t254)) (fun _ hk => hk.2) (.slice Ao14 t255.length co14)) (fun _ hk => hk.2) (.slice Ao15 t258.length co15)) (fun _ hk => hk.2) (.slice Ao16 t261.length co16)) (fun _ hk => hk.2) (.slice Ao17 t264.length co17)) (fun _ hk => hk.1)))⟩; replace BK252 : Aside0 (w18.heap[gb252]? = some (.cells #[.int .i64 t237, .int .i64 t238, .slice A241 t239.length c241, .slice A244 t242.length c244, .slice A247 t245.length c247, .slice A250 t248.length c250] 53 (0, 0))) := ⟨(by rw [hw]; exact (bG NB252_268 BK252))⟩; replace BK268 : Aside0 (w18.heap[gb268]? = some (.cells #[.int .i64 t253, .int .i64 t254, .slice Ao14 t255.length co14, .slice Ao15 t258.length co15, .slice Ao16 t261.length co16, .slice Ao17 t264.length co17] 53 (0, 0))) := ⟨(by rw [hw]; exact (by refine bU ?_; refine blk_put (cs := #[.int .i64 t253, .int .i64 t254, .slice Ao14 t255.length co14, .slice Ao15 t258.length co15, .slice Ao16 t261.length co16, .slice none 0 0]) ?_ 5 _ rfl; refine bU ?_; refine blk_put (cs := #[.int .i64 t253, .int .i64 t254, .slice Ao14 t255.length co14, .slice Ao15 t258.length co15, .slice none 0 0, .slice none 0 0]) ?_ 4 _ rfl; refine bU ?_; refine blk_put (cs := #[.int .i64 t253, .int .i64 t254, .slice Ao14 t255.length co14, .slice none 0 0, .slice none 0 0, .slice none 0 0]) ?_ 3 _ rfl; refine bU ?_; refine blk_put (cs := #[.int .i64 t253, .int .i64 t254, .slice none 0 0, .slice none 0 0, .slice none 0 0, .slice none 0 0]) ?_ 2 _ rfl; refine bU ?_; refine blk_put (cs := #[.int .i64 t253, .int .i64 0, .slice none 0 0, .slice none 0 0, .slice none 0 0, .slice none 0 0]) ?_ 1 _ rfl; refine bU ?_; refine blk_put (cs := #[.int .i64 0, .int .i64 0, .slice none 0 0, .slice none 0 0, .slice none 0 0, .slice none 0 0]) ?_ 0 _ rfl; refine bU ?_; exact BK268.out))⟩; replace HB : Aside0 (Below w.heap.size w w18) := ⟨(by rw [hw]; exact (lV2 GE252 GE268))⟩; clear hw))
 (try simp only [Act.put, List.setIfInBounds_toArray, List.set_cons_zero, List.set_cons_succ])
 go_cut [33] (fun v33 wc => ∃ (kq : Nat) (x33_4 : Bool), v33 = .bool x33_4 ∧ Aside0 (laws_FnExactNewPeer.j0 kq a0 a1 t251 x33_4 t237 t238 t239 t242 t245 t248 t253 t254 t255 t258 t261 t264 = some r) ∧ Aside0 (kq ≤ k) ∧ Aside0 (Kd.R k110 110 wc w.heap.size (fun _ => True) (.slice Ao14 t255.length co14) t255) ∧ Aside0 (Kd.S (Kd.slice 3 (Kd.int .i64)) 86 wc w.heap.size (fun _ => True) (.slice Ao15 t258.length co15) t258) ∧ Aside0 (Kd.S (Kd.slice 4 Kd.bool) 87 wc w.heap.size (fun _ => True) (.slice Ao16 t261.length co16) t261) ∧ Aside0 (Kd.S k48 48 wc w.heap.size (fun k_ => some k_ ≠ ((.slice Ao14 t255.length co14) : Value).ownBlock) (.slice Ao17 t264.length co17) t264) ∧ Aside0 (wc.heap[gb252]? = some (.cells #[.int .i64 t237, .int .i64 t238, (.slice A241 t239.length c241), (.slice A244 t242.length c244), (.slice A247 t245.length c247), (.slice A250 t248.length c250)] 53 (0, 0))) ∧ Aside0 (wc.heap[gb268]? = some (.cells #[.int .i64 t253, .int .i64 t254, (.slice Ao14 t255.length co14), (.slice Ao15 t258.length co15), (.slice Ao16 t261.length co16), (.slice Ao17 t264.length co17)] 53 (0, 0))) ∧ Aside0 (Below w.heap.size w wc))
 case first =>
  have H := HC5.out
  clear HC5
  replace H := Option.bind_eq_some_iff.mp H
  obtain ⟨t269, A190, H⟩ := H
  replace H : (if t269 = true then (laws_FnExactNewPeer.j0 k a0 a1 t251 (t267 != t251) t237 t238 t239 t242 t245 t248 t253 t254 t255 t258 t261 t264) else (laws_FnExactNewPeer.j0 k a0 a1 t251 true t237 t238 t239 t242 t245 t248 t253 t254 t255 t258 t261 t264)) = some r := H
  have A19 := Aside0.mk A190
  clear A190
  by_cases c20 : t269 = true
  ·subst c20
   have H1 : (laws_FnExactNewPeer.j0 k a0 a1 t251 (t267 != t251) t237 t238 t239 t242 t245 t248 t253 t254 t255 t258 t261 t264) = some r := by rw [if_pos rfl] at H; exact H
   clear H
   have H := H1
   clear H1
   have H' := Aside0.mk H
   clear H
   have hnb21 := NB268_252.out
   have hnc21 := NB252_268.out
   have hcz22_0 := cz BK268 0 (.int .i64 t253)
   have hcz22_1 := cz BK268 1 (.int .i64 t254)
   have hcz22_2 := cz BK268 2 (.slice Ao14 t255.length co14)
   have hcz22_3 := cz BK268 3 (.slice Ao15 t258.length co15)
   have hcz22_4 := cz BK268 4 (.slice Ao16 t261.length co16)
   have hcz22_5 := cz BK268 5 (.slice Ao17 t264.length co17)
   have hfz22_0 := fz BK268 0
   have hfz22_1 := fz BK268 1
   have hfz22_2 := fz BK268 2
   have hfz22_3 := fz BK268 3
   have hfz22_4 := fz BK268 4
   have hfz22_5 := fz BK268 5
   have hcz23_0 := cz BK252 0 (.int .i64 t237)
   have hcz23_1 := cz BK252 1 (.int .i64 t238)
   have hcz23_2 := cz BK252 2 (.slice A241 t239.length c241)
   have hcz23_3 := cz BK252 3 (.slice A244 t242.length c244)
   have hcz23_4 := cz BK252 4 (.slice A247 t245.length c247)
   have hcz23_5 := cz BK252 5 (.slice A250 t248.length c250)
   have hfz23_0 := fz BK252 0
   have hfz23_1 := fz BK252 1
   have hfz23_2 := fz BK252 2
   have hfz23_3 := fz BK252 3
   have hfz23_4 := fz BK252 4
   have hfz23_5 := fz BK252 5
   go_wp2_with (first | ((with_reducible refine gate_callee (f := 25) rfl ?_); refine goesL_ (some 27) rfl rfl Try.func25 (by kernel_rfl) rfl #[.agg #[.int .i64 t253, .int .i64 t254, .slice Ao14 t255.length co14, .slice Ao15 t258.length co15, .slice Ao16 t261.length co16, .slice Ao17 t264.length co17], .agg #[.int .i64 t237, .int .i64 t238, .slice A241 t239.length c241, .slice A244 t242.length c244, .slice A247 t245.length c247, .slice A250 t248.length c250]] rfl aE ?_; (with_reducible refine (laws_eqPeer.calls k t253 t254 _ _ t255 _ _ t258 _ _ t261 _ _ t264 t237 t238 _ _ t239 _ _ t242 _ _ t245 _ _ t248 true _ ?side1 ?side2 ?side3 ?side4 ?side5 ?side6 ?side7 ?side8 ?side9 ?side10 ?side11 ?side12 ?side13 ?side14 ?side15 ?side16 A19.out).mono ?_); (case side1 => exact cU (Kd.R_reads' HO257.out).2.2); (case side2 => exact (Kd.R_reads' HO257.out).2.1); (case side3 => exact cU (Kd.S_reads' HO260.out).2.2); (case side4 => exact (Kd.S_reads' HO260.out).2.1); (case side5 => exact cU (Kd.S_reads' HO263.out).2.2); (case side6 => exact (Kd.S_reads' HO263.out).2.1); (case side7 => exact cU (Kd.S_reads' HO266.out).2.2); (case side8 => exact (Kd.S_reads' HO266.out).2.1); (case side9 => exact cU (Kd.C_below HR241.out HB.out)); (case side10 => exact HC241.out); (case side11 => exact cU (Kd.C_below HR244.out HB.out)); (case side12 => exact HC244.out); (case side13 => exact cU (Kd.C_below HR247.out HB.out)); (case side14 => exact HC247.out); (case side15 => exact cU (Kd.C_below HR250.out HB.out)); (case side16 => exact HC250.out); rintro e w24 ⟨rfl, hb⟩; refine ⟨_, rfl, ?_⟩; replace HO257 := Aside0.mk (Kd.R_below (rU HO257.out) hb); replace HO260 := Aside0.mk (Kd.S_below (by (with_reducible repeat (first | apply Kd.S_alloc | apply Kd.S_drewN | apply Kd.S_drew)); exact HO260.out) hb); replace HO263 := Aside0.mk (Kd.S_below (by (with_reducible repeat (first | apply Kd.S_alloc | apply Kd.S_drewN | apply Kd.S_drew)); exact HO263.out) hb); replace HO266 := Aside0.mk (Kd.S_below (by (with_reducible repeat (first | apply Kd.S_alloc | apply Kd.S_drewN | apply Kd.S_drew)); exact HO266.out) hb); replace BK252 := bB (bV BK252) hb; replace BK268 := bB (bV BK268) hb; replace HB := bH (lV2 GE252 GE268) hb; (try clear hb)))
   go_meet
   case rel => exact ⟨_, ((t267 != t251)), tE, H', ⟨by first | omega | exact Nat.le_refl _⟩, ⟨by (with_reducible repeat (first | apply Kd.R_alloc | apply Kd.R_drewN | apply Kd.R_drew)); exact HO257.out⟩, ⟨by (with_reducible repeat (first | apply Kd.S_alloc | apply Kd.S_drewN | apply Kd.S_drew)); exact HO260.out⟩, ⟨by (with_reducible repeat (first | apply Kd.S_alloc | apply Kd.S_drewN | apply Kd.S_drew)); exact HO263.out⟩, ⟨by (with_reducible repeat (first | apply Kd.S_alloc | apply Kd.S_drewN | apply Kd.S_drew)); exact HO266.out⟩, ⟨by refine bU ?_; exact BK252.out⟩, ⟨by refine bU ?_; exact BK268.out⟩, ⟨by repeat (first | (with_reducible first | exact HB.out | apply below_alloc | apply pw_below_drewN | apply below_drew1 | refine below_set ?_ GE252.out | refine below_set ?_ GE268.out) | exact HB.out)⟩⟩
  ·replace c20 := Bool.eq_false_iff.mpr c20
   subst c20
   have H1 : (laws_FnExactNewPeer.j0 k a0 a1 t251 true t237 t238 t239 t242 t245 t248 t253 t254 t255 t258 t261 t264) = some r := by rw [if_neg (show ¬ (false = true) by decide)] at H; exact H
   clear H
   have H := H1
   clear H1
   have H' := Aside0.mk H
   clear H
   have hnb25 := NB268_252.out
   have hnc25 := NB252_268.out
   have hcz26_0 := cz BK268 0 (.int .i64 t253)
   have hcz26_1 := cz BK268 1 (.int .i64 t254)
   have hcz26_2 := cz BK268 2 (.slice Ao14 t255.length co14)
   have hcz26_3 := cz BK268 3 (.slice Ao15 t258.length co15)
   have hcz26_4 := cz BK268 4 (.slice Ao16 t261.length co16)
   have hcz26_5 := cz BK268 5 (.slice Ao17 t264.length co17)
   have hfz26_0 := fz BK268 0
   have hfz26_1 := fz BK268 1
   have hfz26_2 := fz BK268 2
   have hfz26_3 := fz BK268 3
   have hfz26_4 := fz BK268 4
   have hfz26_5 := fz BK268 5
   have hcz27_0 := cz BK252 0 (.int .i64 t237)
   have hcz27_1 := cz BK252 1 (.int .i64 t238)
   have hcz27_2 := cz BK252 2 (.slice A241 t239.length c241)
   have hcz27_3 := cz BK252 3 (.slice A244 t242.length c244)
   have hcz27_4 := cz BK252 4 (.slice A247 t245.length c247)
   have hcz27_5 := cz BK252 5 (.slice A250 t248.length c250)
   have hfz27_0 := fz BK252 0
   have hfz27_1 := fz BK252 1
   have hfz27_2 := fz BK252 2
   have hfz27_3 := fz BK252 3
   have hfz27_4 := fz BK252 4
   have hfz27_5 := fz BK252 5
   go_wp2_with (first | ((with_reducible refine gate_callee (f := 25) rfl ?_); refine goesL_ (some 27) rfl rfl Try.func25 (by kernel_rfl) rfl #[.agg #[.int .i64 t253, .int .i64 t254, .slice Ao14 t255.length co14, .slice Ao15 t258.length co15, .slice Ao16 t261.length co16, .slice Ao17 t264.length co17], .agg #[.int .i64 t237, .int .i64 t238, .slice A241 t239.length c241, .slice A244 t242.length c244, .slice A247 t245.length c247, .slice A250 t248.length c250]] rfl aE ?_; (with_reducible refine (laws_eqPeer.calls k t253 t254 _ _ t255 _ _ t258 _ _ t261 _ _ t264 t237 t238 _ _ t239 _ _ t242 _ _ t245 _ _ t248 false _ ?side1 ?side2 ?side3 ?side4 ?side5 ?side6 ?side7 ?side8 ?side9 ?side10 ?side11 ?side12 ?side13 ?side14 ?side15 ?side16 A19.out).mono ?_); (case side1 => exact cU (Kd.R_reads' HO257.out).2.2); (case side2 => exact (Kd.R_reads' HO257.out).2.1); (case side3 => exact cU (Kd.S_reads' HO260.out).2.2); (case side4 => exact (Kd.S_reads' HO260.out).2.1); (case side5 => exact cU (Kd.S_reads' HO263.out).2.2); (case side6 => exact (Kd.S_reads' HO263.out).2.1); (case side7 => exact cU (Kd.S_reads' HO266.out).2.2); (case side8 => exact (Kd.S_reads' HO266.out).2.1); (case side9 => exact cU (Kd.C_below HR241.out HB.out)); (case side10 => exact HC241.out); (case side11 => exact cU (Kd.C_below HR244.out HB.out)); (case side12 => exact HC244.out); (case side13 => exact cU (Kd.C_below HR247.out HB.out)); (case side14 => exact HC247.out); (case side15 => exact cU (Kd.C_below HR250.out HB.out)); (case side16 => exact HC250.out); rintro e w28 ⟨rfl, hb⟩; refine ⟨_, rfl, ?_⟩; replace HO257 := Aside0.mk (Kd.R_below (rU HO257.out) hb); replace HO260 := Aside0.mk (Kd.S_below (by (with_reducible repeat (first | apply Kd.S_alloc | apply Kd.S_drewN | apply Kd.S_drew)); exact HO260.out) hb); replace HO263 := Aside0.mk (Kd.S_below (by (with_reducible repeat (first | apply Kd.S_alloc | apply Kd.S_drewN | apply Kd.S_drew)); exact HO263.out) hb); replace HO266 := Aside0.mk (Kd.S_below (by (with_reducible repeat (first | apply Kd.S_alloc | apply Kd.S_drewN | apply Kd.S_drew)); exact HO266.out) hb); replace BK252 := bB (bV BK252) hb; replace BK268 := bB (bV BK268) hb; replace HB := bH (lV2 GE252 GE268) hb; (try clear hb)))
   go_meet
   case rel => exact ⟨_, (true), tE, H', ⟨by first | omega | exact Nat.le_refl _⟩, ⟨by (with_reducible repeat (first | apply Kd.R_alloc | apply Kd.R_drewN | apply Kd.R_drew)); exact HO257.out⟩, ⟨by (with_reducible repeat (first | apply Kd.S_alloc | apply Kd.S_drewN | apply Kd.S_drew)); exact HO260.out⟩, ⟨by (with_reducible repeat (first | apply Kd.S_alloc | apply Kd.S_drewN | apply Kd.S_drew)); exact HO263.out⟩, ⟨by (with_reducible repeat (first | apply Kd.S_alloc | apply Kd.S_drewN | apply Kd.S_drew)); exact HO266.out⟩, ⟨by refine bU ?_; exact BK252.out⟩, ⟨by refine bU ?_; exact BK268.out⟩, ⟨by repeat (first | (with_reducible first | exact HB.out | apply below_alloc | apply pw_below_drewN | apply below_drew1 | refine below_set ?_ GE252.out | refine below_set ?_ GE268.out) | exact HB.out)⟩⟩
 case rest =>
  clear HC5
  try clear c1
  try clear q1
  try clear c2
  try clear p2
  try clear q2
  try clear hf2
  try clear q3
  try clear hf3
  try clear q4
  try clear hf4
  try clear q5
  try clear hf5
  try clear c6
  try clear c12
  try clear c20
  try clear c21
  try clear c23
  try clear c24
  try clear c25
  try clear hcz13_0
  try clear hcz13_1
  try clear hcz13_2
  try clear hcz13_3
  try clear hcz13_4
  try clear hcz13_5
  try clear hcz22_0
  try clear hcz22_1
  try clear hcz22_2
  try clear hcz22_3
  try clear hcz22_4
  try clear hcz22_5
  try clear hcz23_0
  try clear hcz23_1
  try clear hcz23_2
  try clear hcz23_3
  try clear hcz23_4
  try clear hcz23_5
  try clear hcz26_0
  try clear hcz26_1
  try clear hcz26_2
  try clear hcz26_3
  try clear hcz26_4
  try clear hcz26_5
  try clear hcz27_0
  try clear hcz27_1
  try clear hcz27_2
  try clear hcz27_3
  try clear hcz27_4
  try clear hcz27_5
  try clear hcz8_0
  try clear hcz8_1
  try clear hcz8_2
  try clear hcz8_3
  try clear hcz8_4
  try clear hcz8_5
  try clear hfz13_0
  try clear hfz13_1
  try clear hfz13_2
  try clear hfz13_3
  try clear hfz13_4
  try clear hfz13_5
  try clear hfz22_0
  try clear hfz22_1
  try clear hfz22_2
  try clear hfz22_3
  try clear hfz22_4
  try clear hfz22_5
  try clear hfz23_0
  try clear hfz23_1
  try clear hfz23_2
  try clear hfz23_3
  try clear hfz23_4
  try clear hfz23_5
  try clear hfz26_0
  try clear hfz26_1
  try clear hfz26_2
  try clear hfz26_3
  try clear hfz26_4
  try clear hfz26_5
  try clear hfz27_0
  try clear hfz27_1
  try clear hfz27_2
  try clear hfz27_3
  try clear hfz27_4
  try clear hfz27_5
  try clear hfz8_0
  try clear hfz8_1
  try clear hfz8_2
  try clear hfz8_3
  try clear hfz8_4
  try clear hfz8_5
  obtain ⟨kq, x33_4, rfl, HA, HJ4, HO_269002, HO_269003, HO_269004, HO_269005, BK252, BK268, HB⟩ := hcut
  cases kq with
  | zero => exact absurd HA.out (by simp [laws_FnExactNewPeer.j0])
  | succ kj4 =>
   have H := HA.out
   clear HA
   simp only [laws_FnExactNewPeer.j0] at H
   by_cases c29 : x33_4 = true
   ·subst c29
    have H1 : (some false) = some r := by rw [if_pos rfl] at H; exact H
    clear H
    have H := H1
    clear H1
    obtain rfl := Option.some.inj H
    go_wp2
    go_ret
    exact ⟨eE, (by first | exact below_step HB00.out (lV2 GE252 GE268) | exact (lV2 GE252 GE268))⟩
   ·replace c29 := Bool.eq_false_iff.mpr c29
    subst c29
    have H1 : ((laws_markPeer.f kj4 t253 t254 t255 t258 t261 t264 1).bind fun bt270 => ((laws_heldPeer.f kj4 t253 t254 bt270.2.1 bt270.2.2.1 bt270.2.2.2.1 bt270.2.2.2.2 1).bind fun t275 => (if t275 < 0 then (some false) else (if t275 = bt270.1 then ((impl_NewPeer.f kj4 a0 a1).bind fun bt276 => ((laws_eqPeer.f kj4 bt276.1 bt276.2.1 bt276.2.2.1 bt276.2.2.2.1 bt276.2.2.2.2.1 bt276.2.2.2.2.2.1 t237 t238 t239 t242 t245 t248).bind fun t292 => (if t292 = true then (laws_FnExactNewPeer.j1 kj4 bt270.1 (bt276.2.2.2.2.2.2 != t251) t253 t254 bt270.2.1 bt270.2.2.1 bt270.2.2.2.1 bt270.2.2.2.2) else (laws_FnExactNewPeer.j1 kj4 bt270.1 true t253 t254 bt270.2.1 bt270.2.2.1 bt270.2.2.2.1 bt270.2.2.2.2)))) else (some false))))) = some r := by rw [if_neg (show ¬ (false = true) by decide)] at H; exact H
    clear H
    have H := H1
    clear H1
    replace H := Option.bind_eq_some_iff.mp H
    obtain ⟨⟨t270, t271, t272, t273, t274⟩, A300, H⟩ := H
    replace H : ((laws_heldPeer.f kj4 t253 t254 t271 t272 t273 t274 1).bind fun t275 => (if t275 < 0 then (some false) else (if t275 = t270 then ((impl_NewPeer.f kj4 a0 a1).bind fun bt276 => ((laws_eqPeer.f kj4 bt276.1 bt276.2.1 bt276.2.2.1 bt276.2.2.2.1 bt276.2.2.2.2.1 bt276.2.2.2.2.2.1 t237 t238 t239 t242 t245 t248).bind fun t292 => (if t292 = true then (laws_FnExactNewPeer.j1 kj4 t270 (bt276.2.2.2.2.2.2 != t251) t253 t254 t271 t272 t273 t274) else (laws_FnExactNewPeer.j1 kj4 t270 true t253 t254 t271 t272 t273 t274)))) else (some false)))) = some r := H
    have A30 := Aside0.mk A300
    clear A300
    replace H := Option.bind_eq_some_iff.mp H
    obtain ⟨t275, A310, H⟩ := H
    replace H : (if t275 < 0 then (some false) else (if t275 = t270 then ((impl_NewPeer.f kj4 a0 a1).bind fun bt276 => ((laws_eqPeer.f kj4 bt276.1 bt276.2.1 bt276.2.2.1 bt276.2.2.2.1 bt276.2.2.2.2.1 bt276.2.2.2.2.2.1 t237 t238 t239 t242 t245 t248).bind fun t292 => (if t292 = true then (laws_FnExactNewPeer.j1 kj4 t270 (bt276.2.2.2.2.2.2 != t251) t253 t254 t271 t272 t273 t274) else (laws_FnExactNewPeer.j1 kj4 t270 true t253 t254 t271 t272 t273 t274)))) else (some false))) = some r := H
    have A31 := Aside0.mk A310
    clear A310
    by_cases c32 : t275 < 0
    ·rw [if_pos c32] at H
     have c32b0 : decide (t275 < 0) = true := decide_eq_true c32
     clear c32
     obtain rfl := Option.some.inj H
     have hnb33 := NB268_252.out
     have hnc33 := NB252_268.out
     have hcz34_0 := cz BK268 0 (.int .i64 t253)
     have hcz34_1 := cz BK268 1 (.int .i64 t254)
     have hcz34_2 := cz BK268 2 (.slice Ao14 t255.length co14)
     have hcz34_3 := cz BK268 3 (.slice Ao15 t258.length co15)
     have hcz34_4 := cz BK268 4 (.slice Ao16 t261.length co16)
     have hcz34_5 := cz BK268 5 (.slice Ao17 t264.length co17)
     have hfz34_0 := fz BK268 0
     have hfz34_1 := fz BK268 1
     have hfz34_2 := fz BK268 2
     have hfz34_3 := fz BK268 3
     have hfz34_4 := fz BK268 4
     have hfz34_5 := fz BK268 5
     obtain ⟨PS35, hPS35, HPS35⟩ : ∃ PS_ : Nat → Prop, (∀ k_, PS_ k_ → (True) ∧ w.heap.size ≤ k_ ∧ k_ < wc.heap.size ∧ ∃ q_, q_ ∈ 86 :: ((Kd.slice 3 (Kd.int .i64))).E ∧ ∃ cells_, wc.heap[k_]? = some (.cells cells_ q_ (0, 0))) ∧ Kd.S (Kd.slice 3 (Kd.int .i64)) 86 wc w.heap.size PS_ (.slice Ao15 t258.length co15) t258 := ⟨_, fun _ h_ => h_, Kd.S_bound HO_269003.out⟩
     obtain ⟨PS36, hPS36, HPS36⟩ : ∃ PS_ : Nat → Prop, (∀ k_, PS_ k_ → (True) ∧ w.heap.size ≤ k_ ∧ k_ < wc.heap.size ∧ ∃ q_, q_ ∈ 87 :: ((Kd.slice 4 Kd.bool)).E ∧ ∃ cells_, wc.heap[k_]? = some (.cells cells_ q_ (0, 0))) ∧ Kd.S (Kd.slice 4 Kd.bool) 87 wc w.heap.size PS_ (.slice Ao16 t261.length co16) t261 := ⟨_, fun _ h_ => h_, Kd.S_bound HO_269004.out⟩
     obtain ⟨PS37, hPS37, HPS37⟩ : ∃ PS_ : Nat → Prop, (∀ k_, PS_ k_ → (some k_ ≠ (.slice Ao14 t255.length co14 : Value).ownBlock) ∧ w.heap.size ≤ k_ ∧ k_ < wc.heap.size ∧ ∃ q_, q_ ∈ 48 :: (k48).E ∧ ∃ cells_, wc.heap[k_]? = some (.cells cells_ q_ (0, 0))) ∧ Kd.S k48 48 wc w.heap.size PS_ (.slice Ao17 t264.length co17) t264 := ⟨_, fun _ h_ => h_, Kd.S_bound HO_269005.out⟩
     go_wp2_with (first | ((with_reducible refine gate_callee (f := 26) rfl ?_); refine goesL_ (some 36) rfl rfl Try.func26 (by kernel_rfl) rfl #[.agg #[.int .i64 t253, .int .i64 t254, .slice Ao14 t255.length co14, .slice Ao15 t258.length co15, .slice Ao16 t261.length co16, .slice Ao17 t264.length co17], .int .i64 1] rfl aE ?_; (with_reducible refine (laws_markPeer.calls kj4 t253 t254 (fun k_ => some k_ = (.slice Ao14 t255.length co14 : Value).ownBlock) (.slice Ao14 t255.length co14) t255 PS35 (.slice Ao15 t258.length co15) t258 PS36 (.slice Ao16 t261.length co16) t261 PS37 (.slice Ao17 t264.length co17) t264 1 t270 t271 t272 t273 t274 w _ ?side1 ?side2 ?side3 ?side4 ?side5 ?side6 ?side7 A30.out).mono ?_); (case side1 => repeat (first | (with_reducible first | exact HB.out | apply below_alloc | apply pw_below_drewN | apply below_drew1 | refine below_set ?_ GE252.out | refine below_set ?_ GE268.out) | exact HB.out)); (case side2 => exact Kd.R_tight rfl HO_269002.out); (case side3 => exact fun k_ e_ h_ => ((hPS37 k_ h_).1) e_); (case side4 => exact HPS35); (case side5 => exact HPS36); (case side6 => exact HPS37); (case side7 => exact fun k_ h_ e_ => ((hPS37 k_ h_).1) e_); rintro e w38 ⟨rfl, hy0, hy1, hy2, hy3, hb, hkp⟩; refine ⟨_, rfl, ?_⟩; replace HO_269003 := Aside0.mk (Kd.S_mono (ok' := fun k_ => True) hy1 (fun _ _ => trivial)); replace HO_269004 := Aside0.mk (Kd.S_mono (ok' := fun k_ => True) hy2 (fun _ _ => trivial)); replace HO_269005 := Aside0.mk (Kd.S_mono (ok' := fun k_ => True) hy3 (fun _ _ => trivial)); replace BK252 := Aside0.mk (blk_kept (bV BK252) hkp (fun hs_ => Or.elim hs_ (fun e_ => (fun e_ => (Kd.R_ne HO_269002.out BK252.out (by decide)) e_) e_) (fun e_ => Or.elim e_ (fun e_ => (fun e_ => blk_notP BK252.out (fun k_ h_ => (hPS35 k_ h_).2.2.2) (by decide) e_) e_) (fun e_ => Or.elim e_ (fun e_ => (fun e_ => blk_notP BK252.out (fun k_ h_ => (hPS36 k_ h_).2.2.2) (by decide) e_) e_) (fun e_ => (fun e_ => blk_notP BK252.out (fun k_ h_ => (hPS37 k_ h_).2.2.2) (by decide) e_) e_))))); replace BK268 := Aside0.mk (blk_kept (bV BK268) hkp (fun hs_ => Or.elim hs_ (fun e_ => (fun e_ => (Kd.R_ne HO_269002.out BK268.out (by decide)) e_) e_) (fun e_ => Or.elim e_ (fun e_ => (fun e_ => blk_notP BK268.out (fun k_ h_ => (hPS35 k_ h_).2.2.2) (by decide) e_) e_) (fun e_ => Or.elim e_ (fun e_ => (fun e_ => blk_notP BK268.out (fun k_ h_ => (hPS36 k_ h_).2.2.2) (by decide) e_) e_) (fun e_ => (fun e_ => blk_notP BK268.out (fun k_ h_ => (hPS37 k_ h_).2.2.2) (by decide) e_) e_))))); replace HO_269002 := Aside0.mk (Kd.R_reok rfl hy0 (fun k_ e_ => HO_269002.out.1 k_ e_)); replace HB := Aside0.mk hb; (try clear hb); (try clear hkp); (try clear hg_); (try clear hp_); (try clear hy0); (try clear hy1); (try clear hy2); (try clear hy3); have hcz39_0 := cz BK268 0 (.int .i64 t253); have hcz39_1 := cz BK268 1 (.int .i64 t254); have hcz39_2 := cz BK268 2 (.slice Ao14 t255.length co14); have hcz39_3 := cz BK268 3 (.slice Ao15 t258.length co15); have hcz39_4 := cz BK268 4 (.slice Ao16 t261.length co16); have hcz39_5 := cz BK268 5 (.slice Ao17 t264.length co17); have hfz39_0 := fz BK268 0; have hfz39_1 := fz BK268 1; have hfz39_2 := fz BK268 2; have hfz39_3 := fz BK268 3; have hfz39_4 := fz BK268 4; have hfz39_5 := fz BK268 5) | ((with_reducible refine gate_callee (f := 27) rfl ?_); refine goesL_ (some 39) rfl rfl Try.func27 (by kernel_rfl) rfl #[.agg #[.int .i64 t253, .int .i64 t254, .slice Ao14 t271.length co14, .slice Ao15 t272.length co15, .slice Ao16 t273.length co16, .slice Ao17 t274.length co17], .int .i64 1] rfl (by (try simp only [List.map_toArray, List.map_cons, List.map_nil]); first | done | (rw [show t271.length = t255.length from (Kd.R_reads' HO_269002.out).1.symm, show t272.length = t258.length from (Kd.S_reads' HO_269003.out).1.symm, show t273.length = t261.length from (Kd.S_reads' HO_269004.out).1.symm, show t274.length = t264.length from (Kd.S_reads' HO_269005.out).1.symm] <;> rfl) | rfl | (simp only [List.length_drop, List.length_take]; rfl)) ?_; (with_reducible refine (laws_heldPeer.calls kj4 t253 t254 _ _ t271 _ _ t272 _ _ t273 _ _ t274 1 t275 _ ?side1 ?side2 ?side3 ?side4 ?side5 ?side6 ?side7 ?side8 A31.out).mono ?_); (case side1 => exact cU (Kd.R_reads' HO_269002.out).2.2); (case side2 => rw [show t271.length = t255.length from (Kd.R_reads' HO_269002.out).1.symm]; exact (Kd.R_reads' HO_269002.out).2.1); (case side3 => exact cU (Kd.S_reads' HO_269003.out).2.2); (case side4 => rw [show t272.length = t258.length from (Kd.S_reads' HO_269003.out).1.symm]; exact (Kd.S_reads' HO_269003.out).2.1); (case side5 => exact cU (Kd.S_reads' HO_269004.out).2.2); (case side6 => rw [show t273.length = t261.length from (Kd.S_reads' HO_269004.out).1.symm]; exact (Kd.S_reads' HO_269004.out).2.1); (case side7 => exact cU (Kd.S_reads' HO_269005.out).2.2); (case side8 => rw [show t274.length = t264.length from (Kd.S_reads' HO_269005.out).1.symm]; exact (Kd.S_reads' HO_269005.out).2.1); rintro e w40 ⟨rfl, hb⟩; refine ⟨_, rfl, ?_⟩; replace HO_269002 := Aside0.mk (Kd.R_below (rU HO_269002.out) hb); replace HO_269003 := Aside0.mk (Kd.S_below (by (with_reducible repeat (first | apply Kd.S_alloc | apply Kd.S_drewN | apply Kd.S_drew)); exact HO_269003.out) hb); replace HO_269004 := Aside0.mk (Kd.S_below (by (with_reducible repeat (first | apply Kd.S_alloc | apply Kd.S_drewN | apply Kd.S_drew)); exact HO_269004.out) hb); replace HO_269005 := Aside0.mk (Kd.S_below (by (with_reducible repeat (first | apply Kd.S_alloc | apply Kd.S_drewN | apply Kd.S_drew)); exact HO_269005.out) hb); replace BK252 := bB (bV BK252) hb; replace BK268 := bB (bV BK268) hb; replace HB := bH (lV2 GE252 GE268) hb; (try clear hb)))
     go_ret
     exact ⟨eE, (by first | exact below_step HB00.out (lV2 GE252 GE268) | exact (lV2 GE252 GE268))⟩
    ·rw [if_neg c32] at H
     have c32b0 : decide (t275 < 0) = false := decide_eq_false c32
     clear c32
     by_cases c41 : t275 = t270
     ·rw [if_pos c41] at H
      have c41b0 : (t275 == t270) = true := beq_iff_eq.mpr c41
      have c41b1 : (t275 != t270) = false := bne_eq_false_iff_eq.mpr c41
      clear c41
      replace H := Option.bind_eq_some_iff.mp H
      obtain ⟨⟨t276, t277, t278, t281, t284, t287, t290⟩, A420, H⟩ := H
      replace H : ((laws_eqPeer.f kj4 t276 t277 t278 t281 t284 t287 t237 t238 t239 t242 t245 t248).bind fun t292 => (if t292 = true then (laws_FnExactNewPeer.j1 kj4 t270 (t290 != t251) t253 t254 t271 t272 t273 t274) else (laws_FnExactNewPeer.j1 kj4 t270 true t253 t254 t271 t272 t273 t274))) = some r := H
      have A42 := Aside0.mk A420
      clear A420
      have HC43 := Aside0.mk H
      clear H
      have hnb44 := NB268_252.out
      have hnc44 := NB252_268.out
      have hcz45_0 := cz BK268 0 (.int .i64 t253)
      have hcz45_1 := cz BK268 1 (.int .i64 t254)
      have hcz45_2 := cz BK268 2 (.slice Ao14 t255.length co14)
      have hcz45_3 := cz BK268 3 (.slice Ao15 t258.length co15)
      have hcz45_4 := cz BK268 4 (.slice Ao16 t261.length co16)
      have hcz45_5 := cz BK268 5 (.slice Ao17 t264.length co17)
      have hfz45_0 := fz BK268 0
      have hfz45_1 := fz BK268 1
      have hfz45_2 := fz BK268 2
      have hfz45_3 := fz BK268 3
      have hfz45_4 := fz BK268 4
      have hfz45_5 := fz BK268 5
      obtain ⟨PS46, hPS46, HPS46⟩ : ∃ PS_ : Nat → Prop, (∀ k_, PS_ k_ → (True) ∧ w.heap.size ≤ k_ ∧ k_ < wc.heap.size ∧ ∃ q_, q_ ∈ 86 :: ((Kd.slice 3 (Kd.int .i64))).E ∧ ∃ cells_, wc.heap[k_]? = some (.cells cells_ q_ (0, 0))) ∧ Kd.S (Kd.slice 3 (Kd.int .i64)) 86 wc w.heap.size PS_ (.slice Ao15 t258.length co15) t258 := ⟨_, fun _ h_ => h_, Kd.S_bound HO_269003.out⟩
      obtain ⟨PS47, hPS47, HPS47⟩ : ∃ PS_ : Nat → Prop, (∀ k_, PS_ k_ → (True) ∧ w.heap.size ≤ k_ ∧ k_ < wc.heap.size ∧ ∃ q_, q_ ∈ 87 :: ((Kd.slice 4 Kd.bool)).E ∧ ∃ cells_, wc.heap[k_]? = some (.cells cells_ q_ (0, 0))) ∧ Kd.S (Kd.slice 4 Kd.bool) 87 wc w.heap.size PS_ (.slice Ao16 t261.length co16) t261 := ⟨_, fun _ h_ => h_, Kd.S_bound HO_269004.out⟩
      obtain ⟨PS48, hPS48, HPS48⟩ : ∃ PS_ : Nat → Prop, (∀ k_, PS_ k_ → (some k_ ≠ (.slice Ao14 t255.length co14 : Value).ownBlock) ∧ w.heap.size ≤ k_ ∧ k_ < wc.heap.size ∧ ∃ q_, q_ ∈ 48 :: (k48).E ∧ ∃ cells_, wc.heap[k_]? = some (.cells cells_ q_ (0, 0))) ∧ Kd.S k48 48 wc w.heap.size PS_ (.slice Ao17 t264.length co17) t264 := ⟨_, fun _ h_ => h_, Kd.S_bound HO_269005.out⟩
      go_upto_region 14 with (first | ((with_reducible refine gate_callee (f := 26) rfl ?_); refine goesL_ (some 36) rfl rfl Try.func26 (by kernel_rfl) rfl #[.agg #[.int .i64 t253, .int .i64 t254, .slice Ao14 t255.length co14, .slice Ao15 t258.length co15, .slice Ao16 t261.length co16, .slice Ao17 t264.length co17], .int .i64 1] rfl aE ?_; (with_reducible refine (laws_markPeer.calls kj4 t253 t254 (fun k_ => some k_ = (.slice Ao14 t255.length co14 : Value).ownBlock) (.slice Ao14 t255.length co14) t255 PS46 (.slice Ao15 t258.length co15) t258 PS47 (.slice Ao16 t261.length co16) t261 PS48 (.slice Ao17 t264.length co17) t264 1 t270 t271 t272 t273 t274 w _ ?side1 ?side2 ?side3 ?side4 ?side5 ?side6 ?side7 A30.out).mono ?_); (case side1 => repeat (first | (with_reducible first | exact HB.out | apply below_alloc | apply pw_below_drewN | apply below_drew1 | refine below_set ?_ GE252.out | refine below_set ?_ GE268.out) | exact HB.out)); (case side2 => exact Kd.R_tight rfl HO_269002.out); (case side3 => exact fun k_ e_ h_ => ((hPS48 k_ h_).1) e_); (case side4 => exact HPS46); (case side5 => exact HPS47); (case side6 => exact HPS48); (case side7 => exact fun k_ h_ e_ => ((hPS48 k_ h_).1) e_); rintro e w49 ⟨rfl, hy0, hy1, hy2, hy3, hb, hkp⟩; refine ⟨_, rfl, ?_⟩; replace HO_269003 := Aside0.mk (Kd.S_mono (ok' := fun k_ => True) hy1 (fun _ _ => trivial)); replace HO_269004 := Aside0.mk (Kd.S_mono (ok' := fun k_ => True) hy2 (fun _ _ => trivial)); replace HO_269005 := Aside0.mk (Kd.S_mono (ok' := fun k_ => True) hy3 (fun _ _ => trivial)); replace BK252 := Aside0.mk (blk_kept (bV BK252) hkp (fun hs_ => Or.elim hs_ (fun e_ => (fun e_ => (Kd.R_ne HO_269002.out BK252.out (by decide)) e_) e_) (fun e_ => Or.elim e_ (fun e_ => (fun e_ => blk_notP BK252.out (fun k_ h_ => (hPS46 k_ h_).2.2.2) (by decide) e_) e_) (fun e_ => Or.elim e_ (fun e_ => (fun e_ => blk_notP BK252.out (fun k_ h_ => (hPS47 k_ h_).2.2.2) (by decide) e_) e_) (fun e_ => (fun e_ => blk_notP BK252.out (fun k_ h_ => (hPS48 k_ h_).2.2.2) (by decide) e_) e_))))); replace BK268 := Aside0.mk (blk_kept (bV BK268) hkp (fun hs_ => Or.elim hs_ (fun e_ => (fun e_ => (Kd.R_ne HO_269002.out BK268.out (by decide)) e_) e_) (fun e_ => Or.elim e_ (fun e_ => (fun e_ => blk_notP BK268.out (fun k_ h_ => (hPS46 k_ h_).2.2.2) (by decide) e_) e_) (fun e_ => Or.elim e_ (fun e_ => (fun e_ => blk_notP BK268.out (fun k_ h_ => (hPS47 k_ h_).2.2.2) (by decide) e_) e_) (fun e_ => (fun e_ => blk_notP BK268.out (fun k_ h_ => (hPS48 k_ h_).2.2.2) (by decide) e_) e_))))); replace HO_269002 := Aside0.mk (Kd.R_reok rfl hy0 (fun k_ e_ => HO_269002.out.1 k_ e_)); replace HB := Aside0.mk hb; (try clear hb); (try clear hkp); (try clear hg_); (try clear hp_); (try clear hy0); (try clear hy1); (try clear hy2); (try clear hy3); have hcz50_0 := cz BK268 0 (.int .i64 t253); have hcz50_1 := cz BK268 1 (.int .i64 t254); have hcz50_2 := cz BK268 2 (.slice Ao14 t255.length co14); have hcz50_3 := cz BK268 3 (.slice Ao15 t258.length co15); have hcz50_4 := cz BK268 4 (.slice Ao16 t261.length co16); have hcz50_5 := cz BK268 5 (.slice Ao17 t264.length co17); have hfz50_0 := fz BK268 0; have hfz50_1 := fz BK268 1; have hfz50_2 := fz BK268 2; have hfz50_3 := fz BK268 3; have hfz50_4 := fz BK268 4; have hfz50_5 := fz BK268 5) | ((with_reducible refine gate_callee (f := 27) rfl ?_); refine goesL_ (some 39) rfl rfl Try.func27 (by kernel_rfl) rfl #[.agg #[.int .i64 t253, .int .i64 t254, .slice Ao14 t271.length co14, .slice Ao15 t272.length co15, .slice Ao16 t273.length co16, .slice Ao17 t274.length co17], .int .i64 1] rfl (by (try simp only [List.map_toArray, List.map_cons, List.map_nil]); first | done | (rw [show t271.length = t255.length from (Kd.R_reads' HO_269002.out).1.symm, show t272.length = t258.length from (Kd.S_reads' HO_269003.out).1.symm, show t273.length = t261.length from (Kd.S_reads' HO_269004.out).1.symm, show t274.length = t264.length from (Kd.S_reads' HO_269005.out).1.symm] <;> rfl) | rfl | (simp only [List.length_drop, List.length_take]; rfl)) ?_; (with_reducible refine (laws_heldPeer.calls kj4 t253 t254 _ _ t271 _ _ t272 _ _ t273 _ _ t274 1 t275 _ ?side1 ?side2 ?side3 ?side4 ?side5 ?side6 ?side7 ?side8 A31.out).mono ?_); (case side1 => exact cU (Kd.R_reads' HO_269002.out).2.2); (case side2 => rw [show t271.length = t255.length from (Kd.R_reads' HO_269002.out).1.symm]; exact (Kd.R_reads' HO_269002.out).2.1); (case side3 => exact cU (Kd.S_reads' HO_269003.out).2.2); (case side4 => rw [show t272.length = t258.length from (Kd.S_reads' HO_269003.out).1.symm]; exact (Kd.S_reads' HO_269003.out).2.1); (case side5 => exact cU (Kd.S_reads' HO_269004.out).2.2); (case side6 => rw [show t273.length = t261.length from (Kd.S_reads' HO_269004.out).1.symm]; exact (Kd.S_reads' HO_269004.out).2.1); (case side7 => exact cU (Kd.S_reads' HO_269005.out).2.2); (case side8 => rw [show t274.length = t264.length from (Kd.S_reads' HO_269005.out).1.symm]; exact (Kd.S_reads' HO_269005.out).2.1); rintro e w51 ⟨rfl, hb⟩; refine ⟨_, rfl, ?_⟩; replace HO_269002 := Aside0.mk (Kd.R_below (rU HO_269002.out) hb); replace HO_269003 := Aside0.mk (Kd.S_below (by (with_reducible repeat (first | apply Kd.S_alloc | apply Kd.S_drewN | apply Kd.S_drew)); exact HO_269003.out) hb); replace HO_269004 := Aside0.mk (Kd.S_below (by (with_reducible repeat (first | apply Kd.S_alloc | apply Kd.S_drewN | apply Kd.S_drew)); exact HO_269004.out) hb); replace HO_269005 := Aside0.mk (Kd.S_below (by (with_reducible repeat (first | apply Kd.S_alloc | apply Kd.S_drewN | apply Kd.S_drew)); exact HO_269005.out) hb); replace BK252 := bB (bV BK252) hb; replace BK268 := bB (bV BK268) hb; replace HB := bH (lV2 GE252 GE268) hb; (try clear hb)) | ((with_reducible refine gate_callee (f := 24) rfl ?_); refine goesL_ (some 48) rfl rfl Try.func24 (by kernel_rfl) rfl #[.int .i64 a0, .int .i64 a1] rfl aE ?_; (with_reducible refine (impl_NewPeer.calls kj4 a0 a1 t276 t277 t278 t281 t284 t287 t290 _ A42.out).mono ?_); rintro e w52 ⟨v279, v282, v285, v288, rfl, ho0, ho1, ho2, ho3, hb⟩; refine ⟨_, rfl, ?_⟩; have HO280 := Aside0.mk (Kd.R_lower (Kd.R_new' ho0 (Kd.R_lt (rU HO_269002.out))) (below_size (lV2 GE252 GE268))); have HO283 := Aside0.mk (Kd.S_lower (Kd.S_new' ho1 (Kd.S_lt (by (with_reducible repeat (first | apply Kd.S_alloc | apply Kd.S_drewN | apply Kd.S_drew)); exact HO_269003.out))) (below_size (lV2 GE252 GE268))); replace HO_269003 := Aside0.mk (Kd.S_elder' (by (with_reducible repeat (first | apply Kd.S_alloc | apply Kd.S_drewN | apply Kd.S_drew)); exact HO_269003.out) (Kd.S_base ho1) hb); have HO286 := Aside0.mk (Kd.S_lower (Kd.S_new' ho2 (Kd.S_lt (by (with_reducible repeat (first | apply Kd.S_alloc | apply Kd.S_drewN | apply Kd.S_drew)); exact HO_269004.out))) (below_size (lV2 GE252 GE268))); replace HO_269004 := Aside0.mk (Kd.S_elder' (by (with_reducible repeat (first | apply Kd.S_alloc | apply Kd.S_drewN | apply Kd.S_drew)); exact HO_269004.out) (Kd.S_base ho2) hb); have HO289 := Aside0.mk (Kd.S_lower (Kd.S_new' (Kd.S_new' ho3 (Kd.R_lt (rU HO_269002.out))) (Kd.S_lt (by (with_reducible repeat (first | apply Kd.S_alloc | apply Kd.S_drewN | apply Kd.S_drew)); exact HO_269005.out))) (below_size (lV2 GE252 GE268))); replace HO_269002 := Aside0.mk (Kd.R_elder' (rU HO_269002.out) (Kd.R_base ho0) hb); replace HO_269005 := Aside0.mk (Kd.S_mono (Kd.S_told (Kd.S_told (Kd.S_old (by (with_reducible repeat (first | apply Kd.S_alloc | apply Kd.S_drewN | apply Kd.S_drew)); exact HO_269005.out) hb) (Kd.R_base ho0)) (Kd.S_base ho3)) (fun _ h_ => h_.1)); replace BK252 := bB (bV BK252) hb; replace BK268 := bB (bV BK268) hb; replace HB := bH (lV2 GE252 GE268) hb; (try clear hb); (try clear ho0); (try clear ho1); (try clear ho2); (try clear ho3)) | ((with_reducible refine gate_dst (N := 11) rfl ?_); refine box_event rfl (N := 11) rfl (cs := #[.int .i64 0, .int .i64 0, .slice none 0 0, .slice none 0 0, .slice none 0 0, .slice none 0 0]) (t := 53) sE ?_; intro gb291 hg w53 hbox hb; replace HO_269002 := Aside0.mk (Kd.R_below (rU HO_269002.out) hb); replace HO_269003 := Aside0.mk (Kd.S_below (by (with_reducible repeat (first | apply Kd.S_alloc | apply Kd.S_drewN | apply Kd.S_drew)); exact HO_269003.out) hb); replace HO_269004 := Aside0.mk (Kd.S_below (by (with_reducible repeat (first | apply Kd.S_alloc | apply Kd.S_drewN | apply Kd.S_drew)); exact HO_269004.out) hb); replace HO_269005 := Aside0.mk (Kd.S_below (by (with_reducible repeat (first | apply Kd.S_alloc | apply Kd.S_drewN | apply Kd.S_drew)); exact HO_269005.out) hb); replace HO280 := Aside0.mk (Kd.R_below (rU HO280.out) hb); replace HO283 := Aside0.mk (Kd.S_below (by (with_reducible repeat (first | apply Kd.S_alloc | apply Kd.S_drewN | apply Kd.S_drew)); exact HO283.out) hb); replace HO286 := Aside0.mk (Kd.S_below (by (with_reducible repeat (first | apply Kd.S_alloc | apply Kd.S_drewN | apply Kd.S_drew)); exact HO286.out) hb); replace HO289 := Aside0.mk (Kd.S_below (by (with_reducible repeat (first | apply Kd.S_alloc | apply Kd.S_drewN | apply Kd.S_drew)); exact HO289.out) hb); have BK291 := Aside0.mk hbox; have GW291 := gS w hg (lV2 GE252 GE268); have GE291 := gS w hg (lV2 GE252 GE268); replace HB := bH (lV2 GE252 GE268) hb; have NB252_291 := nL hg (bV BK252); have NB291_252 := nG hg (bV BK252); replace BK252 := bB (bV BK252) hb; have NB268_291 := nL hg (bV BK268); have NB291_268 := nG hg (bV BK268); replace BK268 := bB (bV BK268) hb; clear hb hbox hg; have hnb54 := NB291_252.out; have hnc54 := NB252_291.out; have hnb55 := NB291_268.out; have hnc55 := NB268_291.out; have hcz56_0 := cz BK291 0 (.int .i64 0); have hcz56_1 := cz BK291 1 (.int .i64 0); have hcz56_2 := cz BK291 2 (.slice none 0 0); have hcz56_3 := cz BK291 3 (.slice none 0 0); have hcz56_4 := cz BK291 4 (.slice none 0 0); have hcz56_5 := cz BK291 5 (.slice none 0 0); have hfz56_0 := fz BK291 0; have hfz56_1 := fz BK291 1; have hfz56_2 := fz BK291 2; have hfz56_3 := fz BK291 3; have hfz56_4 := fz BK291 4; have hfz56_5 := fz BK291 5; obtain ⟨Ao57, co57, eo57⟩ := Kd.R_slice HO280.out; subst eo57; obtain ⟨Ao58, co58, eo58⟩ := Kd.S_slice HO283.out; subst eo58; obtain ⟨Ao59, co59, eo59⟩ := Kd.S_slice HO286.out; subst eo59; obtain ⟨Ao60, co60, eo60⟩ := Kd.S_slice HO289.out; subst eo60) | ((with_reducible refine gate_store (t := 53) (p := 11) rfl ?_); refine store_event (t := 53) (p := 11) (v := ?vo_w61) (w1 := ((((((w53.setCell ⟨gb291, 0, none⟩ (.int .i64 t276)).setCell ⟨gb291, 1, none⟩ (.int .i64 t277)).setCell ⟨gb291, 2, none⟩ (.slice Ao57 t278.length co57)).setCell ⟨gb291, 3, none⟩ (.slice Ao58 t281.length co58)).setCell ⟨gb291, 4, none⟩ (.slice Ao59 t284.length co59)).setCell ⟨gb291, 5, none⟩ (.slice Ao60 t287.length co60))) ?hg ?ho ?hn ?hr ?_; (case ho => rfl); (case hg => rfl); (case hn => rfl); (case hr => first | (go_simp; done) | (go_simp; rfl) | (have hq0_ := (blk_cell BK291.out 0).trans (show _ = some _ from rfl); have hf0_ := blk_frozen BK291.out 0; have hq1_ := (blk_cell BK291.out 1).trans (show _ = some _ from rfl); have hf1_ := blk_frozen BK291.out 1; have hq2_ := (blk_cell BK291.out 2).trans (show _ = some _ from rfl); have hf2_ := blk_frozen BK291.out 2; have hq3_ := (blk_cell BK291.out 3).trans (show _ = some _ from rfl); have hf3_ := blk_frozen BK291.out 3; have hq4_ := (blk_cell BK291.out 4).trans (show _ = some _ from rfl); have hf4_ := blk_frozen BK291.out 4; have hq5_ := (blk_cell BK291.out 5).trans (show _ = some _ from rfl); have hf5_ := blk_frozen BK291.out 5; first | (go_simp; done) | (go_simp; rfl))); intro w61 hw; replace HO_269002 : Aside0 (Kd.R k110 110 w61 w.heap.size (fun k_ => some k_ ≠ (.slice Ao57 t278.length co57 : Value).ownBlock) (.slice Ao14 t255.length co14) t271) := ⟨(by rw [hw]; exact (by (with_reducible repeat (first | apply Kd.R_alloc | apply Kd.R_drewN | apply Kd.R_drew)); exact Kd.R_mono (Kd.R_far (p := ⟨gb291, 5, none⟩) (Kd.R_far (p := ⟨gb291, 4, none⟩) (Kd.R_far (p := ⟨gb291, 3, none⟩) (Kd.R_far (p := ⟨gb291, 2, none⟩) (Kd.R_far (p := ⟨gb291, 1, none⟩) (Kd.R_far (p := ⟨gb291, 0, none⟩) (Kd.R_types HO_269002.out BK291.out (by decide)) (fun _ hk => hk.2) (.int .i64 t276)) (fun _ hk => hk.2) (.int .i64 t277)) (fun _ hk => hk.2) (.slice Ao57 t278.length co57)) (fun _ hk => hk.2) (.slice Ao58 t281.length co58)) (fun _ hk => hk.2) (.slice Ao59 t284.length co59)) (fun _ hk => hk.2) (.slice Ao60 t287.length co60)) (fun _ hk => hk.1.2)))⟩; replace HO_269003 : Aside0 (Kd.S (Kd.slice 3 (Kd.int .i64)) 86 w61 w.heap.size (fun k_ => some k_ ≠ (.slice Ao58 t281.length co58 : Value).ownBlock) (.slice Ao15 t258.length co15) t272) := ⟨(by rw [hw]; exact (by (with_reducible repeat (first | apply Kd.S_alloc | apply Kd.S_drewN | apply Kd.S_drew)); exact Kd.S_mono (Kd.S_far (p := ⟨gb291, 5, none⟩) (Kd.S_far (p := ⟨gb291, 4, none⟩) (Kd.S_far (p := ⟨gb291, 3, none⟩) (Kd.S_far (p := ⟨gb291, 2, none⟩) (Kd.S_far (p := ⟨gb291, 1, none⟩) (Kd.S_far (p := ⟨gb291, 0, none⟩) (Kd.S_types HO_269003.out BK291.out (by decide)) (fun _ hk => hk.2) (.int .i64 t276)) (fun _ hk => hk.2) (.int .i64 t277)) (fun _ hk => hk.2) (.slice Ao57 t278.length co57)) (fun _ hk => hk.2) (.slice Ao58 t281.length co58)) (fun _ hk => hk.2) (.slice Ao59 t284.length co59)) (fun _ hk => hk.2) (.slice Ao60 t287.length co60)) (fun _ hk => hk.1.2)))⟩; replace HO_269004 : Aside0 (Kd.S (Kd.slice 4 Kd.bool) 87 w61 w.heap.size (fun k_ => some k_ ≠ (.slice Ao59 t284.length co59 : Value).ownBlock) (.slice Ao16 t261.length co16) t273) := ⟨(by rw [hw]; exact (by (with_reducible repeat (first | apply Kd.S_alloc | apply Kd.S_drewN | apply Kd.S_drew)); exact Kd.S_mono (Kd.S_far (p := ⟨gb291, 5, none⟩) (Kd.S_far (p := ⟨gb291, 4, none⟩) (Kd.S_far (p := ⟨gb291, 3, none⟩) (Kd.S_far (p := ⟨gb291, 2, none⟩) (Kd.S_far (p := ⟨gb291, 1, none⟩) (Kd.S_far (p := ⟨gb291, 0, none⟩) (Kd.S_types HO_269004.out BK291.out (by decide)) (fun _ hk => hk.2) (.int .i64 t276)) (fun _ hk => hk.2) (.int .i64 t277)) (fun _ hk => hk.2) (.slice Ao57 t278.length co57)) (fun _ hk => hk.2) (.slice Ao58 t281.length co58)) (fun _ hk => hk.2) (.slice Ao59 t284.length co59)) (fun _ hk => hk.2) (.slice Ao60 t287.length co60)) (fun _ hk => hk.1.2)))⟩; replace HO_269005 : Aside0 (Kd.S k48 48 w61 w.heap.size (fun k_ => some k_ ≠ (.slice Ao57 t278.length co57 : Value).ownBlock ∧ some k_ ≠ (.slice Ao60 t287.length co60 : Value).ownBlock) (.slice Ao17 t264.length co17) t274) := ⟨(by rw [hw]; exact (by (with_reducible repeat (first | apply Kd.S_alloc | apply Kd.S_drewN | apply Kd.S_drew)); exact Kd.S_mono (Kd.S_far (p := ⟨gb291, 5, none⟩) (Kd.S_far (p := ⟨gb291, 4, none⟩) (Kd.S_far (p := ⟨gb291, 3, none⟩) (Kd.S_far (p := ⟨gb291, 2, none⟩) (Kd.S_far (p := ⟨gb291, 1, none⟩) (Kd.S_far (p := ⟨gb291, 0, none⟩) (Kd.S_types HO_269005.out BK291.out (by decide)) (fun _ hk => hk.2) (.int .i64 t276)) (fun _ hk => hk.2) (.int .i64 t277)) (fun _ hk => hk.2) (.slice Ao57 t278.length co57)) (fun _ hk => hk.2) (.slice Ao58 t281.length co58)) (fun _ hk => hk.2) (.slice Ao59 t284.length co59)) (fun _ hk => hk.2) (.slice Ao60 t287.length co60)) (fun _ hk => ⟨hk.1.1.2, hk.1.2⟩)))⟩; replace HO280 : Aside0 (Kd.R k110 110 w61 w.heap.size (fun k_ => some k_ ≠ (.slice Ao14 t255.length co14 : Value).ownBlock) (.slice Ao57 t278.length co57) t278) := ⟨(by rw [hw]; exact (by (with_reducible repeat (first | apply Kd.R_alloc | apply Kd.R_drewN | apply Kd.R_drew)); exact Kd.R_mono (Kd.R_far (p := ⟨gb291, 5, none⟩) (Kd.R_far (p := ⟨gb291, 4, none⟩) (Kd.R_far (p := ⟨gb291, 3, none⟩) (Kd.R_far (p := ⟨gb291, 2, none⟩) (Kd.R_far (p := ⟨gb291, 1, none⟩) (Kd.R_far (p := ⟨gb291, 0, none⟩) (Kd.R_types HO280.out BK291.out (by decide)) (fun _ hk => hk.2) (.int .i64 t276)) (fun _ hk => hk.2) (.int .i64 t277)) (fun _ hk => hk.2) (.slice Ao57 t278.length co57)) (fun _ hk => hk.2) (.slice Ao58 t281.length co58)) (fun _ hk => hk.2) (.slice Ao59 t284.length co59)) (fun _ hk => hk.2) (.slice Ao60 t287.length co60)) (fun _ hk => hk.1.2)))⟩; replace HO283 : Aside0 (Kd.S (Kd.slice 3 (Kd.int .i64)) 86 w61 w.heap.size (fun k_ => some k_ ≠ (.slice Ao15 t258.length co15 : Value).ownBlock) (.slice Ao58 t281.length co58) t281) := ⟨(by rw [hw]; exact (by (with_reducible repeat (first | apply Kd.S_alloc | apply Kd.S_drewN | apply Kd.S_drew)); exact Kd.S_mono (Kd.S_far (p := ⟨gb291, 5, none⟩) (Kd.S_far (p := ⟨gb291, 4, none⟩) (Kd.S_far (p := ⟨gb291, 3, none⟩) (Kd.S_far (p := ⟨gb291, 2, none⟩) (Kd.S_far (p := ⟨gb291, 1, none⟩) (Kd.S_far (p := ⟨gb291, 0, none⟩) (Kd.S_types HO283.out BK291.out (by decide)) (fun _ hk => hk.2) (.int .i64 t276)) (fun _ hk => hk.2) (.int .i64 t277)) (fun _ hk => hk.2) (.slice Ao57 t278.length co57)) (fun _ hk => hk.2) (.slice Ao58 t281.length co58)) (fun _ hk => hk.2) (.slice Ao59 t284.length co59)) (fun _ hk => hk.2) (.slice Ao60 t287.length co60)) (fun _ hk => hk.1.2)))⟩; replace HO286 : Aside0 (Kd.S (Kd.slice 4 Kd.bool) 87 w61 w.heap.size (fun k_ => some k_ ≠ (.slice Ao16 t261.length co16 : Value).ownBlock) (.slice Ao59 t284.length co59) t284) := ⟨(by rw [hw]; exact (by (with_reducible repeat (first | apply Kd.S_alloc | apply Kd.S_drewN | apply Kd.S_drew)); exact Kd.S_mono (Kd.S_far (p := ⟨gb291, 5, none⟩) (Kd.S_far (p := ⟨gb291, 4, none⟩) (Kd.S_far (p := ⟨gb291, 3, none⟩) (Kd.S_far (p := ⟨gb291, 2, none⟩) (Kd.S_far (p := ⟨gb291, 1, none⟩) (Kd.S_far (p := ⟨gb291, 0, none⟩) (Kd.S_types HO286.out BK291.out (by decide)) (fun _ hk => hk.2) (.int .i64 t276)) (fun _ hk => hk.2) (.int .i64 t277)) (fun _ hk => hk.2) (.slice Ao57 t278.length co57)) (fun _ hk => hk.2) (.slice Ao58 t281.length co58)) (fun _ hk => hk.2) (.slice Ao59 t284.length co59)) (fun _ hk => hk.2) (.slice Ao60 t287.length co60)) (fun _ hk => hk.1.2)))⟩; replace HO289 : Aside0 (Kd.S k48 48 w61 w.heap.size (fun k_ => some k_ ≠ (.slice Ao14 t255.length co14 : Value).ownBlock ∧ some k_ ≠ (.slice Ao17 t264.length co17 : Value).ownBlock ∧ some k_ ≠ (.slice Ao57 t278.length co57 : Value).ownBlock) (.slice Ao60 t287.length co60) t287) := ⟨(by rw [hw]; exact (by (with_reducible repeat (first | apply Kd.S_alloc | apply Kd.S_drewN | apply Kd.S_drew)); exact Kd.S_mono (Kd.S_far (p := ⟨gb291, 5, none⟩) (Kd.S_far (p := ⟨gb291, 4, none⟩) (Kd.S_far (p := ⟨gb291, 3, none⟩) (Kd.S_far (p := ⟨gb291, 2, none⟩) (Kd.S_far (p := ⟨gb291, 1, none⟩) (Kd.S_far (p := ⟨gb291, 0, none⟩) (Kd.S_types HO289.out BK291.out (by decide)) (fun _ hk => hk.2) (.int .i64 t276)) (fun _ hk => hk.2) (.int .i64 t277)) (fun _ hk => hk.2) (.slice Ao57 t278.length co57)) (fun _ hk => hk.2) (.slice Ao58 t281.length co58)) (fun _ hk => hk.2) (.slice Ao59 t284.length co59)) (fun _ hk => hk.2) (.slice Ao60 t287.length co60)) (fun _ hk => ⟨hk.1.1.2, ⟨hk.1.2, hk.1.1.1⟩⟩)))⟩; replace BK252 : Aside0 (w61.heap[gb252]? = some (.cells #[.int .i64 t237, .int .i64 t238, .slice A241 t239.length c241, .slice A244 t242.length c244, .slice A247 t245.length c247, .slice A250 t248.length c250] 53 (0, 0))) := ⟨(by rw [hw]; exact (bG NB252_291 BK252))⟩; replace BK268 : Aside0 (w61.heap[gb268]? = some (.cells #[.int .i64 t253, .int .i64 t254, .slice Ao14 t255.length co14, .slice Ao15 t258.length co15, .slice Ao16 t261.length co16, .slice Ao17 t264.length co17] 53 (0, 0))) := ⟨(by rw [hw]; exact (bG NB268_291 BK268))⟩; replace BK291 : Aside0 (w61.heap[gb291]? = some (.cells #[.int .i64 t276, .int .i64 t277, .slice Ao57 t278.length co57, .slice Ao58 t281.length co58, .slice Ao59 t284.length co59, .slice Ao60 t287.length co60] 53 (0, 0))) := ⟨(by rw [hw]; exact (by refine bU ?_; refine blk_put (cs := #[.int .i64 t276, .int .i64 t277, .slice Ao57 t278.length co57, .slice Ao58 t281.length co58, .slice Ao59 t284.length co59, .slice none 0 0]) ?_ 5 _ rfl; refine bU ?_; refine blk_put (cs := #[.int .i64 t276, .int .i64 t277, .slice Ao57 t278.length co57, .slice Ao58 t281.length co58, .slice none 0 0, .slice none 0 0]) ?_ 4 _ rfl; refine bU ?_; refine blk_put (cs := #[.int .i64 t276, .int .i64 t277, .slice Ao57 t278.length co57, .slice none 0 0, .slice none 0 0, .slice none 0 0]) ?_ 3 _ rfl; refine bU ?_; refine blk_put (cs := #[.int .i64 t276, .int .i64 t277, .slice none 0 0, .slice none 0 0, .slice none 0 0, .slice none 0 0]) ?_ 2 _ rfl; refine bU ?_; refine blk_put (cs := #[.int .i64 t276, .int .i64 0, .slice none 0 0, .slice none 0 0, .slice none 0 0, .slice none 0 0]) ?_ 1 _ rfl; refine bU ?_; refine blk_put (cs := #[.int .i64 0, .int .i64 0, .slice none 0 0, .slice none 0 0, .slice none 0 0, .slice none 0 0]) ?_ 0 _ rfl; refine bU ?_; exact BK291.out))⟩; replace HB : Aside0 (Below w.heap.size w w61) := ⟨(by rw [hw]; exact (lV3 GE252 GE268 GE291))⟩; clear hw))
      (try simp only [Act.put, List.setIfInBounds_toArray, List.set_cons_zero, List.set_cons_succ])
      go_cut [59] (fun v59 wc => ∃ (kq : Nat) (x59_42 : Bool), v59 = .bool x59_42 ∧ Aside0 (laws_FnExactNewPeer.j1 kq t270 x59_42 t253 t254 t271 t272 t273 t274 = some r) ∧ Aside0 (kq ≤ kj4) ∧ Aside0 (Kd.R k110 110 wc w.heap.size (fun k_ => some k_ ≠ ((.slice Ao57 t278.length co57) : Value).ownBlock) (.slice Ao14 t255.length co14) t271) ∧ Aside0 (Kd.S (Kd.slice 3 (Kd.int .i64)) 86 wc w.heap.size (fun k_ => some k_ ≠ ((.slice Ao58 t281.length co58) : Value).ownBlock) (.slice Ao15 t258.length co15) t272) ∧ Aside0 (Kd.S (Kd.slice 4 Kd.bool) 87 wc w.heap.size (fun k_ => some k_ ≠ ((.slice Ao59 t284.length co59) : Value).ownBlock) (.slice Ao16 t261.length co16) t273) ∧ Aside0 (Kd.S k48 48 wc w.heap.size (fun k_ => some k_ ≠ ((.slice Ao57 t278.length co57) : Value).ownBlock ∧ some k_ ≠ ((.slice Ao60 t287.length co60) : Value).ownBlock) (.slice Ao17 t264.length co17) t274) ∧ Aside0 (Kd.R k110 110 wc w.heap.size (fun k_ => some k_ ≠ ((.slice Ao14 t255.length co14) : Value).ownBlock) (.slice Ao57 t278.length co57) t278) ∧ Aside0 (Kd.S (Kd.slice 3 (Kd.int .i64)) 86 wc w.heap.size (fun k_ => some k_ ≠ ((.slice Ao15 t258.length co15) : Value).ownBlock) (.slice Ao58 t281.length co58) t281) ∧ Aside0 (Kd.S (Kd.slice 4 Kd.bool) 87 wc w.heap.size (fun k_ => some k_ ≠ ((.slice Ao16 t261.length co16) : Value).ownBlock) (.slice Ao59 t284.length co59) t284) ∧ Aside0 (Kd.S k48 48 wc w.heap.size (fun k_ => some k_ ≠ ((.slice Ao14 t255.length co14) : Value).ownBlock ∧ some k_ ≠ ((.slice Ao17 t264.length co17) : Value).ownBlock ∧ some k_ ≠ ((.slice Ao57 t278.length co57) : Value).ownBlock) (.slice Ao60 t287.length co60) t287) ∧ Aside0 (wc.heap[gb252]? = some (.cells #[.int .i64 t237, .int .i64 t238, (.slice A241 t239.length c241), (.slice A244 t242.length c244), (.slice A247 t245.length c247), (.slice A250 t248.length c250)] 53 (0, 0))) ∧ Aside0 (wc.heap[gb268]? = some (.cells #[.int .i64 t253, .int .i64 t254, (.slice Ao14 t255.length co14), (.slice Ao15 t258.length co15), (.slice Ao16 t261.length co16), (.slice Ao17 t264.length co17)] 53 (0, 0))) ∧ Aside0 (wc.heap[gb291]? = some (.cells #[.int .i64 t276, .int .i64 t277, (.slice Ao57 t278.length co57), (.slice Ao58 t281.length co58), (.slice Ao59 t284.length co59), (.slice Ao60 t287.length co60)] 53 (0, 0))) ∧ Aside0 (Below w.heap.size w wc))
      case first =>
       have H := HC43.out
       clear HC43
       replace H := Option.bind_eq_some_iff.mp H
       obtain ⟨t292, A620, H⟩ := H
       replace H : (if t292 = true then (laws_FnExactNewPeer.j1 kj4 t270 (t290 != t251) t253 t254 t271 t272 t273 t274) else (laws_FnExactNewPeer.j1 kj4 t270 true t253 t254 t271 t272 t273 t274)) = some r := H
       have A62 := Aside0.mk A620
       clear A620
       by_cases c63 : t292 = true
       ·subst c63
        have H1 : (laws_FnExactNewPeer.j1 kj4 t270 (t290 != t251) t253 t254 t271 t272 t273 t274) = some r := by rw [if_pos rfl] at H; exact H
        clear H
        have H := H1
        clear H1
        have H' := Aside0.mk H
        clear H
        have hnb64 := NB291_252.out
        have hnc64 := NB252_291.out
        have hnb65 := NB291_268.out
        have hnc65 := NB268_291.out
        have hcz66_0 := cz BK291 0 (.int .i64 t276)
        have hcz66_1 := cz BK291 1 (.int .i64 t277)
        have hcz66_2 := cz BK291 2 (.slice Ao57 t278.length co57)
        have hcz66_3 := cz BK291 3 (.slice Ao58 t281.length co58)
        have hcz66_4 := cz BK291 4 (.slice Ao59 t284.length co59)
        have hcz66_5 := cz BK291 5 (.slice Ao60 t287.length co60)
        have hfz66_0 := fz BK291 0
        have hfz66_1 := fz BK291 1
        have hfz66_2 := fz BK291 2
        have hfz66_3 := fz BK291 3
        have hfz66_4 := fz BK291 4
        have hfz66_5 := fz BK291 5
        have hnb67 := NB252_268.out
        have hnc67 := NB268_252.out
        have hcz68_0 := cz BK252 0 (.int .i64 t237)
        have hcz68_1 := cz BK252 1 (.int .i64 t238)
        have hcz68_2 := cz BK252 2 (.slice A241 t239.length c241)
        have hcz68_3 := cz BK252 3 (.slice A244 t242.length c244)
        have hcz68_4 := cz BK252 4 (.slice A247 t245.length c247)
        have hcz68_5 := cz BK252 5 (.slice A250 t248.length c250)
        have hfz68_0 := fz BK252 0
        have hfz68_1 := fz BK252 1
        have hfz68_2 := fz BK252 2
        have hfz68_3 := fz BK252 3
        have hfz68_4 := fz BK252 4
        have hfz68_5 := fz BK252 5
        go_wp2_with (first | ((with_reducible refine gate_callee (f := 25) rfl ?_); refine goesL_ (some 53) rfl rfl Try.func25 (by kernel_rfl) rfl #[.agg #[.int .i64 t276, .int .i64 t277, .slice Ao57 t278.length co57, .slice Ao58 t281.length co58, .slice Ao59 t284.length co59, .slice Ao60 t287.length co60], .agg #[.int .i64 t237, .int .i64 t238, .slice A241 t239.length c241, .slice A244 t242.length c244, .slice A247 t245.length c247, .slice A250 t248.length c250]] rfl aE ?_; (with_reducible refine (laws_eqPeer.calls kj4 t276 t277 _ _ t278 _ _ t281 _ _ t284 _ _ t287 t237 t238 _ _ t239 _ _ t242 _ _ t245 _ _ t248 true _ ?side1 ?side2 ?side3 ?side4 ?side5 ?side6 ?side7 ?side8 ?side9 ?side10 ?side11 ?side12 ?side13 ?side14 ?side15 ?side16 A62.out).mono ?_); (case side1 => exact cU (Kd.R_reads' HO280.out).2.2); (case side2 => exact (Kd.R_reads' HO280.out).2.1); (case side3 => exact cU (Kd.S_reads' HO283.out).2.2); (case side4 => exact (Kd.S_reads' HO283.out).2.1); (case side5 => exact cU (Kd.S_reads' HO286.out).2.2); (case side6 => exact (Kd.S_reads' HO286.out).2.1); (case side7 => exact cU (Kd.S_reads' HO289.out).2.2); (case side8 => exact (Kd.S_reads' HO289.out).2.1); (case side9 => exact cU (Kd.C_below HR241.out HB.out)); (case side10 => exact HC241.out); (case side11 => exact cU (Kd.C_below HR244.out HB.out)); (case side12 => exact HC244.out); (case side13 => exact cU (Kd.C_below HR247.out HB.out)); (case side14 => exact HC247.out); (case side15 => exact cU (Kd.C_below HR250.out HB.out)); (case side16 => exact HC250.out); rintro e w69 ⟨rfl, hb⟩; refine ⟨_, rfl, ?_⟩; replace HO_269002 := Aside0.mk (Kd.R_below (rU HO_269002.out) hb); replace HO_269003 := Aside0.mk (Kd.S_below (by (with_reducible repeat (first | apply Kd.S_alloc | apply Kd.S_drewN | apply Kd.S_drew)); exact HO_269003.out) hb); replace HO_269004 := Aside0.mk (Kd.S_below (by (with_reducible repeat (first | apply Kd.S_alloc | apply Kd.S_drewN | apply Kd.S_drew)); exact HO_269004.out) hb); replace HO_269005 := Aside0.mk (Kd.S_below (by (with_reducible repeat (first | apply Kd.S_alloc | apply Kd.S_drewN | apply Kd.S_drew)); exact HO_269005.out) hb); replace HO280 := Aside0.mk (Kd.R_below (rU HO280.out) hb); replace HO283 := Aside0.mk (Kd.S_below (by (with_reducible repeat (first | apply Kd.S_alloc | apply Kd.S_drewN | apply Kd.S_drew)); exact HO283.out) hb); replace HO286 := Aside0.mk (Kd.S_below (by (with_reducible repeat (first | apply Kd.S_alloc | apply Kd.S_drewN | apply Kd.S_drew)); exact HO286.out) hb); replace HO289 := Aside0.mk (Kd.S_below (by (with_reducible repeat (first | apply Kd.S_alloc | apply Kd.S_drewN | apply Kd.S_drew)); exact HO289.out) hb); replace BK252 := bB (bV BK252) hb; replace BK268 := bB (bV BK268) hb; replace BK291 := bB (bV BK291) hb; replace HB := bH (lV3 GE252 GE268 GE291) hb; (try clear hb)))
        go_meet
        case rel => exact ⟨_, ((t290 != t251)), tE, H', ⟨by have := HJ4.out; first | omega | exact Nat.le_refl _⟩, ⟨by (with_reducible repeat (first | apply Kd.R_alloc | apply Kd.R_drewN | apply Kd.R_drew)); exact HO_269002.out⟩, ⟨by (with_reducible repeat (first | apply Kd.S_alloc | apply Kd.S_drewN | apply Kd.S_drew)); exact HO_269003.out⟩, ⟨by (with_reducible repeat (first | apply Kd.S_alloc | apply Kd.S_drewN | apply Kd.S_drew)); exact HO_269004.out⟩, ⟨by (with_reducible repeat (first | apply Kd.S_alloc | apply Kd.S_drewN | apply Kd.S_drew)); exact HO_269005.out⟩, ⟨by (with_reducible repeat (first | apply Kd.R_alloc | apply Kd.R_drewN | apply Kd.R_drew)); exact HO280.out⟩, ⟨by (with_reducible repeat (first | apply Kd.S_alloc | apply Kd.S_drewN | apply Kd.S_drew)); exact HO283.out⟩, ⟨by (with_reducible repeat (first | apply Kd.S_alloc | apply Kd.S_drewN | apply Kd.S_drew)); exact HO286.out⟩, ⟨by (with_reducible repeat (first | apply Kd.S_alloc | apply Kd.S_drewN | apply Kd.S_drew)); exact HO289.out⟩, ⟨by refine bU ?_; exact BK252.out⟩, ⟨by refine bU ?_; exact BK268.out⟩, ⟨by refine bU ?_; exact BK291.out⟩, ⟨by repeat (first | (with_reducible first | exact HB.out | apply below_alloc | apply pw_below_drewN | apply below_drew1 | refine below_set ?_ GE252.out | refine below_set ?_ GE268.out | refine below_set ?_ GE291.out) | exact HB.out)⟩⟩
       ·replace c63 := Bool.eq_false_iff.mpr c63
        subst c63
        have H1 : (laws_FnExactNewPeer.j1 kj4 t270 true t253 t254 t271 t272 t273 t274) = some r := by rw [if_neg (show ¬ (false = true) by decide)] at H; exact H
        clear H
        have H := H1
        clear H1
        have H' := Aside0.mk H
        clear H
        have hnb70 := NB291_252.out
        have hnc70 := NB252_291.out
        have hnb71 := NB291_268.out
        have hnc71 := NB268_291.out
        have hcz72_0 := cz BK291 0 (.int .i64 t276)
        have hcz72_1 := cz BK291 1 (.int .i64 t277)
        have hcz72_2 := cz BK291 2 (.slice Ao57 t278.length co57)
        have hcz72_3 := cz BK291 3 (.slice Ao58 t281.length co58)
        have hcz72_4 := cz BK291 4 (.slice Ao59 t284.length co59)
        have hcz72_5 := cz BK291 5 (.slice Ao60 t287.length co60)
        have hfz72_0 := fz BK291 0
        have hfz72_1 := fz BK291 1
        have hfz72_2 := fz BK291 2
        have hfz72_3 := fz BK291 3
        have hfz72_4 := fz BK291 4
        have hfz72_5 := fz BK291 5
        have hnb73 := NB252_268.out
        have hnc73 := NB268_252.out
        have hcz74_0 := cz BK252 0 (.int .i64 t237)
        have hcz74_1 := cz BK252 1 (.int .i64 t238)
        have hcz74_2 := cz BK252 2 (.slice A241 t239.length c241)
        have hcz74_3 := cz BK252 3 (.slice A244 t242.length c244)
        have hcz74_4 := cz BK252 4 (.slice A247 t245.length c247)
        have hcz74_5 := cz BK252 5 (.slice A250 t248.length c250)
        have hfz74_0 := fz BK252 0
        have hfz74_1 := fz BK252 1
        have hfz74_2 := fz BK252 2
        have hfz74_3 := fz BK252 3
        have hfz74_4 := fz BK252 4
        have hfz74_5 := fz BK252 5
        go_wp2_with (first | ((with_reducible refine gate_callee (f := 25) rfl ?_); refine goesL_ (some 53) rfl rfl Try.func25 (by kernel_rfl) rfl #[.agg #[.int .i64 t276, .int .i64 t277, .slice Ao57 t278.length co57, .slice Ao58 t281.length co58, .slice Ao59 t284.length co59, .slice Ao60 t287.length co60], .agg #[.int .i64 t237, .int .i64 t238, .slice A241 t239.length c241, .slice A244 t242.length c244, .slice A247 t245.length c247, .slice A250 t248.length c250]] rfl aE ?_; (with_reducible refine (laws_eqPeer.calls kj4 t276 t277 _ _ t278 _ _ t281 _ _ t284 _ _ t287 t237 t238 _ _ t239 _ _ t242 _ _ t245 _ _ t248 false _ ?side1 ?side2 ?side3 ?side4 ?side5 ?side6 ?side7 ?side8 ?side9 ?side10 ?side11 ?side12 ?side13 ?side14 ?side15 ?side16 A62.out).mono ?_); (case side1 => exact cU (Kd.R_reads' HO280.out).2.2); (case side2 => exact (Kd.R_reads' HO280.out).2.1); (case side3 => exact cU (Kd.S_reads' HO283.out).2.2); (case side4 => exact (Kd.S_reads' HO283.out).2.1); (case side5 => exact cU (Kd.S_reads' HO286.out).2.2); (case side6 => exact (Kd.S_reads' HO286.out).2.1); (case side7 => exact cU (Kd.S_reads' HO289.out).2.2); (case side8 => exact (Kd.S_reads' HO289.out).2.1); (case side9 => exact cU (Kd.C_below HR241.out HB.out)); (case side10 => exact HC241.out); (case side11 => exact cU (Kd.C_below HR244.out HB.out)); (case side12 => exact HC244.out); (case side13 => exact cU (Kd.C_below HR247.out HB.out)); (case side14 => exact HC247.out); (case side15 => exact cU (Kd.C_below HR250.out HB.out)); (case side16 => exact HC250.out); rintro e w75 ⟨rfl, hb⟩; refine ⟨_, rfl, ?_⟩; replace HO_269002 := Aside0.mk (Kd.R_below (rU HO_269002.out) hb); replace HO_269003 := Aside0.mk (Kd.S_below (by (with_reducible repeat (first | apply Kd.S_alloc | apply Kd.S_drewN | apply Kd.S_drew)); exact HO_269003.out) hb); replace HO_269004 := Aside0.mk (Kd.S_below (by (with_reducible repeat (first | apply Kd.S_alloc | apply Kd.S_drewN | apply Kd.S_drew)); exact HO_269004.out) hb); replace HO_269005 := Aside0.mk (Kd.S_below (by (with_reducible repeat (first | apply Kd.S_alloc | apply Kd.S_drewN | apply Kd.S_drew)); exact HO_269005.out) hb); replace HO280 := Aside0.mk (Kd.R_below (rU HO280.out) hb); replace HO283 := Aside0.mk (Kd.S_below (by (with_reducible repeat (first | apply Kd.S_alloc | apply Kd.S_drewN | apply Kd.S_drew)); exact HO283.out) hb); replace HO286 := Aside0.mk (Kd.S_below (by (with_reducible repeat (first | apply Kd.S_alloc | apply Kd.S_drewN | apply Kd.S_drew)); exact HO286.out) hb); replace HO289 := Aside0.mk (Kd.S_below (by (with_reducible repeat (first | apply Kd.S_alloc | apply Kd.S_drewN | apply Kd.S_drew)); exact HO289.out) hb); replace BK252 := bB (bV BK252) hb; replace BK268 := bB (bV BK268) hb; replace BK291 := bB (bV BK291) hb; replace HB := bH (lV3 GE252 GE268 GE291) hb; (try clear hb)))
        go_meet
        case rel => exact ⟨_, (true), tE, H', ⟨by have := HJ4.out; first | omega | exact Nat.le_refl _⟩, ⟨by (with_reducible repeat (first | apply Kd.R_alloc | apply Kd.R_drewN | apply Kd.R_drew)); exact HO_269002.out⟩, ⟨by (with_reducible repeat (first | apply Kd.S_alloc | apply Kd.S_drewN | apply Kd.S_drew)); exact HO_269003.out⟩, ⟨by (with_reducible repeat (first | apply Kd.S_alloc | apply Kd.S_drewN | apply Kd.S_drew)); exact HO_269004.out⟩, ⟨by (with_reducible repeat (first | apply Kd.S_alloc | apply Kd.S_drewN | apply Kd.S_drew)); exact HO_269005.out⟩, ⟨by (with_reducible repeat (first | apply Kd.R_alloc | apply Kd.R_drewN | apply Kd.R_drew)); exact HO280.out⟩, ⟨by (with_reducible repeat (first | apply Kd.S_alloc | apply Kd.S_drewN | apply Kd.S_drew)); exact HO283.out⟩, ⟨by (with_reducible repeat (first | apply Kd.S_alloc | apply Kd.S_drewN | apply Kd.S_drew)); exact HO286.out⟩, ⟨by (with_reducible repeat (first | apply Kd.S_alloc | apply Kd.S_drewN | apply Kd.S_drew)); exact HO289.out⟩, ⟨by refine bU ?_; exact BK252.out⟩, ⟨by refine bU ?_; exact BK268.out⟩, ⟨by refine bU ?_; exact BK291.out⟩, ⟨by repeat (first | (with_reducible first | exact HB.out | apply below_alloc | apply pw_below_drewN | apply below_drew1 | refine below_set ?_ GE252.out | refine below_set ?_ GE268.out | refine below_set ?_ GE291.out) | exact HB.out)⟩⟩
      case rest =>
       clear HC43
       try clear c1
       try clear q1
       try clear c2
       try clear p2
       try clear q2
       try clear hf2
       try clear c3
       try clear q3
       try clear hf3
       try clear c4
       try clear q4
       try clear hf4
       try clear c5
       try clear q5
       try clear hf5
       try clear c6
       try clear c7
       try clear c12
       try clear c20
       try clear c21
       try clear c23
       try clear c24
       try clear c25
       try clear c26
       try clear c27
       try clear c29
       try clear c32
       try clear c32b0
       try clear c33
       try clear c41
       try clear c41b0
       try clear c41b1
       try clear c44
       try clear c54
       try clear c55
       try clear c63
       try clear c64
       try clear c65
       try clear c67
       try clear c70
       try clear c71
       try clear c73
       try clear hcz13_0
       try clear hcz13_1
       try clear hcz13_2
       try clear hcz13_3
       try clear hcz13_4
       try clear hcz13_5
       try clear hcz22_0
       try clear hcz22_1
       try clear hcz22_2
       try clear hcz22_3
       try clear hcz22_4
       try clear hcz22_5
       try clear hcz23_0
       try clear hcz23_1
       try clear hcz23_2
       try clear hcz23_3
       try clear hcz23_4
       try clear hcz23_5
       try clear hcz26_0
       try clear hcz26_1
       try clear hcz26_2
       try clear hcz26_3
       try clear hcz26_4
       try clear hcz26_5
       try clear hcz27_0
       try clear hcz27_1
       try clear hcz27_2
       try clear hcz27_3
       try clear hcz27_4
       try clear hcz27_5
       try clear hcz34_0
       try clear hcz34_1
       try clear hcz34_2
       try clear hcz34_3
       try clear hcz34_4
       try clear hcz34_5
       try clear hcz39_0
       try clear hcz39_1
       try clear hcz39_2
       try clear hcz39_3
       try clear hcz39_4
       try clear hcz39_5
       try clear hcz45_0
       try clear hcz45_1
       try clear hcz45_2
       try clear hcz45_3
       try clear hcz45_4
       try clear hcz45_5
       try clear hcz50_0
       try clear hcz50_1
       try clear hcz50_2
       try clear hcz50_3
       try clear hcz50_4
       try clear hcz50_5
       try clear hcz56_0
       try clear hcz56_1
       try clear hcz56_2
       try clear hcz56_3
       try clear hcz56_4
       try clear hcz56_5
       try clear hcz66_0
       try clear hcz66_1
       try clear hcz66_2
       try clear hcz66_3
       try clear hcz66_4
       try clear hcz66_5
       try clear hcz68_0
       try clear hcz68_1
       try clear hcz68_2
       try clear hcz68_3
       try clear hcz68_4
       try clear hcz68_5
       try clear hcz72_0
       try clear hcz72_1
       try clear hcz72_2
       try clear hcz72_3
       try clear hcz72_4
       try clear hcz72_5
       try clear hcz74_0
       try clear hcz74_1
       try clear hcz74_2
       try clear hcz74_3
       try clear hcz74_4
       try clear hcz74_5
       try clear hcz8_0
       try clear hcz8_1
       try clear hcz8_2
       try clear hcz8_3
       try clear hcz8_4
       try clear hcz8_5
       try clear hfz13_0
       try clear hfz13_1
       try clear hfz13_2
       try clear hfz13_3
       try clear hfz13_4
       try clear hfz13_5
       try clear hfz22_0
       try clear hfz22_1
       try clear hfz22_2
       try clear hfz22_3
       try clear hfz22_4
       try clear hfz22_5
       try clear hfz23_0
       try clear hfz23_1
       try clear hfz23_2
       try clear hfz23_3
       try clear hfz23_4
       try clear hfz23_5
       try clear hfz26_0
       try clear hfz26_1
       try clear hfz26_2
       try clear hfz26_3
       try clear hfz26_4
       try clear hfz26_5
       try clear hfz27_0
       try clear hfz27_1
       try clear hfz27_2
       try clear hfz27_3
       try clear hfz27_4
       try clear hfz27_5
       try clear hfz34_0
       try clear hfz34_1
       try clear hfz34_2
       try clear hfz34_3
       try clear hfz34_4
       try clear hfz34_5
       try clear hfz39_0
       try clear hfz39_1
       try clear hfz39_2
       try clear hfz39_3
       try clear hfz39_4
       try clear hfz39_5
       try clear hfz45_0
       try clear hfz45_1
       try clear hfz45_2
       try clear hfz45_3
       try clear hfz45_4
       try clear hfz45_5
       try clear hfz50_0
       try clear hfz50_1
       try clear hfz50_2
       try clear hfz50_3
       try clear hfz50_4
       try clear hfz50_5
       try clear hfz56_0
       try clear hfz56_1
       try clear hfz56_2
       try clear hfz56_3
       try clear hfz56_4
       try clear hfz56_5
       try clear hfz66_0
       try clear hfz66_1
       try clear hfz66_2
       try clear hfz66_3
       try clear hfz66_4
       try clear hfz66_5
       try clear hfz68_0
       try clear hfz68_1
       try clear hfz68_2
       try clear hfz68_3
       try clear hfz68_4
       try clear hfz68_5
       try clear hfz72_0
       try clear hfz72_1
       try clear hfz72_2
       try clear hfz72_3
       try clear hfz72_4
       try clear hfz72_5
       try clear hfz74_0
       try clear hfz74_1
       try clear hfz74_2
       try clear hfz74_3
       try clear hfz74_4
       try clear hfz74_5
       try clear hfz8_0
       try clear hfz8_1
       try clear hfz8_2
       try clear hfz8_3
       try clear hfz8_4
       try clear hfz8_5
       try clear p2
       try clear q1
       try clear q2
       try clear q3
       try clear q4
       try clear q5
       obtain ⟨kq, x59_42, rfl, HA, HJ42, HO_269002, HO_269003, HO_269004, HO_269005, HO_292002, HO_292003, HO_292004, HO_292005, BK252, BK268, BK291, HB⟩ := hcut
       have hl269002_42 := (Kd.R_reads' HO_269002.out).1
       rw [hl269002_42] at HO_269002
       (try simp only [hl269002_42])
       (try simp only [hl269002_42] at BK252)
       (try simp only [hl269002_42] at BK268)
       (try simp only [hl269002_42] at BK291)
       (try simp only [hl269002_42] at HO_269003)
       (try simp only [hl269002_42] at HO_269004)
       (try simp only [hl269002_42] at HO_269005)
       (try simp only [hl269002_42] at HO_292002)
       (try simp only [hl269002_42] at HO_292003)
       (try simp only [hl269002_42] at HO_292004)
       (try simp only [hl269002_42] at HO_292005)
       have hl269003_42 := (Kd.S_reads' HO_269003.out).1
       rw [hl269003_42] at HO_269003
       (try simp only [hl269003_42])
       (try simp only [hl269003_42] at BK252)
       (try simp only [hl269003_42] at BK268)
       (try simp only [hl269003_42] at BK291)
       (try simp only [hl269003_42] at HO_269002)
       (try simp only [hl269003_42] at HO_269004)
       (try simp only [hl269003_42] at HO_269005)
       (try simp only [hl269003_42] at HO_292002)
       (try simp only [hl269003_42] at HO_292003)
       (try simp only [hl269003_42] at HO_292004)
       (try simp only [hl269003_42] at HO_292005)
       have hl269004_42 := (Kd.S_reads' HO_269004.out).1
       rw [hl269004_42] at HO_269004
       (try simp only [hl269004_42])
       (try simp only [hl269004_42] at BK252)
       (try simp only [hl269004_42] at BK268)
       (try simp only [hl269004_42] at BK291)
       (try simp only [hl269004_42] at HO_269002)
       (try simp only [hl269004_42] at HO_269003)
       (try simp only [hl269004_42] at HO_269005)
       (try simp only [hl269004_42] at HO_292002)
       (try simp only [hl269004_42] at HO_292003)
       (try simp only [hl269004_42] at HO_292004)
       (try simp only [hl269004_42] at HO_292005)
       have hl269005_42 := (Kd.S_reads' HO_269005.out).1
       rw [hl269005_42] at HO_269005
       (try simp only [hl269005_42])
       (try simp only [hl269005_42] at BK252)
       (try simp only [hl269005_42] at BK268)
       (try simp only [hl269005_42] at BK291)
       (try simp only [hl269005_42] at HO_269002)
       (try simp only [hl269005_42] at HO_269003)
       (try simp only [hl269005_42] at HO_269004)
       (try simp only [hl269005_42] at HO_292002)
       (try simp only [hl269005_42] at HO_292003)
       (try simp only [hl269005_42] at HO_292004)
       (try simp only [hl269005_42] at HO_292005)
       cases kq with
       | zero => exact absurd HA.out (by simp [laws_FnExactNewPeer.j1])
       | succ kj42 =>
        have H := HA.out
        clear HA
        simp only [laws_FnExactNewPeer.j1] at H
        by_cases c76 : x59_42 = true
        ·subst c76
         have H1 : (some false) = some r := by rw [if_pos rfl] at H; exact H
         clear H
         have H := H1
         clear H1
         obtain rfl := Option.some.inj H
         go_wp2
         go_ret
         exact ⟨eE, (by first | exact below_step HB00.out (lV3 GE252 GE268 GE291) | exact (lV3 GE252 GE268 GE291))⟩
        ·replace c76 := Bool.eq_false_iff.mpr c76
         subst c76
         have H1 : ((laws_heldPeer.f kj42 t253 t254 t271 t272 t273 t274 1).bind fun t293 => (if t293 < 0 then (some false) else (if t293 = t270 then (some true) else (some false)))) = some r := by rw [if_neg (show ¬ (false = true) by decide)] at H; exact H
         clear H
         have H := H1
         clear H1
         replace H := Option.bind_eq_some_iff.mp H
         obtain ⟨t293, A770, H⟩ := H
         replace H : (if t293 < 0 then (some false) else (if t293 = t270 then (some true) else (some false))) = some r := H
         have A77 := Aside0.mk A770
         clear A770
         by_cases c78 : t293 < 0
         ·rw [if_pos c78] at H
          have c78b0 : decide (t293 < 0) = true := decide_eq_true c78
          clear c78
          obtain rfl := Option.some.inj H
          have hnb79 := NB268_252.out
          have hnc79 := NB252_268.out
          have hnb80 := NB268_291.out
          have hnc80 := NB291_268.out
          have hcz81_0 := cz BK268 0 (.int .i64 t253)
          have hcz81_1 := cz BK268 1 (.int .i64 t254)
          have hcz81_2 := cz BK268 2 (.slice Ao14 t271.length co14)
          have hcz81_3 := cz BK268 3 (.slice Ao15 t272.length co15)
          have hcz81_4 := cz BK268 4 (.slice Ao16 t273.length co16)
          have hcz81_5 := cz BK268 5 (.slice Ao17 t274.length co17)
          have hfz81_0 := fz BK268 0
          have hfz81_1 := fz BK268 1
          have hfz81_2 := fz BK268 2
          have hfz81_3 := fz BK268 3
          have hfz81_4 := fz BK268 4
          have hfz81_5 := fz BK268 5
          go_wp2_with (first | ((with_reducible refine gate_callee (f := 27) rfl ?_); refine goesL_ (some 62) rfl rfl Try.func27 (by kernel_rfl) rfl #[.agg #[.int .i64 t253, .int .i64 t254, .slice Ao14 t271.length co14, .slice Ao15 t272.length co15, .slice Ao16 t273.length co16, .slice Ao17 t274.length co17], .int .i64 1] rfl aE ?_; (with_reducible refine (laws_heldPeer.calls kj42 t253 t254 _ _ t271 _ _ t272 _ _ t273 _ _ t274 1 t293 _ ?side1 ?side2 ?side3 ?side4 ?side5 ?side6 ?side7 ?side8 A77.out).mono ?_); (case side1 => exact cU (Kd.R_reads' HO_269002.out).2.2); (case side2 => exact (Kd.R_reads' HO_269002.out).2.1); (case side3 => exact cU (Kd.S_reads' HO_269003.out).2.2); (case side4 => exact (Kd.S_reads' HO_269003.out).2.1); (case side5 => exact cU (Kd.S_reads' HO_269004.out).2.2); (case side6 => exact (Kd.S_reads' HO_269004.out).2.1); (case side7 => exact cU (Kd.S_reads' HO_269005.out).2.2); (case side8 => exact (Kd.S_reads' HO_269005.out).2.1); rintro e w82 ⟨rfl, hb⟩; refine ⟨_, rfl, ?_⟩; replace HO_269002 := Aside0.mk (Kd.R_below (rU HO_269002.out) hb); replace HO_269003 := Aside0.mk (Kd.S_below (by (with_reducible repeat (first | apply Kd.S_alloc | apply Kd.S_drewN | apply Kd.S_drew)); exact HO_269003.out) hb); replace HO_269004 := Aside0.mk (Kd.S_below (by (with_reducible repeat (first | apply Kd.S_alloc | apply Kd.S_drewN | apply Kd.S_drew)); exact HO_269004.out) hb); replace HO_269005 := Aside0.mk (Kd.S_below (by (with_reducible repeat (first | apply Kd.S_alloc | apply Kd.S_drewN | apply Kd.S_drew)); exact HO_269005.out) hb); replace HO_292002 := Aside0.mk (Kd.R_below (rU HO_292002.out) hb); replace HO_292003 := Aside0.mk (Kd.S_below (by (with_reducible repeat (first | apply Kd.S_alloc | apply Kd.S_drewN | apply Kd.S_drew)); exact HO_292003.out) hb); replace HO_292004 := Aside0.mk (Kd.S_below (by (with_reducible repeat (first | apply Kd.S_alloc | apply Kd.S_drewN | apply Kd.S_drew)); exact HO_292004.out) hb); replace HO_292005 := Aside0.mk (Kd.S_below (by (with_reducible repeat (first | apply Kd.S_alloc | apply Kd.S_drewN | apply Kd.S_drew)); exact HO_292005.out) hb); replace BK252 := bB (bV BK252) hb; replace BK268 := bB (bV BK268) hb; replace BK291 := bB (bV BK291) hb; replace HB := bH (lV3 GE252 GE268 GE291) hb; (try clear hb)))
          go_ret
          exact ⟨eE, (by first | exact below_step HB00.out (lV3 GE252 GE268 GE291) | exact (lV3 GE252 GE268 GE291))⟩
         ·rw [if_neg c78] at H
          have c78b0 : decide (t293 < 0) = false := decide_eq_false c78
          clear c78
          by_cases c83 : t293 = t270
          ·rw [if_pos c83] at H
           have c83b0 : (t293 == t270) = true := beq_iff_eq.mpr c83
           have c83b1 : (t293 != t270) = false := bne_eq_false_iff_eq.mpr c83
           clear c83
           obtain rfl := Option.some.inj H
           have hnb84 := NB268_252.out
           have hnc84 := NB252_268.out
           have hnb85 := NB268_291.out
           have hnc85 := NB291_268.out
           have hcz86_0 := cz BK268 0 (.int .i64 t253)
           have hcz86_1 := cz BK268 1 (.int .i64 t254)
           have hcz86_2 := cz BK268 2 (.slice Ao14 t271.length co14)
           have hcz86_3 := cz BK268 3 (.slice Ao15 t272.length co15)
           have hcz86_4 := cz BK268 4 (.slice Ao16 t273.length co16)
           have hcz86_5 := cz BK268 5 (.slice Ao17 t274.length co17)
           have hfz86_0 := fz BK268 0
           have hfz86_1 := fz BK268 1
           have hfz86_2 := fz BK268 2
           have hfz86_3 := fz BK268 3
           have hfz86_4 := fz BK268 4
           have hfz86_5 := fz BK268 5
           go_wp2_with (first | ((with_reducible refine gate_callee (f := 27) rfl ?_); refine goesL_ (some 62) rfl rfl Try.func27 (by kernel_rfl) rfl #[.agg #[.int .i64 t253, .int .i64 t254, .slice Ao14 t271.length co14, .slice Ao15 t272.length co15, .slice Ao16 t273.length co16, .slice Ao17 t274.length co17], .int .i64 1] rfl aE ?_; (with_reducible refine (laws_heldPeer.calls kj42 t253 t254 _ _ t271 _ _ t272 _ _ t273 _ _ t274 1 t293 _ ?side1 ?side2 ?side3 ?side4 ?side5 ?side6 ?side7 ?side8 A77.out).mono ?_); (case side1 => exact cU (Kd.R_reads' HO_269002.out).2.2); (case side2 => exact (Kd.R_reads' HO_269002.out).2.1); (case side3 => exact cU (Kd.S_reads' HO_269003.out).2.2); (case side4 => exact (Kd.S_reads' HO_269003.out).2.1); (case side5 => exact cU (Kd.S_reads' HO_269004.out).2.2); (case side6 => exact (Kd.S_reads' HO_269004.out).2.1); (case side7 => exact cU (Kd.S_reads' HO_269005.out).2.2); (case side8 => exact (Kd.S_reads' HO_269005.out).2.1); rintro e w87 ⟨rfl, hb⟩; refine ⟨_, rfl, ?_⟩; replace HO_269002 := Aside0.mk (Kd.R_below (rU HO_269002.out) hb); replace HO_269003 := Aside0.mk (Kd.S_below (by (with_reducible repeat (first | apply Kd.S_alloc | apply Kd.S_drewN | apply Kd.S_drew)); exact HO_269003.out) hb); replace HO_269004 := Aside0.mk (Kd.S_below (by (with_reducible repeat (first | apply Kd.S_alloc | apply Kd.S_drewN | apply Kd.S_drew)); exact HO_269004.out) hb); replace HO_269005 := Aside0.mk (Kd.S_below (by (with_reducible repeat (first | apply Kd.S_alloc | apply Kd.S_drewN | apply Kd.S_drew)); exact HO_269005.out) hb); replace HO_292002 := Aside0.mk (Kd.R_below (rU HO_292002.out) hb); replace HO_292003 := Aside0.mk (Kd.S_below (by (with_reducible repeat (first | apply Kd.S_alloc | apply Kd.S_drewN | apply Kd.S_drew)); exact HO_292003.out) hb); replace HO_292004 := Aside0.mk (Kd.S_below (by (with_reducible repeat (first | apply Kd.S_alloc | apply Kd.S_drewN | apply Kd.S_drew)); exact HO_292004.out) hb); replace HO_292005 := Aside0.mk (Kd.S_below (by (with_reducible repeat (first | apply Kd.S_alloc | apply Kd.S_drewN | apply Kd.S_drew)); exact HO_292005.out) hb); replace BK252 := bB (bV BK252) hb; replace BK268 := bB (bV BK268) hb; replace BK291 := bB (bV BK291) hb; replace HB := bH (lV3 GE252 GE268 GE291) hb; (try clear hb)))
           go_ret
           exact ⟨eE, (by first | exact below_step HB00.out (lV3 GE252 GE268 GE291) | exact (lV3 GE252 GE268 GE291))⟩
          ·rw [if_neg c83] at H
           have c83b0 : (t293 == t270) = false := beq_eq_false_iff_ne.mpr c83
           have c83b1 : (t293 != t270) = true := bne_iff_ne.mpr c83
           obtain rfl := Option.some.inj H
           have hnb88 := NB268_252.out
           have hnc88 := NB252_268.out
           have hnb89 := NB268_291.out
           have hnc89 := NB291_268.out
           have hcz90_0 := cz BK268 0 (.int .i64 t253)
           have hcz90_1 := cz BK268 1 (.int .i64 t254)
           have hcz90_2 := cz BK268 2 (.slice Ao14 t271.length co14)
           have hcz90_3 := cz BK268 3 (.slice Ao15 t272.length co15)
           have hcz90_4 := cz BK268 4 (.slice Ao16 t273.length co16)
           have hcz90_5 := cz BK268 5 (.slice Ao17 t274.length co17)
           have hfz90_0 := fz BK268 0
           have hfz90_1 := fz BK268 1
           have hfz90_2 := fz BK268 2
           have hfz90_3 := fz BK268 3
           have hfz90_4 := fz BK268 4
           have hfz90_5 := fz BK268 5
           go_wp2_with (first | ((with_reducible refine gate_callee (f := 27) rfl ?_); refine goesL_ (some 62) rfl rfl Try.func27 (by kernel_rfl) rfl #[.agg #[.int .i64 t253, .int .i64 t254, .slice Ao14 t271.length co14, .slice Ao15 t272.length co15, .slice Ao16 t273.length co16, .slice Ao17 t274.length co17], .int .i64 1] rfl aE ?_; (with_reducible refine (laws_heldPeer.calls kj42 t253 t254 _ _ t271 _ _ t272 _ _ t273 _ _ t274 1 t293 _ ?side1 ?side2 ?side3 ?side4 ?side5 ?side6 ?side7 ?side8 A77.out).mono ?_); (case side1 => exact cU (Kd.R_reads' HO_269002.out).2.2); (case side2 => exact (Kd.R_reads' HO_269002.out).2.1); (case side3 => exact cU (Kd.S_reads' HO_269003.out).2.2); (case side4 => exact (Kd.S_reads' HO_269003.out).2.1); (case side5 => exact cU (Kd.S_reads' HO_269004.out).2.2); (case side6 => exact (Kd.S_reads' HO_269004.out).2.1); (case side7 => exact cU (Kd.S_reads' HO_269005.out).2.2); (case side8 => exact (Kd.S_reads' HO_269005.out).2.1); rintro e w91 ⟨rfl, hb⟩; refine ⟨_, rfl, ?_⟩; replace HO_269002 := Aside0.mk (Kd.R_below (rU HO_269002.out) hb); replace HO_269003 := Aside0.mk (Kd.S_below (by (with_reducible repeat (first | apply Kd.S_alloc | apply Kd.S_drewN | apply Kd.S_drew)); exact HO_269003.out) hb); replace HO_269004 := Aside0.mk (Kd.S_below (by (with_reducible repeat (first | apply Kd.S_alloc | apply Kd.S_drewN | apply Kd.S_drew)); exact HO_269004.out) hb); replace HO_269005 := Aside0.mk (Kd.S_below (by (with_reducible repeat (first | apply Kd.S_alloc | apply Kd.S_drewN | apply Kd.S_drew)); exact HO_269005.out) hb); replace HO_292002 := Aside0.mk (Kd.R_below (rU HO_292002.out) hb); replace HO_292003 := Aside0.mk (Kd.S_below (by (with_reducible repeat (first | apply Kd.S_alloc | apply Kd.S_drewN | apply Kd.S_drew)); exact HO_292003.out) hb); replace HO_292004 := Aside0.mk (Kd.S_below (by (with_reducible repeat (first | apply Kd.S_alloc | apply Kd.S_drewN | apply Kd.S_drew)); exact HO_292004.out) hb); replace HO_292005 := Aside0.mk (Kd.S_below (by (with_reducible repeat (first | apply Kd.S_alloc | apply Kd.S_drewN | apply Kd.S_drew)); exact HO_292005.out) hb); replace BK252 := bB (bV BK252) hb; replace BK268 := bB (bV BK268) hb; replace BK291 := bB (bV BK291) hb; replace HB := bH (lV3 GE252 GE268 GE291) hb; (try clear hb)))
           go_ret
           exact ⟨eE, (by first | exact below_step HB00.out (lV3 GE252 GE268 GE291) | exact (lV3 GE252 GE268 GE291))⟩
     ·rw [if_neg c41] at H
      have c41b0 : (t275 == t270) = false := beq_eq_false_iff_ne.mpr c41
      have c41b1 : (t275 != t270) = true := bne_iff_ne.mpr c41
      obtain rfl := Option.some.inj H
      have hnb92 := NB268_252.out
      have hnc92 := NB252_268.out
      have hcz93_0 := cz BK268 0 (.int .i64 t253)
      have hcz93_1 := cz BK268 1 (.int .i64 t254)
      have hcz93_2 := cz BK268 2 (.slice Ao14 t255.length co14)
      have hcz93_3 := cz BK268 3 (.slice Ao15 t258.length co15)
      have hcz93_4 := cz BK268 4 (.slice Ao16 t261.length co16)
      have hcz93_5 := cz BK268 5 (.slice Ao17 t264.length co17)
      have hfz93_0 := fz BK268 0
      have hfz93_1 := fz BK268 1
      have hfz93_2 := fz BK268 2
      have hfz93_3 := fz BK268 3
      have hfz93_4 := fz BK268 4
      have hfz93_5 := fz BK268 5
      obtain ⟨PS94, hPS94, HPS94⟩ : ∃ PS_ : Nat → Prop, (∀ k_, PS_ k_ → (True) ∧ w.heap.size ≤ k_ ∧ k_ < wc.heap.size ∧ ∃ q_, q_ ∈ 86 :: ((Kd.slice 3 (Kd.int .i64))).E ∧ ∃ cells_, wc.heap[k_]? = some (.cells cells_ q_ (0, 0))) ∧ Kd.S (Kd.slice 3 (Kd.int .i64)) 86 wc w.heap.size PS_ (.slice Ao15 t258.length co15) t258 := ⟨_, fun _ h_ => h_, Kd.S_bound HO_269003.out⟩
      obtain ⟨PS95, hPS95, HPS95⟩ : ∃ PS_ : Nat → Prop, (∀ k_, PS_ k_ → (True) ∧ w.heap.size ≤ k_ ∧ k_ < wc.heap.size ∧ ∃ q_, q_ ∈ 87 :: ((Kd.slice 4 Kd.bool)).E ∧ ∃ cells_, wc.heap[k_]? = some (.cells cells_ q_ (0, 0))) ∧ Kd.S (Kd.slice 4 Kd.bool) 87 wc w.heap.size PS_ (.slice Ao16 t261.length co16) t261 := ⟨_, fun _ h_ => h_, Kd.S_bound HO_269004.out⟩
      obtain ⟨PS96, hPS96, HPS96⟩ : ∃ PS_ : Nat → Prop, (∀ k_, PS_ k_ → (some k_ ≠ (.slice Ao14 t255.length co14 : Value).ownBlock) ∧ w.heap.size ≤ k_ ∧ k_ < wc.heap.size ∧ ∃ q_, q_ ∈ 48 :: (k48).E ∧ ∃ cells_, wc.heap[k_]? = some (.cells cells_ q_ (0, 0))) ∧ Kd.S k48 48 wc w.heap.size PS_ (.slice Ao17 t264.length co17) t264 := ⟨_, fun _ h_ => h_, Kd.S_bound HO_269005.out⟩
      go_wp2_with (first | ((with_reducible refine gate_callee (f := 26) rfl ?_); refine goesL_ (some 36) rfl rfl Try.func26 (by kernel_rfl) rfl #[.agg #[.int .i64 t253, .int .i64 t254, .slice Ao14 t255.length co14, .slice Ao15 t258.length co15, .slice Ao16 t261.length co16, .slice Ao17 t264.length co17], .int .i64 1] rfl aE ?_; (with_reducible refine (laws_markPeer.calls kj4 t253 t254 (fun k_ => some k_ = (.slice Ao14 t255.length co14 : Value).ownBlock) (.slice Ao14 t255.length co14) t255 PS94 (.slice Ao15 t258.length co15) t258 PS95 (.slice Ao16 t261.length co16) t261 PS96 (.slice Ao17 t264.length co17) t264 1 t270 t271 t272 t273 t274 w _ ?side1 ?side2 ?side3 ?side4 ?side5 ?side6 ?side7 A30.out).mono ?_); (case side1 => repeat (first | (with_reducible first | exact HB.out | apply below_alloc | apply pw_below_drewN | apply below_drew1 | refine below_set ?_ GE252.out | refine below_set ?_ GE268.out) | exact HB.out)); (case side2 => exact Kd.R_tight rfl HO_269002.out); (case side3 => exact fun k_ e_ h_ => ((hPS96 k_ h_).1) e_); (case side4 => exact HPS94); (case side5 => exact HPS95); (case side6 => exact HPS96); (case side7 => exact fun k_ h_ e_ => ((hPS96 k_ h_).1) e_); rintro e w97 ⟨rfl, hy0, hy1, hy2, hy3, hb, hkp⟩; refine ⟨_, rfl, ?_⟩; replace HO_269003 := Aside0.mk (Kd.S_mono (ok' := fun k_ => True) hy1 (fun _ _ => trivial)); replace HO_269004 := Aside0.mk (Kd.S_mono (ok' := fun k_ => True) hy2 (fun _ _ => trivial)); replace HO_269005 := Aside0.mk (Kd.S_mono (ok' := fun k_ => True) hy3 (fun _ _ => trivial)); replace BK252 := Aside0.mk (blk_kept (bV BK252) hkp (fun hs_ => Or.elim hs_ (fun e_ => (fun e_ => (Kd.R_ne HO_269002.out BK252.out (by decide)) e_) e_) (fun e_ => Or.elim e_ (fun e_ => (fun e_ => blk_notP BK252.out (fun k_ h_ => (hPS94 k_ h_).2.2.2) (by decide) e_) e_) (fun e_ => Or.elim e_ (fun e_ => (fun e_ => blk_notP BK252.out (fun k_ h_ => (hPS95 k_ h_).2.2.2) (by decide) e_) e_) (fun e_ => (fun e_ => blk_notP BK252.out (fun k_ h_ => (hPS96 k_ h_).2.2.2) (by decide) e_) e_))))); replace BK268 := Aside0.mk (blk_kept (bV BK268) hkp (fun hs_ => Or.elim hs_ (fun e_ => (fun e_ => (Kd.R_ne HO_269002.out BK268.out (by decide)) e_) e_) (fun e_ => Or.elim e_ (fun e_ => (fun e_ => blk_notP BK268.out (fun k_ h_ => (hPS94 k_ h_).2.2.2) (by decide) e_) e_) (fun e_ => Or.elim e_ (fun e_ => (fun e_ => blk_notP BK268.out (fun k_ h_ => (hPS95 k_ h_).2.2.2) (by decide) e_) e_) (fun e_ => (fun e_ => blk_notP BK268.out (fun k_ h_ => (hPS96 k_ h_).2.2.2) (by decide) e_) e_))))); replace HO_269002 := Aside0.mk (Kd.R_reok rfl hy0 (fun k_ e_ => HO_269002.out.1 k_ e_)); replace HB := Aside0.mk hb; (try clear hb); (try clear hkp); (try clear hg_); (try clear hp_); (try clear hy0); (try clear hy1); (try clear hy2); (try clear hy3); have hcz98_0 := cz BK268 0 (.int .i64 t253); have hcz98_1 := cz BK268 1 (.int .i64 t254); have hcz98_2 := cz BK268 2 (.slice Ao14 t255.length co14); have hcz98_3 := cz BK268 3 (.slice Ao15 t258.length co15); have hcz98_4 := cz BK268 4 (.slice Ao16 t261.length co16); have hcz98_5 := cz BK268 5 (.slice Ao17 t264.length co17); have hfz98_0 := fz BK268 0; have hfz98_1 := fz BK268 1; have hfz98_2 := fz BK268 2; have hfz98_3 := fz BK268 3; have hfz98_4 := fz BK268 4; have hfz98_5 := fz BK268 5) | ((with_reducible refine gate_callee (f := 27) rfl ?_); refine goesL_ (some 39) rfl rfl Try.func27 (by kernel_rfl) rfl #[.agg #[.int .i64 t253, .int .i64 t254, .slice Ao14 t271.length co14, .slice Ao15 t272.length co15, .slice Ao16 t273.length co16, .slice Ao17 t274.length co17], .int .i64 1] rfl (by (try simp only [List.map_toArray, List.map_cons, List.map_nil]); first | done | (rw [show t271.length = t255.length from (Kd.R_reads' HO_269002.out).1.symm, show t272.length = t258.length from (Kd.S_reads' HO_269003.out).1.symm, show t273.length = t261.length from (Kd.S_reads' HO_269004.out).1.symm, show t274.length = t264.length from (Kd.S_reads' HO_269005.out).1.symm] <;> rfl) | rfl | (simp only [List.length_drop, List.length_take]; rfl)) ?_; (with_reducible refine (laws_heldPeer.calls kj4 t253 t254 _ _ t271 _ _ t272 _ _ t273 _ _ t274 1 t275 _ ?side1 ?side2 ?side3 ?side4 ?side5 ?side6 ?side7 ?side8 A31.out).mono ?_); (case side1 => exact cU (Kd.R_reads' HO_269002.out).2.2); (case side2 => rw [show t271.length = t255.length from (Kd.R_reads' HO_269002.out).1.symm]; exact (Kd.R_reads' HO_269002.out).2.1); (case side3 => exact cU (Kd.S_reads' HO_269003.out).2.2); (case side4 => rw [show t272.length = t258.length from (Kd.S_reads' HO_269003.out).1.symm]; exact (Kd.S_reads' HO_269003.out).2.1); (case side5 => exact cU (Kd.S_reads' HO_269004.out).2.2); (case side6 => rw [show t273.length = t261.length from (Kd.S_reads' HO_269004.out).1.symm]; exact (Kd.S_reads' HO_269004.out).2.1); (case side7 => exact cU (Kd.S_reads' HO_269005.out).2.2); (case side8 => rw [show t274.length = t264.length from (Kd.S_reads' HO_269005.out).1.symm]; exact (Kd.S_reads' HO_269005.out).2.1); rintro e w99 ⟨rfl, hb⟩; refine ⟨_, rfl, ?_⟩; replace HO_269002 := Aside0.mk (Kd.R_below (rU HO_269002.out) hb); replace HO_269003 := Aside0.mk (Kd.S_below (by (with_reducible repeat (first | apply Kd.S_alloc | apply Kd.S_drewN | apply Kd.S_drew)); exact HO_269003.out) hb); replace HO_269004 := Aside0.mk (Kd.S_below (by (with_reducible repeat (first | apply Kd.S_alloc | apply Kd.S_drewN | apply Kd.S_drew)); exact HO_269004.out) hb); replace HO_269005 := Aside0.mk (Kd.S_below (by (with_reducible repeat (first | apply Kd.S_alloc | apply Kd.S_drewN | apply Kd.S_drew)); exact HO_269005.out) hb); replace BK252 := bB (bV BK252) hb; replace BK268 := bB (bV BK268) hb; replace HB := bH (lV2 GE252 GE268) hb; (try clear hb)))
      go_ret
      exact ⟨eE, (by first | exact below_step HB00.out (lV2 GE252 GE268) | exact (lV2 GE252 GE268))⟩
def laws_FnExactNewPeer.Pure : Prop := ∀ (a0 : Int) (a1 : Int), (Lit.int .i64 a0).wf = true → (Lit.int .i64 a1).wf = true → ∃ k, laws_FnExactNewPeer.f k a0 a1 = some true
end Go.Proofs.Ytifejplilaefiaa.PFnExactNewPeer
namespace Go.Proofs.YtifejplilaefiaaO
open Go.ChangeShapes Go.WideShapes Go.Proofs.YtifejplilaefiaaW.PrintWords Go.RowKit
def In64 (n : Int) : Prop := -9223372036854775808 ≤ n ∧ n ≤ 9223372036854775807
def Opens {α : Type} (P : Program) (t : TypeId) (d : Kd α) (g : α → Prop) : Prop :=
  ∀ {H : Type} (enc : TypeId × Value → H) (w : World) (fuel : Nat) (cs : List Value) (y : DataW H) (ps : List MemPlace),
    DataW.trod enc P w 0 (fun _ => true) true fuel t cs = some (y, ps) → (∀ n ∈ y.weights P t, n ≤ reachBytes) → ∃ x, d.K w x cs ∧ g x
theorem Opens.imp {α : Type} {P : Program} {t : TypeId} {d : Kd α} {g g' : α → Prop} (h : Opens P t d g) (k : ∀ x, g x → g' x) : Opens P t d g' := by
  intro H enc w fuel cs y ps ht hw
  obtain ⟨x, hx, hg⟩ := h enc w fuel cs y ps ht hw
  exact ⟨x, hx, k x hg⟩
theorem wf_i64 {n : Int} (h : (Lit.int .i64 n).wf = true) : In64 n := bounds_i64 h
theorem weights_of {H : Type} {P : Program} {ts : List TypeId} {ds : List (DataW H)} {j : Nat} {t : TypeId} {d : DataW H} (hsz : (DataW.weightsEach P ts ds).all (· ≤ reachBytes) = true) (ht : ts[j]? = some t) (hd : ds[j]? = some d) : ∀ n ∈ d.weights P t, n ≤ reachBytes := by
  intro n hn
  have := List.all_eq_true.1 hsz n (DataW.weights_mem_each ht hd n hn)
  simpa using this
end Go.Proofs.YtifejplilaefiaaO
namespace Go.Proofs.Ytifejplilaefiaa.OFnExactNewPeer
open Go.RowKit Go.Proofs.Ytifejplilaefiaa.PFnExactNewPeer Go.Proofs.YtifejplilaefiaaW.PrintWords Go.Proofs.YtifejplilaefiaaO
end Go.Proofs.Ytifejplilaefiaa.OFnExactNewPeer
namespace Go.Proofs.YtifejplilaefiaaO
open Go.RowKit Go.Proofs.YtifejplilaefiaaW.PrintWords Go.Proofs.YtifejplilaefiaaW.PrintLast Go.Proofs.YtifejplilaefiaaW.PrintMore
theorem w64 {n : Int} (h : -9223372036854775808 ≤ n) (k : n ≤ 9223372036854775807) : wrap64 n = n := by unfold wrap64; omega
theorem w64s (i : Nat) (h : i < 4611686018427387904) : wrap64 ((i : Int) + 1) = ((i + 1 : Nat) : Int) := by unfold wrap64; omega
theorem ev_eq {α : Type} {x : Option α} {r : α} (h : x = some r) : Ev (fun _ => x) r := ⟨0, fun _ _ => h⟩
theorem ev_some {α : Type} {x r : α} (h : x = r) : Ev (fun _ => some x) r := ⟨0, fun _ _ => by rw [h]⟩
theorem ev_pos {α : Type} {c : Prop} [Decidable c] {f g : Nat → Option α} {r : α} (h : c) (k : Ev f r) : Ev (fun n => if c then f n else g n) r := by
  obtain ⟨K, hK⟩ := k
  exact ⟨K, fun n hn => (if_pos h).trans (hK n hn)⟩
theorem ev_neg {α : Type} {c : Prop} [Decidable c] {f g : Nat → Option α} {r : α} (h : ¬ c) (k : Ev g r) : Ev (fun n => if c then f n else g n) r := by
  obtain ⟨K, hK⟩ := k
  exact ⟨K, fun n hn => (if_neg h).trans (hK n hn)⟩
theorem ev_bindc {α β : Type} {x : Option α} {f : Nat → α → Option β} {a : α} {r : β} (h : x = some a) (k : Ev (fun n => f n a) r) : Ev (fun n => x.bind (f n)) r := by
  subst h; exact k
theorem ev_for {σ ρ : Type} (n : Nat) (L : Nat → Nat → σ → Option ρ) (I : Nat → σ → Prop) (Q : ρ → Prop)
    (hend : ∀ s, I n s → ∃ r, Ev (fun k => L k n s) r ∧ Q r)
    (hstep : ∀ i s, i < n → I i s → (∃ r, Ev (fun k => L k i s) r ∧ Q r) ∨ ∃ s', I (i + 1) s' ∧ ∀ r, Ev (fun k => L k (i + 1) s') r → Ev (fun k => L k i s) r) :
    ∀ i s, i ≤ n → I i s → ∃ r, Ev (fun k => L k i s) r ∧ Q r := by
  have key : ∀ d i s, i + d = n → I i s → ∃ r, Ev (fun k => L k i s) r ∧ Q r := by
    intro d
    induction d with
    | zero => intro i s hi h; obtain rfl : i = n := by omega
              exact hend s h
    | succ d ih =>
      intro i s hi h
      rcases hstep i s (by omega) h with h' | ⟨s', hI, hr⟩
      · exact h'
      · obtain ⟨r, hr', hQ⟩ := ih (i + 1) s' (by omega) hI
        exact ⟨r, hr r hr', hQ⟩
  intro i s hi h
  exact key (n - i) i s (by omega) h
theorem ev_for1 {σ ρ : Type} (n : Nat) (L : Nat → Nat → σ → Option ρ) (I : Nat → σ → Prop) (a : ρ)
    (hend : ∀ s, I n s → Ev (fun k => L k n s) a)
    (hstep : ∀ i s, i < n → I i s → Ev (fun k => L k i s) a ∨ ∃ s', I (i + 1) s' ∧ ∀ r, Ev (fun k => L k (i + 1) s') r → Ev (fun k => L k i s) r) :
    ∀ i s, i ≤ n → I i s → Ev (fun k => L k i s) a := by
  intro i s hi h
  obtain ⟨r, hr, rfl⟩ := ev_for n L I (fun r => r = a) (fun s hs => ⟨a, hend s hs, rfl⟩) (fun i s hi hs => (hstep i s hi hs).imp (fun h => ⟨a, h, rfl⟩) id) i s hi h
  exact hr
theorem rd_get {xs : List Int} {i : Nat} (h : i < xs.length) : rd xs (i : Int) = xs[i] := by simp [rd, List.getD_eq_getElem?_getD, h]
theorem rdOf_get {α : Type} {d : α} {xs : List α} {i : Nat} (h : i < xs.length) : rdOf d xs (i : Int) = xs[i] := by simp [rdOf, List.getD_eq_getElem?_getD, h]
theorem getD_get {α : Type} {d : α} {xs : List α} {i : Nat} (h : i < xs.length) : xs.getD (i : Int).toNat d = xs[i] := by simp [List.getD_eq_getElem?_getD, h]
theorem ev_alike {α β : Type} (L : Nat → List α → List β → Int → Option Bool) (e : Nat → List α → List β → Int → Option Bool) (g : α → β → Bool)
    (hL : ∀ k xs ys i, L (k + 1) xs ys i = if i < (xs.length : Int) then (if 0 ≤ i then (if i < (ys.length : Int) then ((e k xs ys i).bind fun v => if v = true then L k xs ys (wrap64 (i + 1)) else some false) else none) else none) else some true)
    (xs : List α) (ys : List β) (hx : xs.length < 4611686018427387904) (hy : ys.length = xs.length) (he : ∀ i : Nat, ∀ (h : i < xs.length) (h' : i < ys.length), Ev (fun k => e k xs ys (i : Int)) (g xs[i] ys[i]))
    (b : Bool) (hb : b = true ↔ ∀ i : Nat, ∀ (h : i < xs.length) (h' : i < ys.length), g xs[i] ys[i] = true) :
    Ev (fun k => L k xs ys 0) b := by
  refine ev_for1 xs.length (fun k i (_ : Unit) => L k xs ys (i : Int)) (fun i _ => ∀ j, j < i → ∀ (h : j < xs.length) (h' : j < ys.length), g xs[j] ys[j] = true) b ?_ ?_ 0 () (Nat.zero_le _) (fun j hj => by omega)
  · intro _ h
    refine Ev.step (fun k => hL k xs ys _) (ev_neg (by omega) (ev_some ?_))
    exact (hb.2 fun i hi hi' => h i hi hi hi').symm
  · intro i _ hi h
    have hi' : i < ys.length := by omega
    by_cases hg : g xs[i] ys[i] = true
    · refine .inr ⟨(), fun j hj h1 h2 => ?_, fun r hr => ?_⟩
      · rcases Nat.lt_or_ge j i with hji | hji
        · exact h j hji h1 h2
        · obtain rfl : j = i := by omega
          exact hg
      · refine Ev.step (fun k => hL k xs ys _) (ev_pos (by omega) (ev_pos (by omega) (ev_pos (by omega) (Ev.bind (he i hi hi') (ev_pos hg ?_)))))
        rw [w64s i (by omega)]
        exact hr
    · refine .inl (Ev.step (fun k => hL k xs ys _) (ev_pos (by omega) (ev_pos (by omega) (ev_pos (by omega) (Ev.bind (he i hi hi') (ev_neg hg (ev_some ?_)))))))
      cases b with
      | false => rfl
      | true => exact absurd (hb.1 rfl i hi hi') hg
theorem ev_alike_self {α : Type} (L : Nat → List α → List α → Int → Option Bool) (e : Nat → List α → List α → Int → Option Bool)
    (hL : ∀ k xs ys i, L (k + 1) xs ys i = if i < (xs.length : Int) then (if 0 ≤ i then (if i < (ys.length : Int) then ((e k xs ys i).bind fun v => if v = true then L k xs ys (wrap64 (i + 1)) else some false) else none) else none) else some true)
    (xs : List α) (hx : xs.length < 4611686018427387904) (he : ∀ i : Nat, ∀ (_ : i < xs.length), Ev (fun k => e k xs xs (i : Int)) true) :
    Ev (fun k => L k xs xs 0) true :=
  ev_alike L e (fun _ _ => true) hL xs xs hx rfl (fun i h _ => he i h) true ⟨fun _ _ _ _ => rfl, fun _ => rfl⟩
def Chain {α : Type} (E : α → Int → Int → Prop) : List α → Int → Int → Prop
  | [], c, d => c = d
  | x :: r, c, d => ∃ m, E x c m ∧ Chain E r m d
theorem Chain.snoc {α : Type} {E : α → Int → Int → Prop} : ∀ {l : List α} {c m d : Int} {x : α}, Chain E l c m → E x m d → Chain E (l ++ [x]) c d
  | [], _, _, _, _, h, k => by cases h; exact ⟨_, k, rfl⟩
  | _ :: _, _, _, _, _, ⟨q, h1, h2⟩, k => ⟨q, h1, Chain.snoc h2 k⟩
theorem Chain.le {α : Type} {E : α → Int → Int → Prop} (hm : ∀ x c d, E x c d → c ≤ d) : ∀ {l : List α} {c d : Int}, Chain E l c d → c ≤ d
  | [], _, _, h => Int.le_of_eq h
  | _ :: _, _, _, ⟨_, h1, h2⟩ => Int.le_trans (hm _ _ _ h1) (Chain.le hm h2)
theorem ev_mark {α : Type} (L : Nat → List α → Int → Nat → Option (Int × List α)) (E : α → Int → Int → Prop) (G : α → Prop) (W : Int) (hW : 0 ≤ W) (hW' : W ≤ 1099511627776)
    (hend : ∀ zs c, Ev (fun k => L k zs c zs.length) (c, zs))
    (hstep : ∀ zs c i, ∀ hi : i < zs.length, i < 1048576 → G zs[i] → 0 ≤ c → c ≤ 2305843009213693952 → ∃ x' c', E x' c c' ∧ c ≤ c' ∧ c' ≤ c + W ∧ ∀ r, Ev (fun k => L k (zs.set i x') c' (i + 1)) r → Ev (fun k => L k zs c i) r)
    (xs : List α) (hG : ∀ x ∈ xs, G x) (hl : xs.length ≤ 1048576) (c : Int) (hc0 : 0 ≤ c) (hc1 : c ≤ 1152921504606846976) :
    ∃ ys d, Chain E ys c d ∧ c ≤ d ∧ d ≤ c + W * xs.length ∧ ys.length = xs.length ∧ Ev (fun k => L k xs c 0) (d, ys) := by
  have key : ∀ n i : Nat, ∀ zs : List α, ∀ m : Int, i + n = xs.length → zs.length = xs.length → zs.drop i = xs.drop i → Chain E (zs.take i) c m → c ≤ m → m ≤ c + W * i →
      ∃ ys d, Chain E ys c d ∧ c ≤ d ∧ d ≤ c + W * xs.length ∧ ys.length = xs.length ∧ Ev (fun k => L k zs m i) (d, ys) := by
    intro n
    induction n with
    | zero =>
      intro i zs m hi hz hd hch h1 h2
      obtain rfl : i = zs.length := by omega
      rw [List.take_length] at hch
      rw [← hz]
      exact ⟨zs, m, hch, h1, h2, rfl, hend zs m⟩
    | succ n ih =>
      intro i zs m hi hz hd hch h1 h2
      have hlt : i < zs.length := by omega
      have hx : i < xs.length := by omega
      have hget : zs[i] = xs[i] := by
        have e1 := List.drop_eq_getElem_cons hlt
        have e2 := List.drop_eq_getElem_cons hx
        rw [hd, e2] at e1
        exact (List.cons.inj e1).1.symm
      have hWi : W * (i : Int) ≤ 1099511627776 * 1048576 := Int.mul_le_mul hW' (by omega) (by omega) (by omega)
      obtain ⟨x', c', hE, hc, hcW, hr⟩ := hstep zs m i hlt (by omega) (by rw [hget]; exact hG _ (List.getElem_mem hx)) (by omega) (by omega)
      obtain ⟨ys, d, g1, g2, g3, g4, g5⟩ := ih (i + 1) (zs.set i x') c' (by omega) (by simpa using hz) (by
          rw [List.drop_set_of_lt (by omega)]
          have e1 := List.drop_eq_getElem_cons hlt
          have e2 := List.drop_eq_getElem_cons hx
          rw [hd, e2] at e1
          exact (List.cons.inj e1).2.symm) (by
          rw [List.take_succ_eq_append_getElem (by simpa using hlt), List.take_set_of_le (Nat.le_refl i), List.getElem_set_self]
          exact Chain.snoc hch hE) (by omega) (by
          have : W * ((i + 1 : Nat) : Int) = W * i + W := by rw [Int.natCast_add, Int.mul_add]; simp
          omega)
      exact ⟨ys, d, g1, g2, g3, g4, hr _ g5⟩
  have := key xs.length 0 xs c (by omega) rfl rfl (by simp [Chain]) (Int.le_refl _) (by simp)
  exact this
theorem ev_held {α : Type} (H : Nat → List α → Int → Nat → Option Int) (E : α → Int → Int → Prop) (hm : ∀ x c d, E x c d → c ≤ d)
    (hend : ∀ ys c, Ev (fun k => H k ys c ys.length) c)
    (hstep : ∀ ys c c' i, ∀ hi : i < ys.length, i < 1048576 → E ys[i] c c' → 0 ≤ c → c' ≤ 2305843009213693952 → ∀ r, Ev (fun k => H k ys c' (i + 1)) r → Ev (fun k => H k ys c i) r)
    (ys : List α) (hl : ys.length ≤ 1048576) (c d : Int) (hc0 : 0 ≤ c) (hd : d ≤ 2305843009213693952) (h : Chain E ys c d) : Ev (fun k => H k ys c 0) d := by
  have key : ∀ n i : Nat, ∀ m : Int, i + n = ys.length → 0 ≤ m → Chain E (ys.drop i) m d → Ev (fun k => H k ys m i) d := by
    intro n
    induction n with
    | zero =>
      intro i m hi h0 hch
      obtain rfl : i = ys.length := by omega
      rw [List.drop_length] at hch
      obtain rfl : m = d := hch
      exact hend ys m
    | succ n ih =>
      intro i m hi h0 hch
      have hlt : i < ys.length := by omega
      rw [List.drop_eq_getElem_cons hlt] at hch
      obtain ⟨m', hE, hch⟩ := hch
      have h1 := hm _ _ _ hE
      exact hstep ys m m' i hlt (by omega) hE h0 (by have := Chain.le hm hch; omega) d (ih (i + 1) m' (by omega) (by omega) hch)
  exact key ys.length 0 c (by omega) hc0 h
end Go.Proofs.YtifejplilaefiaaO
namespace Go.Proofs.Ytifejplilaefiaa.Pure
open Go.RowKit Go.Proofs.Ytifejplilaefiaa.PFnExactNewPeer Go.Proofs.Ytifejplilaefiaa.OFnExactNewPeer Go.Proofs.YtifejplilaefiaaW.PrintWords Go.Proofs.YtifejplilaefiaaW.PrintLast Go.Proofs.YtifejplilaefiaaW.PrintMore Go.Proofs.YtifejplilaefiaaO
set_option linter.unusedVariables false
set_option linter.unusedSimpArgs false
theorem st_spec_StartGame_j0 {r : (Int × Int × (List (S110)) × Bool)} {x0 : Int} {x1 : Int} {x15 : Bool} (h : Ev (fun k => if x15 = true then (some (0, 0, ([] : List (S110)), false)) else (spec_StartGame.l0 k x0 0 0 x1 ([] : List (S110)))) r) : Ev (fun k => spec_StartGame.j0 k x0 x1 x15) r := Ev.step (fun k => by rw [spec_StartGame.j0]) h
theorem st_spec_StartGame_l0 {r : (Int × Int × (List (S110)) × Bool)} {x0 : Int} {x7 : Int} {x106000 : Int} {x106001 : Int} {x106002 : List (S110)} (h : Ev (fun k => if x7 < x0 then (if x106002.length < 5864062014805 then (spec_StartGame.l0 k x0 (wrap64 (x7 + 1)) x106000 x106001 (x106002 ++ [(⟨wrap64 (8 * x7), wrap64 (8 * x7), 9⟩ : S110)])) else (none)) else (some (x106000, x106001, x106002, true))) r) : Ev (fun k => spec_StartGame.l0 k x0 x7 x106000 x106001 x106002) r := Ev.step (fun k => by rw [spec_StartGame.l0]) h
theorem st_spec_NewPeer_l0 {r : (Int × Int × (List (S110)) × (List (List Int)) × (List (List Bool)) × (List (S48)) × Bool)} {x0 : Int} {x9 : Int} {x118000 : Int} {x118001 : Int} {x118002 : List (S110)} {x118003 : List (List Int)} {x118004 : List (List Bool)} (h : Ev (fun k => if x9 < 60 then (if 0 ≤ x0 then (if (x0 : Int).toNat ≤ 35184372088832 then (if x118003.length < 5864062014805 then (if (x0 : Int).toNat ≤ 281474976710656 then (if x118004.length < 5864062014805 then (spec_NewPeer.l0 k x0 (wrap64 (x9 + 1)) x118000 x118001 x118002 (x118003 ++ [(List.replicate (x0 : Int).toNat 0)]) (x118004 ++ [(List.replicate (x0 : Int).toNat false)])) else (none)) else (none)) else (none)) else (none)) else (none)) else (some (x118000, x118001, x118002, x118003, x118004, ([] : List (S48)), true))) r) : Ev (fun k => spec_NewPeer.l0 k x0 x9 x118000 x118001 x118002 x118003 x118004) r := Ev.step (fun k => by rw [spec_NewPeer.l0]) h
theorem st_impl_StartGame_j0 {r : (Int × Int × (List (S110)) × Bool)} {x0 : Int} {x1 : Int} {x15 : Bool} (h : Ev (fun k => if x15 = true then (some (0, 0, ([] : List (S110)), false)) else (impl_StartGame.l0 k x0 0 0 x1 ([] : List (S110)))) r) : Ev (fun k => impl_StartGame.j0 k x0 x1 x15) r := Ev.step (fun k => by rw [impl_StartGame.j0]) h
theorem st_impl_StartGame_l0 {r : (Int × Int × (List (S110)) × Bool)} {x19 : Int} {x20 : Int} {x135000 : Int} {x135001 : Int} {x135002 : List (S110)} (h : Ev (fun k => if x20 < x19 then (if x135002.length < 5864062014805 then (impl_StartGame.l0 k x19 (wrap64 (x20 + 1)) x135000 x135001 (x135002 ++ [(⟨wrap64 (8 * x20), wrap64 (8 * x20), 9⟩ : S110)])) else (none)) else (some (x135000, x135001, x135002, true))) r) : Ev (fun k => impl_StartGame.l0 k x19 x20 x135000 x135001 x135002) r := Ev.step (fun k => by rw [impl_StartGame.l0]) h
theorem st_impl_NewPeer_l0 {r : (Int × Int × (List (S110)) × (List (List Int)) × (List (List Bool)) × (List (S48)) × Bool)} {x0 : Int} {x20 : Int} {x147000 : Int} {x147001 : Int} {x147002 : List (S110)} {x147003 : List (List Int)} {x147004 : List (List Bool)} (h : Ev (fun k => if x20 < 60 then (if 0 ≤ x0 then (if (x0 : Int).toNat ≤ 35184372088832 then (if x147003.length < 5864062014805 then (if (x0 : Int).toNat ≤ 281474976710656 then (if x147004.length < 5864062014805 then (impl_NewPeer.l0 k x0 (wrap64 (x20 + 1)) x147000 x147001 x147002 (x147003 ++ [(List.replicate (x0 : Int).toNat 0)]) (x147004 ++ [(List.replicate (x0 : Int).toNat false)])) else (none)) else (none)) else (none)) else (none)) else (none)) else (some (x147000, x147001, x147002, x147003, x147004, ([] : List (S48)), true))) r) : Ev (fun k => impl_NewPeer.l0 k x0 x20 x147000 x147001 x147002 x147003 x147004) r := Ev.step (fun k => by rw [impl_NewPeer.l0]) h
theorem st_laws_markIntSS_l0 {r : (Int × (List (List Int)))} {x0 : List (List Int)} {x1 : Int} {x5 : Int} (h : Ev (fun k => if x5 < (x0.length : Int) then (if 0 ≤ x5 then ((laws_markIntS.f k (rd_L2 x0 x5) x1).bind fun bt194 => (laws_markIntSS.l0 k (x0.set (x5 : Int).toNat bt194.2) bt194.1 (wrap64 (x5 + 1)))) else (none)) else (some (x1, x0))) r) : Ev (fun k => laws_markIntSS.l0 k x0 x1 x5) r := Ev.step (fun k => by rw [laws_markIntSS.l0]) h
theorem st_laws_markBoolSS_l0 {r : (Int × (List (List Bool)))} {x0 : List (List Bool)} {x1 : Int} {x5 : Int} (h : Ev (fun k => if x5 < (x0.length : Int) then (if 0 ≤ x5 then ((laws_markBoolS.f k (rd_L4 x0 x5) x1).bind fun bt199 => (laws_markBoolSS.l0 k (x0.set (x5 : Int).toNat bt199.2) bt199.1 (wrap64 (x5 + 1)))) else (none)) else (some (x1, x0))) r) : Ev (fun k => laws_markBoolSS.l0 k x0 x1 x5) r := Ev.step (fun k => by rw [laws_markBoolSS.l0]) h
theorem st_laws_markGameS_l0 {r : (Int × (List (S48)))} {x0 : List (S48)} {x1 : Int} {x5 : Int} (h : Ev (fun k => if x5 < (x0.length : Int) then (if 0 ≤ x5 then ((some (x0.set (x5 : Int).toNat (⟨x1, (rd_T48 x0 x5).f1, (rd_T48 x0 x5).f2⟩ : S48) : List (S48))).bind fun y202 => ((some (y202.set (x5 : Int).toNat (⟨(rd_T48 y202 x5).f0, wrap64 (x1 + 1), (rd_T48 y202 x5).f2⟩ : S48) : List (S48))).bind fun y203 => ((laws_markSeatS.f k ((rd_T48 y203 x5).f2) (wrap64 ((wrap64 (x1 + 1)) + 1))).bind fun bt205 => (laws_markGameS.l0 k (y203.set (x5 : Int).toNat (⟨(rd_T48 y203 x5).f0, (rd_T48 y203 x5).f1, bt205.2⟩ : S48)) bt205.1 (wrap64 (x5 + 1)))))) else (none)) else (some (x1, x0))) r) : Ev (fun k => laws_markGameS.l0 k x0 x1 x5) r := Ev.step (fun k => by rw [laws_markGameS.l0]) h
theorem st_laws_heldIntSS_l0 {r : (Int)} {x0 : List (List Int)} {x1 : Int} {x5 : Int} (h : Ev (fun k => if x5 < (x0.length : Int) then (if 0 ≤ x5 then ((laws_heldIntS.f k (rd_L2 x0 x5) x1).bind fun t224 => (if t224 < 0 then (some (-1)) else (laws_heldIntSS.l0 k x0 t224 (wrap64 (x5 + 1))))) else (none)) else (some x1)) r) : Ev (fun k => laws_heldIntSS.l0 k x0 x1 x5) r := Ev.step (fun k => by rw [laws_heldIntSS.l0]) h
theorem st_laws_heldBoolSS_l0 {r : (Int)} {x0 : List (List Bool)} {x1 : Int} {x5 : Int} (h : Ev (fun k => if x5 < (x0.length : Int) then (if 0 ≤ x5 then ((laws_heldBoolS.f k (rd_L4 x0 x5) x1).bind fun t227 => (if t227 < 0 then (some (-1)) else (laws_heldBoolSS.l0 k x0 t227 (wrap64 (x5 + 1))))) else (none)) else (some x1)) r) : Ev (fun k => laws_heldBoolSS.l0 k x0 x1 x5) r := Ev.step (fun k => by rw [laws_heldBoolSS.l0]) h
theorem st_laws_heldGameS_l0 {r : (Int)} {x0 : List (S48)} {x1 : Int} {x5 : Int} (h : Ev (fun k => if x5 < (x0.length : Int) then (if 0 ≤ x5 then (if ((rd_T48 x0 x5).f0) = x1 then (if ((rd_T48 x0 x5).f1) = (wrap64 (x1 + 1)) then ((laws_heldSeatS.f k ((rd_T48 x0 x5).f2) (wrap64 ((wrap64 (x1 + 1)) + 1))).bind fun t231 => (if t231 < 0 then (some (-1)) else (laws_heldGameS.l0 k x0 t231 (wrap64 (x5 + 1))))) else (some (-1))) else (some (-1))) else (none)) else (some x1)) r) : Ev (fun k => laws_heldGameS.l0 k x0 x1 x5) r := Ev.step (fun k => by rw [laws_heldGameS.l0]) h
theorem st_laws_FnExactNewPeer_j0 {r : (Bool)} {x0 : Int} {x1 : Int} {x6 : Bool} {x33 : Bool} {x253000 : Int} {x253001 : Int} {x253002 : List (S110)} {x253003 : List (List Int)} {x253004 : List (List Bool)} {x253005 : List (S48)} {x269000 : Int} {x269001 : Int} {x269002 : List (S110)} {x269003 : List (List Int)} {x269004 : List (List Bool)} {x269005 : List (S48)} (h : Ev (fun k => if x33 = true then (some false) else ((laws_markPeer.f k x269000 x269001 x269002 x269003 x269004 x269005 1).bind fun bt270 => ((laws_heldPeer.f k x269000 x269001 bt270.2.1 bt270.2.2.1 bt270.2.2.2.1 bt270.2.2.2.2 1).bind fun t275 => (if t275 < 0 then (some false) else (if t275 = bt270.1 then ((impl_NewPeer.f k x0 x1).bind fun bt276 => ((laws_eqPeer.f k bt276.1 bt276.2.1 bt276.2.2.1 bt276.2.2.2.1 bt276.2.2.2.2.1 bt276.2.2.2.2.2.1 x253000 x253001 x253002 x253003 x253004 x253005).bind fun t292 => (if t292 = true then (laws_FnExactNewPeer.j1 k bt270.1 (bt276.2.2.2.2.2.2 != x6) x269000 x269001 bt270.2.1 bt270.2.2.1 bt270.2.2.2.1 bt270.2.2.2.2) else (laws_FnExactNewPeer.j1 k bt270.1 true x269000 x269001 bt270.2.1 bt270.2.2.1 bt270.2.2.2.1 bt270.2.2.2.2)))) else (some false)))))) r) : Ev (fun k => laws_FnExactNewPeer.j0 k x0 x1 x6 x33 x253000 x253001 x253002 x253003 x253004 x253005 x269000 x269001 x269002 x269003 x269004 x269005) r := Ev.step (fun k => by rw [laws_FnExactNewPeer.j0]) h
theorem st_laws_FnExactNewPeer_j1 {r : (Bool)} {x9 : Int} {x59 : Bool} {x269000 : Int} {x269001 : Int} {x269002 : List (S110)} {x269003 : List (List Int)} {x269004 : List (List Bool)} {x269005 : List (S48)} (h : Ev (fun k => if x59 = true then (some false) else ((laws_heldPeer.f k x269000 x269001 x269002 x269003 x269004 x269005 1).bind fun t293 => (if t293 < 0 then (some false) else (if t293 = x9 then (some true) else (some false))))) r) : Ev (fun k => laws_FnExactNewPeer.j1 k x9 x59 x269000 x269001 x269002 x269003 x269004 x269005) r := Ev.step (fun k => by rw [laws_FnExactNewPeer.j1]) h
theorem in_some (a b c : Int) : spec_l1In.f a b c = some (decide (b ≤ a ∧ a ≤ c)) := by
  unfold spec_l1In.f
  split <;> simp_all <;> omega
theorem in_same (a b c : Int) : impl_inRange.f a b c = spec_l1In.f a b c := rfl
theorem eqSeat_self (a0 : Int) (a1 : Int) (a2 : Int) : laws_eqSeat.f a0 a1 a2 a0 a1 a2 = some true := by
  simp [laws_eqSeat.f]
theorem eqSeatS_ev (xs : List S110) (h : xs.length ≤ 1048576) : Ev (fun k => laws_eqSeatS.f k xs xs) true := by
  refine ev_pos rfl (ev_alike_self laws_eqSeatS.l0 (fun k xs ys i => laws_eqSeat.f ((rd_T110 xs i).f0) ((rd_T110 xs i).f1) ((rd_T110 xs i).f2) ((rd_T110 ys i).f0) ((rd_T110 ys i).f1) ((rd_T110 ys i).f2)) (fun _ _ _ _ => rfl) xs (by have := h; omega) (fun i hi => ?_))
  · exact ev_eq (eqSeat_self _ _ _)
def Fit48 (x : S48) : Prop := (x.f2.length ≤ 1048576)
theorem eqGame_ev (a0 : Int) (a1 : Int) (l2 : List S110) (hl2 : l2.length ≤ 1048576) : Ev (fun k => laws_eqGame.f k a0 a1 l2 a0 a1 l2) true := by
  unfold laws_eqGame.f
  repeat (first | exact ev_some rfl | refine Ev.bind (eqSeatS_ev l2 hl2) ?_ | refine ev_pos rfl ?_ | refine ev_neg (by simp) ?_)
theorem eqIntS_ev (xs : List Int) (h : xs.length ≤ 1048576) : Ev (fun k => laws_eqIntS.f k xs xs) true := by
  refine ev_pos rfl ?_
  refine ev_for1 xs.length (fun k i (_ : Unit) => laws_eqIntS.l0 k xs xs (i : Int)) (fun _ _ => True) true ?_ ?_ 0 () (Nat.zero_le _) trivial
  · intro _ _
    exact Ev.step (fun _ => rfl) (ev_neg (by omega) (ev_some rfl))
  · intro i _ hi _
    refine .inr ⟨(), trivial, fun r hr => Ev.step (fun _ => rfl) (ev_pos (by omega) (ev_pos (by omega) (ev_pos (by omega) ?_)))⟩
    rw [w64s i (by have := h; omega)]
    exact ev_pos rfl hr
theorem eqIntSS_ev (xs : List (List Int)) (h : (xs.length ≤ 1048576 ∧ ∀ y ∈ xs, y.length ≤ 1048576)) : Ev (fun k => laws_eqIntSS.f k xs xs) true := by
  refine ev_pos rfl (ev_alike_self laws_eqIntSS.l0 (fun k xs ys i => laws_eqIntS.f k (rd_L2 xs i) (rd_L2 ys i)) (fun _ _ _ _ => rfl) xs (by have := h.1; omega) (fun i hi => ?_))
  · have e : rd_L2 xs (i : Int) = xs[i] := getD_get hi
    rw [e]
    obtain hf0 := h.2 _ (List.getElem_mem hi)
    exact eqIntS_ev _ hf0
theorem eqBoolS_ev (xs : List Bool) (h : xs.length ≤ 1048576) : Ev (fun k => laws_eqBoolS.f k xs xs) true := by
  refine ev_pos rfl ?_
  refine ev_for1 xs.length (fun k i (_ : Unit) => laws_eqBoolS.l0 k xs xs (i : Int)) (fun _ _ => True) true ?_ ?_ 0 () (Nat.zero_le _) trivial
  · intro _ _
    exact Ev.step (fun _ => rfl) (ev_neg (by omega) (ev_some rfl))
  · intro i _ hi _
    refine .inr ⟨(), trivial, fun r hr => Ev.step (fun _ => rfl) (ev_pos (by omega) (ev_pos (by omega) (ev_pos (by omega) ?_)))⟩
    rw [w64s i (by have := h; omega)]
    exact ev_neg (by simp) hr
theorem eqBoolSS_ev (xs : List (List Bool)) (h : (xs.length ≤ 1048576 ∧ ∀ y ∈ xs, y.length ≤ 1048576)) : Ev (fun k => laws_eqBoolSS.f k xs xs) true := by
  refine ev_pos rfl (ev_alike_self laws_eqBoolSS.l0 (fun k xs ys i => laws_eqBoolS.f k (rd_L4 xs i) (rd_L4 ys i)) (fun _ _ _ _ => rfl) xs (by have := h.1; omega) (fun i hi => ?_))
  · have e : rd_L4 xs (i : Int) = xs[i] := getD_get hi
    rw [e]
    obtain hf0 := h.2 _ (List.getElem_mem hi)
    exact eqBoolS_ev _ hf0
theorem eqGameS_ev (xs : List S48) (h : (xs.length ≤ 1048576 ∧ ∀ y ∈ xs, Fit48 y)) : Ev (fun k => laws_eqGameS.f k xs xs) true := by
  refine ev_pos rfl (ev_alike_self laws_eqGameS.l0 (fun k xs ys i => laws_eqGame.f k ((rd_T48 xs i).f0) ((rd_T48 xs i).f1) ((rd_T48 xs i).f2) ((rd_T48 ys i).f0) ((rd_T48 ys i).f1) ((rd_T48 ys i).f2)) (fun _ _ _ _ => rfl) xs (by have := h.1; omega) (fun i hi => ?_))
  · have e : rd_T48 xs (i : Int) = xs[i] := getD_get hi
    rw [e]
    obtain hf0 := h.2 _ (List.getElem_mem hi)
    exact eqGame_ev _ _ _ hf0
theorem eqPeer_ev (a0 : Int) (a1 : Int) (l2 : List S110) (l3 : List (List Int)) (l4 : List (List Bool)) (l5 : List S48) (hl2 : l2.length ≤ 1048576) (hl3 : (l3.length ≤ 1048576 ∧ ∀ y ∈ l3, y.length ≤ 1048576)) (hl4 : (l4.length ≤ 1048576 ∧ ∀ y ∈ l4, y.length ≤ 1048576)) (hl5 : (l5.length ≤ 1048576 ∧ ∀ y ∈ l5, Fit48 y)) : Ev (fun k => laws_eqPeer.f k a0 a1 l2 l3 l4 l5 a0 a1 l2 l3 l4 l5) true := by
  unfold laws_eqPeer.f
  repeat (first | exact ev_some rfl | refine Ev.bind (eqSeatS_ev l2 hl2) ?_ | refine Ev.bind (eqIntSS_ev l3 hl3) ?_ | refine Ev.bind (eqBoolSS_ev l4 hl4) ?_ | refine Ev.bind (eqGameS_ev l5 hl5) ?_ | refine Ev.bind (eqGame_ev _ _ _ (by assumption)) ?_ | refine ev_pos rfl ?_ | refine ev_neg (by simp) ?_)
def MarkSeatS (x : S110) (c d : Int) : Prop := x = (⟨c, c + 1, c + 1 + 1⟩ : S110) ∧ d = c + 1 + 1 + 1
theorem rd_set110 {xs : List S110} {i : Nat} (h : i < xs.length) (v : S110) : rd_T110 (xs.set i v) (i : Int) = v := by
  unfold rd_T110
  rw [getD_get (by simpa using h), List.getElem_set_self]
theorem markSeatS_ev (xs : List S110) (hl : xs.length ≤ 1048576) (c : Int) (hc0 : 0 ≤ c) (hc1 : c ≤ 1152921504606846976) :
    ∃ ys d, Chain MarkSeatS ys c d ∧ c ≤ d ∧ d ≤ c + 3 * xs.length ∧ ys.length = xs.length ∧ Ev (fun k => laws_markSeatS.f k xs c) (d, ys) := by
  refine ev_mark (fun k zs c i => laws_markSeatS.l0 k zs c (i : Int)) MarkSeatS (fun _ => True) 3 (by omega) (by omega) ?_ ?_ xs (fun _ _ => trivial) hl c hc0 hc1
  · intro zs c
    exact Ev.step (fun _ => rfl) (ev_neg (by omega) (ev_some rfl))
  · intro zs c i hi h20 _ h0 h1
    refine ⟨_, _, ⟨rfl, rfl⟩, by omega, by omega, fun r hr => Ev.step (fun _ => rfl) (ev_pos (by omega) (ev_pos (by omega) ?_))⟩
    simp only [Option.bind_some, Int.toNat_natCast, rd_set110 hi, List.set_set, w64s i (by omega), w64 (n := c + 1) (by omega) (by omega), w64 (n := c + 1 + 1) (by omega) (by omega), w64 (n := c + 1 + 1 + 1) (by omega) (by omega)]
    exact hr
def MarkIntS (x : Int) (c d : Int) : Prop := x = c ∧ d = c + 1
theorem markIntS_ev (xs : List Int) (hl : xs.length ≤ 1048576) (c : Int) (hc0 : 0 ≤ c) (hc1 : c ≤ 1152921504606846976) :
    ∃ ys d, Chain MarkIntS ys c d ∧ c ≤ d ∧ d ≤ c + 1 * xs.length ∧ ys.length = xs.length ∧ Ev (fun k => laws_markIntS.f k xs c) (d, ys) := by
  refine ev_mark (fun k zs c i => laws_markIntS.l0 k zs c (i : Int)) MarkIntS (fun _ => True) 1 (by omega) (by omega) ?_ ?_ xs (fun _ _ => trivial) hl c hc0 hc1
  · intro zs c
    exact Ev.step (fun _ => rfl) (ev_neg (by omega) (ev_some rfl))
  · intro zs c i hi h20 _ h0 h1
    refine ⟨_, _, ⟨rfl, rfl⟩, by omega, by omega, fun r hr => Ev.step (fun _ => rfl) (ev_pos (by omega) (ev_pos (by omega) ?_))⟩
    simp only [Int.toNat_natCast, w64s i (by omega), w64 (n := c + 1) (by omega) (by omega)]
    exact hr
def MarkBoolS (x : Bool) (c d : Int) : Prop := x = (Int.tmod (c) 3 == 0) ∧ d = c + 1
theorem markBoolS_ev (xs : List Bool) (hl : xs.length ≤ 1048576) (c : Int) (hc0 : 0 ≤ c) (hc1 : c ≤ 1152921504606846976) :
    ∃ ys d, Chain MarkBoolS ys c d ∧ c ≤ d ∧ d ≤ c + 1 * xs.length ∧ ys.length = xs.length ∧ Ev (fun k => laws_markBoolS.f k xs c) (d, ys) := by
  refine ev_mark (fun k zs c i => laws_markBoolS.l0 k zs c (i : Int)) MarkBoolS (fun _ => True) 1 (by omega) (by omega) ?_ ?_ xs (fun _ _ => trivial) hl c hc0 hc1
  · intro zs c
    exact Ev.step (fun _ => rfl) (ev_neg (by omega) (ev_some rfl))
  · intro zs c i hi h20 _ h0 h1
    refine ⟨_, _, ⟨rfl, rfl⟩, by omega, by omega, fun r hr => Ev.step (fun _ => rfl) (ev_pos (by omega) (ev_pos (by omega) ?_))⟩
    simp only [Int.toNat_natCast, w64s i (by omega), w64 (n := c + 1) (by omega) (by omega)]
    exact hr
theorem heldSeatS_ev (ys : List S110) (hl : ys.length ≤ 1048576) (c d : Int) (hc : 0 ≤ c) (hd : d ≤ 2305843009213693952) (h : Chain MarkSeatS ys c d) : Ev (fun k => laws_heldSeatS.f k ys c) d := by
  refine ev_held (fun k zs c i => laws_heldSeatS.l0 k zs c (i : Int)) MarkSeatS (fun x c d h => by have := h.2; omega) ?_ ?_ ys hl c d hc hd h
  · intro zs c
    exact Ev.step (fun _ => rfl) (ev_neg (by omega) (ev_some rfl))
  · intro zs c c' i hi h20 hE h0 h1 r hr
    obtain ⟨hx, rfl⟩ := hE
    have hg : rd_T110 zs (i : Int) = (⟨c, c + 1, c + 1 + 1⟩ : S110) := (getD_get hi).trans hx
    refine Ev.step (fun _ => rfl) (ev_pos (by omega) (ev_pos (by omega) ?_))
    rw [hg]
    simp only [w64s i (by omega), w64 (n := c + 1) (by omega) (by omega), w64 (n := c + 1 + 1) (by omega) (by omega), w64 (n := c + 1 + 1 + 1) (by omega) (by omega)]
    exact ev_pos (by trivial) (ev_pos (by trivial) (ev_pos (by trivial) (hr)))
theorem heldIntS_ev (ys : List Int) (hl : ys.length ≤ 1048576) (c d : Int) (hc : 0 ≤ c) (hd : d ≤ 2305843009213693952) (h : Chain MarkIntS ys c d) : Ev (fun k => laws_heldIntS.f k ys c) d := by
  refine ev_held (fun k zs c i => laws_heldIntS.l0 k zs c (i : Int)) MarkIntS (fun x c d h => by have := h.2; omega) ?_ ?_ ys hl c d hc hd h
  · intro zs c
    exact Ev.step (fun _ => rfl) (ev_neg (by omega) (ev_some rfl))
  · intro zs c c' i hi h20 hE h0 h1 r hr
    obtain ⟨hx, rfl⟩ := hE
    have hg : rd zs (i : Int) = c := (rd_get hi).trans hx
    refine Ev.step (fun _ => rfl) (ev_pos (by omega) (ev_pos (by omega) ?_))
    rw [hg]
    simp only [w64s i (by omega), w64 (n := c + 1) (by omega) (by omega)]
    exact ev_pos (by trivial) (hr)
theorem heldBoolS_ev (ys : List Bool) (hl : ys.length ≤ 1048576) (c d : Int) (hc : 0 ≤ c) (hd : d ≤ 2305843009213693952) (h : Chain MarkBoolS ys c d) : Ev (fun k => laws_heldBoolS.f k ys c) d := by
  refine ev_held (fun k zs c i => laws_heldBoolS.l0 k zs c (i : Int)) MarkBoolS (fun x c d h => by have := h.2; omega) ?_ ?_ ys hl c d hc hd h
  · intro zs c
    exact Ev.step (fun _ => rfl) (ev_neg (by omega) (ev_some rfl))
  · intro zs c c' i hi h20 hE h0 h1 r hr
    obtain ⟨hx, rfl⟩ := hE
    have hg : rdOf false zs (i : Int) = (Int.tmod (c) 3 == 0) := (rdOf_get hi).trans hx
    refine Ev.step (fun _ => rfl) (ev_pos (by omega) (ev_pos (by omega) ?_))
    rw [hg]
    simp only [w64s i (by omega), w64 (n := c + 1) (by omega) (by omega)]
    exact ev_neg (by simp) (hr)
def seatOf (i : Nat) : S110 := ⟨8 * (i : Int), 8 * (i : Int), 9⟩
def seatsOf (n : Nat) : List S110 := (List.range n).map seatOf
theorem seatsOf_succ (n : Nat) : seatsOf (n + 1) = seatsOf n ++ [seatOf n] := by simp [seatsOf, List.range_succ]
theorem seatsOf_length (n : Nat) : (seatsOf n).length = n := by simp [seatsOf]
theorem start_spec (n : Nat) (hn : n ≤ 4) (seed : Int) : Ev (fun k => spec_StartGame.l0 k (n : Int) 0 0 seed []) (0, seed, seatsOf n, true) := by
  refine ev_for1 n (fun k i (s : List S110) => spec_StartGame.l0 k (n : Int) (i : Int) 0 seed s) (fun i s => s = seatsOf i) _ ?_ ?_ 0 [] (Nat.zero_le _) rfl
  · rintro s rfl
    exact st_spec_StartGame_l0 (ev_neg (by omega) (ev_some rfl))
  · rintro i s hi rfl
    refine .inr ⟨_, rfl, fun r hr => st_spec_StartGame_l0 (ev_pos (by omega) (ev_pos (by rw [seatsOf_length]; omega) ?_))⟩
    rw [w64s i (by omega), w64 (n := 8 * (i : Int)) (by omega) (by omega)]
    rw [seatsOf_succ] at hr
    exact hr
theorem start_impl (n : Nat) (hn : n ≤ 4) (seed : Int) : Ev (fun k => impl_StartGame.l0 k (n : Int) 0 0 seed []) (0, seed, seatsOf n, true) := by
  refine ev_for1 n (fun k i (s : List S110) => impl_StartGame.l0 k (n : Int) (i : Int) 0 seed s) (fun i s => s = seatsOf i) _ ?_ ?_ 0 [] (Nat.zero_le _) rfl
  · rintro s rfl
    exact st_impl_StartGame_l0 (ev_neg (by omega) (ev_some rfl))
  · rintro i s hi rfl
    refine .inr ⟨_, rfl, fun r hr => st_impl_StartGame_l0 (ev_pos (by omega) (ev_pos (by rw [seatsOf_length]; omega) ?_))⟩
    rw [w64s i (by omega), w64 (n := 8 * (i : Int)) (by omega) (by omega)]
    rw [seatsOf_succ] at hr
    exact hr
theorem seed_spec (s : Int) : spec_l1Seed.f s = some (decide (0 ≤ s ∧ s ≤ 2147483647)) := by unfold spec_l1Seed.f; rw [in_some]; rfl
theorem seed_impl (s : Int) : impl_isSeed.f s = some (decide (0 ≤ s ∧ s ≤ 2147483647)) := by unfold impl_isSeed.f; rw [in_same, in_some]; rfl
theorem start_same (n seed : Int) : ∃ f c l b, Ev (fun k => spec_StartGame.f k n seed) (f, c, l, b) ∧ Ev (fun k => impl_StartGame.f k n seed) (f, c, l, b) ∧ l.length ≤ 4 ∧ (b = true → f = 0 ∧ c = seed ∧ 0 ≤ seed ∧ seed ≤ 2147483647 ∧ 1 ≤ n ∧ n ≤ 4 ∧ l = seatsOf n.toNat) ∧ (b = false → l = []) := by
  have s0t : Ev (fun k => spec_StartGame.j0 k n seed true) (0, 0, [], false) := st_spec_StartGame_j0 (ev_pos rfl (ev_some rfl))
  have i0t : Ev (fun k => impl_StartGame.j0 k n seed true) (0, 0, [], false) := st_impl_StartGame_j0 (ev_pos rfl (ev_some rfl))
  by_cases hn : decide (1 ≤ n ∧ n ≤ 4) = true
  · by_cases hs : decide (0 ≤ seed ∧ seed ≤ 2147483647) = true
    · have hn' := of_decide_eq_true hn
      have hs' := of_decide_eq_true hs
      obtain ⟨m, rfl⟩ := Int.eq_ofNat_of_zero_le (by omega : 0 ≤ n)
      refine ⟨0, seed, seatsOf m, true, ev_bindc (in_some _ _ _) (ev_pos hn (ev_bindc (seed_spec _) ?_)), ev_bindc ((in_same _ _ _).trans (in_some _ _ _)) (ev_pos hn (ev_bindc (seed_impl _) ?_)), by rw [seatsOf_length]; omega, fun _ => ⟨rfl, rfl, hs'.1, hs'.2, hn'.1, hn'.2, by rw [Int.toNat_natCast]⟩, fun h => (by cases h)⟩
      · rw [hs]; exact st_spec_StartGame_j0 (ev_neg (by decide) (start_spec m (by omega) seed))
      · rw [hs]; exact st_impl_StartGame_j0 (ev_neg (by decide) (start_impl m (by omega) seed))
    · rw [Bool.not_eq_true] at hs
      refine ⟨0, 0, [], false, ev_bindc (in_some _ _ _) (ev_pos hn (ev_bindc (seed_spec _) ?_)), ev_bindc ((in_same _ _ _).trans (in_some _ _ _)) (ev_pos hn (ev_bindc (seed_impl _) ?_)), by simp, ⟨fun h => (by cases h), fun _ => rfl⟩⟩
      · rw [hs]; exact s0t
      · rw [hs]; exact i0t
  · exact ⟨0, 0, [], false, ev_bindc (in_some _ _ _) (ev_neg hn s0t), ev_bindc ((in_same _ _ _).trans (in_some _ _ _)) (ev_neg hn i0t), by simp, ⟨fun h => (by cases h), fun _ => rfl⟩⟩
theorem ev_markC {α : Type} (B : Int) (L : Nat → List α → Int → Nat → Option (Int × List α)) (E : α → Int → Int → Prop) (G : α → Prop) (W : Int) (hW : 0 ≤ W) (hW' : W ≤ 4194304)
    (hend : ∀ zs c, Ev (fun k => L k zs c zs.length) (c, zs))
    (hstep : ∀ zs c i, ∀ hi : i < zs.length, i < 1048576 → G zs[i] → 0 ≤ c → c ≤ B + 4398046511104 → ∃ x' c', E x' c c' ∧ c ≤ c' ∧ c' ≤ c + W ∧ ∀ r, Ev (fun k => L k (zs.set i x') c' (i + 1)) r → Ev (fun k => L k zs c i) r)
    (xs : List α) (hG : ∀ x ∈ xs, G x) (hl : xs.length ≤ 1048576) (c : Int) (hc0 : 0 ≤ c) (hc1 : c ≤ B) :
    ∃ ys d, Chain E ys c d ∧ c ≤ d ∧ d ≤ c + W * xs.length ∧ ys.length = xs.length ∧ Ev (fun k => L k xs c 0) (d, ys) := by
  have key : ∀ n i : Nat, ∀ zs : List α, ∀ m : Int, i + n = xs.length → zs.length = xs.length → zs.drop i = xs.drop i → Chain E (zs.take i) c m → c ≤ m → m ≤ c + W * i →
      ∃ ys d, Chain E ys c d ∧ c ≤ d ∧ d ≤ c + W * xs.length ∧ ys.length = xs.length ∧ Ev (fun k => L k zs m i) (d, ys) := by
    intro n
    induction n with
    | zero =>
      intro i zs m hi hz hd hch h1 h2
      obtain rfl : i = zs.length := by omega
      rw [List.take_length] at hch
      rw [← hz]
      exact ⟨zs, m, hch, h1, h2, rfl, hend zs m⟩
    | succ n ih =>
      intro i zs m hi hz hd hch h1 h2
      have hlt : i < zs.length := by omega
      have hx : i < xs.length := by omega
      have hget : zs[i] = xs[i] := by
        have e1 := List.drop_eq_getElem_cons hlt
        have e2 := List.drop_eq_getElem_cons hx
        rw [hd, e2] at e1
        exact (List.cons.inj e1).1.symm
      have hWi : W * (i : Int) ≤ 4194304 * 1048576 := Int.mul_le_mul hW' (by omega) (by omega) (by omega)
      obtain ⟨x', c', hE, hc, hcW, hr⟩ := hstep zs m i hlt (by omega) (by rw [hget]; exact hG _ (List.getElem_mem hx)) (by omega) (by omega)
      obtain ⟨ys, d, g1, g2, g3, g4, g5⟩ := ih (i + 1) (zs.set i x') c' (by omega) (by simpa using hz) (by
          rw [List.drop_set_of_lt (by omega)]
          have e1 := List.drop_eq_getElem_cons hlt
          have e2 := List.drop_eq_getElem_cons hx
          rw [hd, e2] at e1
          exact (List.cons.inj e1).2.symm) (by
          rw [List.take_succ_eq_append_getElem (by simpa using hlt), List.take_set_of_le (Nat.le_refl i), List.getElem_set_self]
          exact Chain.snoc hch hE) (by omega) (by
          have : W * ((i + 1 : Nat) : Int) = W * i + W := by rw [Int.natCast_add, Int.mul_add]; simp
          omega)
      exact ⟨ys, d, g1, g2, g3, g4, hr _ g5⟩
  have := key xs.length 0 xs c (by omega) rfl rfl (by simp [Chain]) (Int.le_refl _) (by simp)
  exact this
theorem peer_same (n seed : Int) : ∃ f c l ins kn b, Ev (fun k => spec_NewPeer.f k n seed) (f, c, l, ins, kn, [], b) ∧ Ev (fun k => impl_NewPeer.f k n seed) (f, c, l, ins, kn, [], b) ∧ l.length ≤ 4 ∧ (ins.length ≤ 60 ∧ ∀ y ∈ ins, y.length ≤ 4) ∧ (kn.length ≤ 60 ∧ ∀ y ∈ kn, y.length ≤ 4) := by
  obtain ⟨f, c, l, b, hs, hi, hl, ht, _⟩ := start_same n seed
  cases b with
  | false => exact ⟨0, 0, [], [], [], false, Ev.bind hs (ev_neg (by simp) (ev_some rfl)), Ev.bind hi (ev_neg (by simp) (ev_some rfl)), by simp, ⟨by simp, fun y hy => by cases hy⟩, by simp, fun y hy => by cases hy⟩
  | true =>
    obtain ⟨_, _, _, _, n1, n4, _⟩ := ht rfl
    obtain ⟨m, rfl⟩ := Int.eq_ofNat_of_zero_le (by omega : 0 ≤ n)
    refine ⟨f, c, l, List.replicate 60 (List.replicate m 0), List.replicate 60 (List.replicate m false), true, Ev.bind hs (ev_pos rfl ?_), Ev.bind hi (ev_pos rfl ?_), hl, ⟨by simp, fun y hy => by obtain rfl := (List.mem_replicate.1 hy).2; simp; omega⟩, by simp, fun y hy => by obtain rfl := (List.mem_replicate.1 hy).2; simp; omega⟩
    · refine ev_for1 60 (fun k i (s : List (List Int) × List (List Bool)) => spec_NewPeer.l0 k (m : Int) (i : Int) f c l s.1 s.2) (fun i s => s.1 = List.replicate i (List.replicate m 0) ∧ s.2 = List.replicate i (List.replicate m false)) _ ?_ ?_ 0 ([], []) (Nat.zero_le _) ⟨rfl, rfl⟩
      · rintro ⟨s1, s2⟩ ⟨rfl, rfl⟩
        exact st_spec_NewPeer_l0 (ev_neg (by omega) (ev_some rfl))
      · rintro i ⟨s1, s2⟩ hi ⟨rfl, rfl⟩
        refine .inr ⟨(_, _), ⟨rfl, rfl⟩, fun r hr => st_spec_NewPeer_l0 (ev_pos (by omega) (ev_pos (by omega) (ev_pos (by omega) (ev_pos (by rw [List.length_replicate]; omega) (ev_pos (by omega) (ev_pos (by rw [List.length_replicate]; omega) ?_))))))⟩
        rw [w64s i (by omega), Int.toNat_natCast, ← List.replicate_succ', ← List.replicate_succ']
        exact hr
    · refine ev_for1 60 (fun k i (s : List (List Int) × List (List Bool)) => impl_NewPeer.l0 k (m : Int) (i : Int) f c l s.1 s.2) (fun i s => s.1 = List.replicate i (List.replicate m 0) ∧ s.2 = List.replicate i (List.replicate m false)) _ ?_ ?_ 0 ([], []) (Nat.zero_le _) ⟨rfl, rfl⟩
      · rintro ⟨s1, s2⟩ ⟨rfl, rfl⟩
        exact st_impl_NewPeer_l0 (ev_neg (by omega) (ev_some rfl))
      · rintro i ⟨s1, s2⟩ hi ⟨rfl, rfl⟩
        refine .inr ⟨(_, _), ⟨rfl, rfl⟩, fun r hr => st_impl_NewPeer_l0 (ev_pos (by omega) (ev_pos (by omega) (ev_pos (by omega) (ev_pos (by rw [List.length_replicate]; omega) (ev_pos (by omega) (ev_pos (by rw [List.length_replicate]; omega) ?_))))))⟩
        rw [w64s i (by omega), Int.toNat_natCast, ← List.replicate_succ', ← List.replicate_succ']
        exact hr
def MarkI2 (x : List Int) (c d : Int) : Prop := x.length ≤ 1048576 ∧ Chain MarkIntS x c d
theorem markIntSS_ev (xs : List (List Int)) (hx : xs.length ≤ 1048576 ∧ ∀ y ∈ xs, y.length ≤ 1048576) (c0 : Int) (h0 : 0 ≤ c0) (h1 : c0 ≤ 4503599627370496) :
    ∃ ys d, Chain MarkI2 ys c0 d ∧ c0 ≤ d ∧ d ≤ c0 + 1048576 * xs.length ∧ ys.length = xs.length ∧ Ev (fun k => laws_markIntSS.f k xs c0) (d, ys) := by
  refine ev_markC 4503599627370496 (fun k zs c i => laws_markIntSS.l0 k zs c (i : Int)) MarkI2 (fun x => x.length ≤ 1048576) 1048576 (by omega) (by omega) (fun zs c => st_laws_markIntSS_l0 (ev_neg (by omega) (ev_some rfl))) ?_ xs hx.2 hx.1 c0 h0 h1
  intro zs c i hi h20 hG h0 h1
  obtain ⟨ys, d, g0, g1, g2, g3, g4⟩ := markIntS_ev zs[i] hG c h0 (by omega)
  have hz : rd_L2 zs (i : Int) = zs[i] := getD_get hi
  refine ⟨ys, d, ⟨by omega, g0⟩, g1, by omega, fun r hr => st_laws_markIntSS_l0 (ev_pos (by omega) (ev_pos (by omega) ?_))⟩
  rw [hz]
  refine Ev.bind g4 ?_
  simp only [Int.toNat_natCast, w64s i (by omega)]
  exact hr
theorem heldIntSS_ev (ys : List (List Int)) (hl : ys.length ≤ 1048576) (c d : Int) (hc : 0 ≤ c) (hd : d ≤ 2305843009213693952) (h : Chain MarkI2 ys c d) : Ev (fun k => laws_heldIntSS.f k ys c) d := by
  have mono : ∀ x c d, MarkI2 x c d → c ≤ d := fun x c d h => Chain.le (fun x c d h => by have := h.2; omega) h.2
  refine ev_held (fun k zs c i => laws_heldIntSS.l0 k zs c (i : Int)) MarkI2 mono ?_ ?_ ys hl c d hc hd h
  · intro zs c
    exact st_laws_heldIntSS_l0 (ev_neg (by omega) (ev_some rfl))
  · intro zs c c' i hi h20 hE h0 h1 r hr
    have hle := mono _ _ _ hE
    have hz : rd_L2 zs (i : Int) = zs[i] := getD_get hi
    refine st_laws_heldIntSS_l0 (ev_pos (by omega) (ev_pos (by omega) ?_))
    rw [hz, w64s i (by omega)]
    exact Ev.bind (heldIntS_ev _ hE.1 c c' h0 (by omega) hE.2) (ev_neg (by omega) hr)
def MarkB2 (x : List Bool) (c d : Int) : Prop := x.length ≤ 1048576 ∧ Chain MarkBoolS x c d
theorem markBoolSS_ev (xs : List (List Bool)) (hx : xs.length ≤ 1048576 ∧ ∀ y ∈ xs, y.length ≤ 1048576) (c0 : Int) (h0 : 0 ≤ c0) (h1 : c0 ≤ 4503599627370496) :
    ∃ ys d, Chain MarkB2 ys c0 d ∧ c0 ≤ d ∧ d ≤ c0 + 1048576 * xs.length ∧ ys.length = xs.length ∧ Ev (fun k => laws_markBoolSS.f k xs c0) (d, ys) := by
  refine ev_markC 4503599627370496 (fun k zs c i => laws_markBoolSS.l0 k zs c (i : Int)) MarkB2 (fun x => x.length ≤ 1048576) 1048576 (by omega) (by omega) (fun zs c => st_laws_markBoolSS_l0 (ev_neg (by omega) (ev_some rfl))) ?_ xs hx.2 hx.1 c0 h0 h1
  intro zs c i hi h20 hG h0 h1
  obtain ⟨ys, d, g0, g1, g2, g3, g4⟩ := markBoolS_ev zs[i] hG c h0 (by omega)
  have hz : rd_L4 zs (i : Int) = zs[i] := getD_get hi
  refine ⟨ys, d, ⟨by omega, g0⟩, g1, by omega, fun r hr => st_laws_markBoolSS_l0 (ev_pos (by omega) (ev_pos (by omega) ?_))⟩
  rw [hz]
  refine Ev.bind g4 ?_
  simp only [Int.toNat_natCast, w64s i (by omega)]
  exact hr
theorem heldBoolSS_ev (ys : List (List Bool)) (hl : ys.length ≤ 1048576) (c d : Int) (hc : 0 ≤ c) (hd : d ≤ 2305843009213693952) (h : Chain MarkB2 ys c d) : Ev (fun k => laws_heldBoolSS.f k ys c) d := by
  have mono : ∀ x c d, MarkB2 x c d → c ≤ d := fun x c d h => Chain.le (fun x c d h => by have := h.2; omega) h.2
  refine ev_held (fun k zs c i => laws_heldBoolSS.l0 k zs c (i : Int)) MarkB2 mono ?_ ?_ ys hl c d hc hd h
  · intro zs c
    exact st_laws_heldBoolSS_l0 (ev_neg (by omega) (ev_some rfl))
  · intro zs c c' i hi h20 hE h0 h1 r hr
    have hle := mono _ _ _ hE
    have hz : rd_L4 zs (i : Int) = zs[i] := getD_get hi
    refine st_laws_heldBoolSS_l0 (ev_pos (by omega) (ev_pos (by omega) ?_))
    rw [hz, w64s i (by omega)]
    exact Ev.bind (heldBoolS_ev _ hE.1 c c' h0 (by omega) hE.2) (ev_neg (by omega) hr)
theorem FnExactNewPeer : ∀ (a0 : Int) (a1 : Int), (In64 a0) → (In64 a1) → ∃ k, laws_FnExactNewPeer.f k a0 a1 = some true := by
  intro n seed _ _
  refine Ev.rounds (g := fun k => laws_FnExactNewPeer.f k n seed) ?_
  obtain ⟨f, c, l, ins, kn, b, hs, hi, hl, hins, hkn⟩ := peer_same n seed
  have fi : ins.length ≤ 1048576 ∧ ∀ y ∈ ins, y.length ≤ 1048576 := ⟨by have := hins.1; omega, fun y hy => by have := hins.2 y hy; omega⟩
  have fk : kn.length ≤ 1048576 ∧ ∀ y ∈ kn, y.length ≤ 1048576 := ⟨by have := hkn.1; omega, fun y hy => by have := hkn.2 y hy; omega⟩
  have ee := eqPeer_ev f c l ins kn [] (by omega) fi fk ⟨by simp, fun y hy => by cases hy⟩
  obtain ⟨y1, d1, ch1, p0, p1, q1, hm1⟩ := markSeatS_ev l (by omega) 1 (by omega) (by omega)
  obtain ⟨y2, d2, ch2, p2, p3, q2, hm2⟩ := markIntSS_ev ins fi d1 (by omega) (by omega)
  have l2 := hins.1
  have l3 := hkn.1
  obtain ⟨y3, d3, ch3, p4, p5, q3, hm3⟩ := markBoolSS_ev kn fk d2 (by omega) (by omega)
  have hm4 : Ev (fun k => laws_markGameS.f k [] d3) (d3, []) := st_laws_markGameS_l0 (ev_neg (by simp) (ev_some rfl))
  have hm : Ev (fun k => laws_markPeer.f k f c l ins kn [] 1) (d3, y1, y2, y3, []) := Ev.bind (Ev.bind hm1 (ev_some rfl)) (Ev.bind hm2 (Ev.bind hm3 (Ev.bind hm4 (ev_some rfl))))
  have hh1 := heldSeatS_ev y1 (by omega) 1 d1 (by omega) (by omega) ch1
  have hh2 := heldIntSS_ev y2 (by omega) d1 d2 (by omega) (by omega) ch2
  have hh3 := heldBoolSS_ev y3 (by omega) d2 d3 (by omega) (by omega) ch3
  have hh4 : Ev (fun k => laws_heldGameS.f k [] d3) d3 := st_laws_heldGameS_l0 (ev_neg (by simp) (ev_some rfl))
  have hh : Ev (fun k => laws_heldPeer.f k f c y1 y2 y3 [] 1) d3 := Ev.bind (Ev.bind hh1 (ev_neg (by omega) (ev_some rfl))) (ev_neg (by omega) (Ev.bind hh2 (ev_neg (by omega) (Ev.bind hh3 (ev_neg (by omega) (Ev.bind hh4 (ev_neg (by omega) (ev_some rfl))))))))
  have eb : (b != b) = false := by simp
  refine Ev.bind hs (Ev.bind hi (Ev.bind ee (ev_pos rfl ?_)))
  simp only [eb]
  refine st_laws_FnExactNewPeer_j0 (ev_neg (by decide) (Ev.bind hm (Ev.bind hh (ev_neg (by omega) (ev_pos rfl (Ev.bind hi (Ev.bind ee (ev_pos rfl ?_))))))))
  simp only [eb]
  exact st_laws_FnExactNewPeer_j1 (ev_neg (by decide) (Ev.bind hh (ev_neg (by omega) (ev_pos rfl (ev_some rfl)))))
end Go.Proofs.Ytifejplilaefiaa.Pure
