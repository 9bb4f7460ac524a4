/- Texts of the row of the law FnExactQueryWorld, laid together. -/
import Derived.Test.YtcpodjegdpbalaaZFnExactQueryWorld3
namespace Go.Proofs.Ytcpodjegdpbalaa.PFnExactQueryWorld
open Go.RowKit Go.Proofs.YtcpodjegdpbalaaW.PrintWords Go.Proofs.YtcpodjegdpbalaaW.PrintLast Go.Proofs.YtcpodjegdpbalaaW.PrintMore
attribute [local go_sem] max2_int min2_int max_two min_two max_three min_three max_four min_four   -- for this text's walks alone
set_option linter.unusedVariables false
set_option linter.unusedSimpArgs false
mutual
def spec_QueryWorld.j0 : Nat → Bool → Int → Int → List (S77) → List ByteArray → List ByteArray → Int → Option (List Int × Bool)
 | 0, _, _, _, _, _, _, _ => none
 | k + 1, x36, x136000, x136001, x136002, x137000, x137001, x137002 => if x36 = true then (some (([] : List Int), false)) else (spec_QueryWorld.l0 k ([] : List Int) x136002 (x136002.length : Int) 0 x137000 x137001 x137002)
def spec_QueryWorld.l0 : Nat → List Int → List (S77) → Int → Int → List ByteArray → List ByteArray → Int → Option (List Int × Bool)
 | 0, _, _, _, _, _, _, _ => none
 | k + 1, x6, x38, x39, x40, x137000, x137001, x137002 => if x40 < x39 then (if 0 ≤ x40 then (if x40 < (x38.length : Int) then (spec_QueryWorld.l1 k x6 true (x137002 == 0) x38 x39 x40 x137000 (x137000.length : Int) 0 x137000 x137001 x137002 ((rd_T77 x38 x40).f0) ((rd_T77 x38 x40).f1)) else (none)) else (none)) else (some (x6, true))
def spec_QueryWorld.l1 : Nat → List Int → Bool → Bool → List (S77) → Int → Int → List ByteArray → Int → Int → List ByteArray → List ByteArray → Int → Int → List (S80) → Option (List Int × Bool)
 | 0, _, _, _, _, _, _, _, _, _, _, _, _, _, _ => none
 | k + 1, x6, x9, x10, x38, x39, x40, x48, x49, x50, x137000, x137001, x137002, x143000, x143001 => if x50 < x49 then (if 0 ≤ x50 then (if x50 < (x48.length : Int) then ((spec_l3Part.f k x143000 x143001 (rdOf ByteArray.empty x48 x50)).bind fun t144 => (if x9 = true then (if x10 = true then (spec_QueryWorld.l1 k x6 (decide (t144 ≥ 0)) true x38 x39 x40 x48 x49 (wrap64 (x50 + 1)) x137000 x137001 x137002 x143000 x143001) else (if t144 ≥ 0 then (if 0 ≤ t144 then (if t144 < (x143001.length : Int) then (spec_QueryWorld.l1 k x6 (decide (t144 ≥ 0)) (decide (((rd_T80 x143001 t144).f2) ≥ x137002)) x38 x39 x40 x48 x49 (wrap64 (x50 + 1)) x137000 x137001 x137002 x143000 x143001) else (none)) else (none)) else (spec_QueryWorld.l1 k x6 (decide (t144 ≥ 0)) false x38 x39 x40 x48 x49 (wrap64 (x50 + 1)) x137000 x137001 x137002 x143000 x143001))) else (if x10 = true then (spec_QueryWorld.l1 k x6 false true x38 x39 x40 x48 x49 (wrap64 (x50 + 1)) x137000 x137001 x137002 x143000 x143001) else (if t144 ≥ 0 then (if 0 ≤ t144 then (if t144 < (x143001.length : Int) then (spec_QueryWorld.l1 k x6 false (decide (((rd_T80 x143001 t144).f2) ≥ x137002)) x38 x39 x40 x48 x49 (wrap64 (x50 + 1)) x137000 x137001 x137002 x143000 x143001) else (none)) else (none)) else (spec_QueryWorld.l1 k x6 false false x38 x39 x40 x48 x49 (wrap64 (x50 + 1)) x137000 x137001 x137002 x143000 x143001))))) else (none)) else (none)) else (spec_QueryWorld.l2 k x6 x9 x10 x38 x39 x40 x137001 (x137001.length : Int) 0 x137000 x137001 x137002 x143000 x143001)
def spec_QueryWorld.l2 : Nat → List Int → Bool → Bool → List (S77) → Int → Int → List ByteArray → Int → Int → List ByteArray → List ByteArray → Int → Int → List (S80) → Option (List Int × Bool)
 | 0, _, _, _, _, _, _, _, _, _, _, _, _, _, _ => none
 | k + 1, x6, x9, x10, x38, x39, x40, x80, x81, x82, x137000, x137001, x137002, x143000, x143001 => if x82 < x81 then (if 0 ≤ x82 then (if x82 < (x80.length : Int) then (if x9 = true then ((spec_l3Part.f k x143000 x143001 (rdOf ByteArray.empty x80 x82)).bind fun t148 => (spec_QueryWorld.l2 k x6 (decide (t148 < 0)) x10 x38 x39 x40 x80 x81 (wrap64 (x82 + 1)) x137000 x137001 x137002 x143000 x143001)) else (spec_QueryWorld.l2 k x6 false x10 x38 x39 x40 x80 x81 (wrap64 (x82 + 1)) x137000 x137001 x137002 x143000 x143001)) else (none)) else (none)) else (if x9 = true then (if x10 = true then (if x6.length < 17592186044416 then (spec_QueryWorld.l0 k (x6 ++ [x143000]) x38 x39 (wrap64 (x40 + 1)) x137000 x137001 x137002) else (none)) else (spec_QueryWorld.l0 k x6 x38 x39 (wrap64 (x40 + 1)) x137000 x137001 x137002)) else (spec_QueryWorld.l0 k x6 x38 x39 (wrap64 (x40 + 1)) x137000 x137001 x137002))
end
def spec_QueryWorld.f (k : Nat) (a0_0 : Int) (a0_1 : Int) (l0_2 : List (S77)) (l1_0 : List ByteArray) (l1_1 : List ByteArray) (a1_2 : Int) : Option (List Int × Bool) := (spec_GoodWorld.f k a0_0 a0_1 l0_2).bind fun t137 => (if t137 = true then ((spec_l3Names.f k l1_0 12).bind fun t138 => (if t138 = true then ((spec_l3Names.f k l1_1 12).bind fun t139 => (if t139 = true then ((spec_l1In.f a1_2 0 1000000).bind fun t140 => (spec_QueryWorld.j0 k (!t140) a0_0 a0_1 l0_2 l1_0 l1_1 a1_2)) else (spec_QueryWorld.j0 k true a0_0 a0_1 l0_2 l1_0 l1_1 a1_2))) else (spec_QueryWorld.j0 k true a0_0 a0_1 l0_2 l1_0 l1_1 a1_2))) else (spec_QueryWorld.j0 k true a0_0 a0_1 l0_2 l1_0 l1_1 a1_2))
theorem spec_QueryWorld.mono_l : ∀ k, (∀ y0 y1 y2 y3 y4 y5 y6, LeO (spec_QueryWorld.j0 k y0 y1 y2 y3 y4 y5 y6) (spec_QueryWorld.j0 (k + 1) y0 y1 y2 y3 y4 y5 y6)) ∧ (∀ y0 y1 y2 y3 y4 y5 y6, LeO (spec_QueryWorld.l0 k y0 y1 y2 y3 y4 y5 y6) (spec_QueryWorld.l0 (k + 1) y0 y1 y2 y3 y4 y5 y6)) ∧ (∀ y0 y1 y2 y3 y4 y5 y6 y7 y8 y9 y10 y11 y12 y13, LeO (spec_QueryWorld.l1 k y0 y1 y2 y3 y4 y5 y6 y7 y8 y9 y10 y11 y12 y13) (spec_QueryWorld.l1 (k + 1) y0 y1 y2 y3 y4 y5 y6 y7 y8 y9 y10 y11 y12 y13)) ∧ (∀ y0 y1 y2 y3 y4 y5 y6 y7 y8 y9 y10 y11 y12 y13, LeO (spec_QueryWorld.l2 k y0 y1 y2 y3 y4 y5 y6 y7 y8 y9 y10 y11 y12 y13) (spec_QueryWorld.l2 (k + 1) y0 y1 y2 y3 y4 y5 y6 y7 y8 y9 y10 y11 y12 y13))
 | 0 => ⟨fun _ _ _ _ _ _ _ r h => by simp [spec_QueryWorld.j0] at h, fun _ _ _ _ _ _ _ r h => by simp [spec_QueryWorld.l0] at h, fun _ _ _ _ _ _ _ _ _ _ _ _ _ _ r h => by simp [spec_QueryWorld.l1] at h, fun _ _ _ _ _ _ _ _ _ _ _ _ _ _ r h => by simp [spec_QueryWorld.l2] at h⟩
 | k + 1 => by
  obtain ⟨ih0, ih1, ih2, ih3⟩ := spec_QueryWorld.mono_l k
  refine ⟨?_, ?_, ?_, ?_⟩
  ·intro y0 y1 y2 y3 y4 y5 y6
   unfold spec_QueryWorld.j0
   repeat' first
   | (with_reducible exact ih0 _ _ _ _ _ _ _)
   | (with_reducible exact ih1 _ _ _ _ _ _ _)
   | (with_reducible exact ih2 _ _ _ _ _ _ _ _ _ _ _ _ _ _)
   | (with_reducible exact ih3 _ _ _ _ _ _ _ _ _ _ _ _ _ _)
   | (with_reducible exact spec_GoodWorld.mono _ _ _ _)
   | (with_reducible exact spec_l3Names.mono _ _ _)
   | (with_reducible exact spec_l3Part.mono _ _ _ _)
   | (with_reducible exact LeO.refl _)
   | (with_reducible exact LeO.none _)
   | (with_reducible refine LeO.ite ?_ ?_)
   | (with_reducible refine LeO.bind ?_ (fun _ => ?_))
   | exact ih0 _ _ _ _ _ _ _
   | exact ih1 _ _ _ _ _ _ _
   | exact ih2 _ _ _ _ _ _ _ _ _ _ _ _ _ _
   | exact ih3 _ _ _ _ _ _ _ _ _ _ _ _ _ _
   | exact spec_GoodWorld.mono _ _ _ _
   | exact spec_l3Names.mono _ _ _
   | exact spec_l3Part.mono _ _ _ _
   | exact LeO.none _
   | refine LeO.ite ?_ ?_
   | refine LeO.bind ?_ (fun _ => ?_)
  ·intro y0 y1 y2 y3 y4 y5 y6
   unfold spec_QueryWorld.l0
   repeat' first
   | (with_reducible exact ih0 _ _ _ _ _ _ _)
   | (with_reducible exact ih1 _ _ _ _ _ _ _)
   | (with_reducible exact ih2 _ _ _ _ _ _ _ _ _ _ _ _ _ _)
   | (with_reducible exact ih3 _ _ _ _ _ _ _ _ _ _ _ _ _ _)
   | (with_reducible exact spec_GoodWorld.mono _ _ _ _)
   | (with_reducible exact spec_l3Names.mono _ _ _)
   | (with_reducible exact spec_l3Part.mono _ _ _ _)
   | (with_reducible exact LeO.refl _)
   | (with_reducible exact LeO.none _)
   | (with_reducible refine LeO.ite ?_ ?_)
   | (with_reducible refine LeO.bind ?_ (fun _ => ?_))
   | exact ih0 _ _ _ _ _ _ _
   | exact ih1 _ _ _ _ _ _ _
   | exact ih2 _ _ _ _ _ _ _ _ _ _ _ _ _ _
   | exact ih3 _ _ _ _ _ _ _ _ _ _ _ _ _ _
   | exact spec_GoodWorld.mono _ _ _ _
   | exact spec_l3Names.mono _ _ _
   | exact spec_l3Part.mono _ _ _ _
   | exact LeO.none _
   | refine LeO.ite ?_ ?_
   | refine LeO.bind ?_ (fun _ => ?_)
  ·intro y0 y1 y2 y3 y4 y5 y6 y7 y8 y9 y10 y11 y12 y13
   unfold spec_QueryWorld.l1
   repeat' first
   | (with_reducible exact ih0 _ _ _ _ _ _ _)
   | (with_reducible exact ih1 _ _ _ _ _ _ _)
   | (with_reducible exact ih2 _ _ _ _ _ _ _ _ _ _ _ _ _ _)
   | (with_reducible exact ih3 _ _ _ _ _ _ _ _ _ _ _ _ _ _)
   | (with_reducible exact spec_GoodWorld.mono _ _ _ _)
   | (with_reducible exact spec_l3Names.mono _ _ _)
   | (with_reducible exact spec_l3Part.mono _ _ _ _)
   | (with_reducible exact LeO.refl _)
   | (with_reducible exact LeO.none _)
   | (with_reducible refine LeO.ite ?_ ?_)
   | (with_reducible refine LeO.bind ?_ (fun _ => ?_))
   | exact ih0 _ _ _ _ _ _ _
   | exact ih1 _ _ _ _ _ _ _
   | exact ih2 _ _ _ _ _ _ _ _ _ _ _ _ _ _
   | exact ih3 _ _ _ _ _ _ _ _ _ _ _ _ _ _
   | exact spec_GoodWorld.mono _ _ _ _
   | exact spec_l3Names.mono _ _ _
   | exact spec_l3Part.mono _ _ _ _
   | exact LeO.none _
   | refine LeO.ite ?_ ?_
   | refine LeO.bind ?_ (fun _ => ?_)
  ·intro y0 y1 y2 y3 y4 y5 y6 y7 y8 y9 y10 y11 y12 y13
   unfold spec_QueryWorld.l2
   repeat' first
   | (with_reducible exact ih0 _ _ _ _ _ _ _)
   | (with_reducible exact ih1 _ _ _ _ _ _ _)
   | (with_reducible exact ih2 _ _ _ _ _ _ _ _ _ _ _ _ _ _)
   | (with_reducible exact ih3 _ _ _ _ _ _ _ _ _ _ _ _ _ _)
   | (with_reducible exact spec_GoodWorld.mono _ _ _ _)
   | (with_reducible exact spec_l3Names.mono _ _ _)
   | (with_reducible exact spec_l3Part.mono _ _ _ _)
   | (with_reducible exact LeO.refl _)
   | (with_reducible exact LeO.none _)
   | (with_reducible refine LeO.ite ?_ ?_)
   | (with_reducible refine LeO.bind ?_ (fun _ => ?_))
   | exact ih0 _ _ _ _ _ _ _
   | exact ih1 _ _ _ _ _ _ _
   | exact ih2 _ _ _ _ _ _ _ _ _ _ _ _ _ _
   | exact ih3 _ _ _ _ _ _ _ _ _ _ _ _ _ _
   | exact spec_GoodWorld.mono _ _ _ _
   | exact spec_l3Names.mono _ _ _
   | exact spec_l3Part.mono _ _ _ _
   | exact LeO.none _
   | refine LeO.ite ?_ ?_
   | refine LeO.bind ?_ (fun _ => ?_)
theorem spec_QueryWorld.mono : ∀ a0 a1 a2 a3 a4 a5 k, LeO (spec_QueryWorld.f k a0 a1 a2 a3 a4 a5) (spec_QueryWorld.f (k + 1) a0 a1 a2 a3 a4 a5) := by
 intro a0 a1 a2 a3 a4 a5 k
 obtain ⟨ih0, ih1, ih2, ih3⟩ := spec_QueryWorld.mono_l k
 unfold spec_QueryWorld.f
 repeat' first
   | (with_reducible exact ih0 _ _ _ _ _ _ _)
   | (with_reducible exact ih1 _ _ _ _ _ _ _)
   | (with_reducible exact ih2 _ _ _ _ _ _ _ _ _ _ _ _ _ _)
   | (with_reducible exact ih3 _ _ _ _ _ _ _ _ _ _ _ _ _ _)
   | (with_reducible exact spec_GoodWorld.mono _ _ _ _)
   | (with_reducible exact spec_l3Names.mono _ _ _)
   | (with_reducible exact spec_l3Part.mono _ _ _ _)
   | (with_reducible exact LeO.refl _)
   | (with_reducible exact LeO.none _)
   | (with_reducible refine LeO.ite ?_ ?_)
   | (with_reducible refine LeO.bind ?_ (fun _ => ?_))
   | exact ih0 _ _ _ _ _ _ _
   | exact ih1 _ _ _ _ _ _ _
   | exact ih2 _ _ _ _ _ _ _ _ _ _ _ _ _ _
   | exact ih3 _ _ _ _ _ _ _ _ _ _ _ _ _ _
   | exact spec_GoodWorld.mono _ _ _ _
   | exact spec_l3Names.mono _ _ _
   | exact spec_l3Part.mono _ _ _ _
   | exact LeO.none _
   | refine LeO.ite ?_ ?_
   | refine LeO.bind ?_ (fun _ => ?_)
set_option maxHeartbeats 8000000 in
set_option maxRecDepth 100000 in
theorem spec_QueryWorld.calls (k : Nat) (a0_0 : Int) (a0_1 : Int) (A0_2 : Option Addr) (c0_2 : Nat) (l0_2 : List (S77)) (A1_0 : Option Addr) (c1_0 : Nat) (l1_0 : List ByteArray) (A1_1 : Option Addr) (c1_1 : Nat) (l1_1 : List ByteArray) (a1_2 : Int) (r1 : List Int) (r2 : Bool) (w : World) (hr0_2 : Kd.C k77 w A0_2 l0_2.length l0_2) (hc0_2 : l0_2.length ≤ c0_2) (hr1_0 : Kd.C Kd.string w A1_0 l1_0.length l1_0) (hc1_0 : l1_0.length ≤ c1_0) (hr1_1 : Kd.C Kd.string w A1_1 l1_1.length l1_1) (hc1_1 : l1_1.length ≤ c1_1) (h : spec_QueryWorld.f k a0_0 a0_1 l0_2 l1_0 l1_1 a1_2 = some (r1, r2)) :
  Calls Try.prog 21 #[.agg #[.int .i64 a0_0, .int .i64 a0_1, .slice A0_2 l0_2.length c0_2], .agg #[.slice A1_0 l1_0.length c1_0, .slice A1_1 l1_1.length c1_1, .int .i64 a1_2]] w fun e w' => ∃ v0_ : Value, e = .returned (.tuple #[v0_, .bool r2]) ∧ Kd.R (Kd.int .i64) 3 w' w.heap.size (fun _ => True) v0_ r1 ∧ Below w.heap.size w w' := by
 have hu50 := Try.underlying50
 have hu52 := Try.underlying52
 have hu77 := Try.underlying77
 have HR0_2 := Aside0.mk hr0_2
 have HC0_2 := Aside0.mk hc0_2
 clear hr0_2 hc0_2
 have HR1_0 := Aside0.mk hr1_0
 have HC1_0 := Aside0.mk hc1_0
 clear hr1_0 hc1_0
 have HR1_1 := Aside0.mk hr1_1
 have HC1_1 := Aside0.mk hc1_1
 clear hr1_1 hc1_1
 have HB := Aside0.mk (Below.refl w.heap.size w)
 have H : ((spec_GoodWorld.f k a0_0 a0_1 l0_2).bind fun t137 => (if t137 = true then ((spec_l3Names.f k l1_0 12).bind fun t138 => (if t138 = true then ((spec_l3Names.f k l1_1 12).bind fun t139 => (if t139 = true then ((spec_l1In.f a1_2 0 1000000).bind fun t140 => (spec_QueryWorld.j0 k (!t140) a0_0 a0_1 l0_2 l1_0 l1_1 a1_2)) else (spec_QueryWorld.j0 k true a0_0 a0_1 l0_2 l1_0 l1_1 a1_2))) else (spec_QueryWorld.j0 k true a0_0 a0_1 l0_2 l1_0 l1_1 a1_2))) else (spec_QueryWorld.j0 k true a0_0 a0_1 l0_2 l1_0 l1_1 a1_2))) = some (r1, r2) := h
 clear h
 have HC3 := Aside0.mk H
 clear H
 go_enter Try.func21, Try.ntmps21
 go_upto_region 1 with (first | ((with_reducible refine gate_dst (N := 2) rfl ?_); refine box_event rfl (N := 2) rfl (cs := #[.int .i64 a0_0, .int .i64 a0_1, .slice A0_2 l0_2.length c0_2]) (t := 50) sE ?_; intro gb135 hg w4 hbox hb; have BK135 := Aside0.mk hbox; have GW135 := gS w hg (lU); have GE135 := gS w hg (lU); replace HB := bH (lU) hb; clear hb hbox hg) | ((with_reducible refine gate_dst (N := 3) rfl ?_); refine box_event rfl (N := 3) rfl (cs := #[.slice A1_0 l1_0.length c1_0, .slice A1_1 l1_1.length c1_1, .int .i64 a1_2]) (t := 52) sE ?_; intro gb136 hg w5 hbox hb; have BK136 := Aside0.mk hbox; have GW136 := gS w hg (lV1 GE135); have GE136 := gS w hg (lV1 GE135); replace HB := bH (lV1 GE135) hb; have NB135_136 := nL hg (bV BK135); have NB136_135 := nG hg (bV BK135); replace BK135 := bB (bV BK135) hb; clear hb hbox hg))
 repeat (go_quiet (first | ((with_reducible refine gate_dst (N := 2) rfl ?_); refine box_event rfl (N := 2) rfl (cs := #[.int .i64 a0_0, .int .i64 a0_1, .slice A0_2 l0_2.length c0_2]) (t := 50) sE ?_; intro gb135 hg w4 hbox hb; have BK135 := Aside0.mk hbox; have GW135 := gS w hg (lU); have GE135 := gS w hg (lU); replace HB := bH (lU) hb; clear hb hbox hg) | ((with_reducible refine gate_dst (N := 3) rfl ?_); refine box_event rfl (N := 3) rfl (cs := #[.slice A1_0 l1_0.length c1_0, .slice A1_1 l1_1.length c1_1, .int .i64 a1_2]) (t := 52) sE ?_; intro gb136 hg w5 hbox hb; have BK136 := Aside0.mk hbox; have GW136 := gS w hg (lV1 GE135); have GE136 := gS w hg (lV1 GE135); replace HB := bH (lV1 GE135) hb; have NB135_136 := nL hg (bV BK135); have NB136_135 := nG hg (bV BK135); replace BK135 := bB (bV BK135) hb; clear hb hbox hg)); go_upto_region 1 with (first | ((with_reducible refine gate_dst (N := 2) rfl ?_); refine box_event rfl (N := 2) rfl (cs := #[.int .i64 a0_0, .int .i64 a0_1, .slice A0_2 l0_2.length c0_2]) (t := 50) sE ?_; intro gb135 hg w4 hbox hb; have BK135 := Aside0.mk hbox; have GW135 := gS w hg (lU); have GE135 := gS w hg (lU); replace HB := bH (lU) hb; clear hb hbox hg) | ((with_reducible refine gate_dst (N := 3) rfl ?_); refine box_event rfl (N := 3) rfl (cs := #[.slice A1_0 l1_0.length c1_0, .slice A1_1 l1_1.length c1_1, .int .i64 a1_2]) (t := 52) sE ?_; intro gb136 hg w5 hbox hb; have BK136 := Aside0.mk hbox; have GW136 := gS w hg (lV1 GE135); have GE136 := gS w hg (lV1 GE135); replace HB := bH (lV1 GE135) hb; have NB135_136 := nL hg (bV BK135); have NB136_135 := nG hg (bV BK135); replace BK135 := bB (bV BK135) hb; clear hb hbox hg)))
 (try simp only [Act.put, List.setIfInBounds_toArray, List.set_cons_zero, List.set_cons_succ])
 go_cut [36] (fun v36 wc => ∃ (kq : Nat) (x36_2 : Bool), v36 = .bool x36_2 ∧ Aside0 (spec_QueryWorld.j0 kq x36_2 a0_0 a0_1 l0_2 l1_0 l1_1 a1_2 = some (r1, r2)) ∧ Aside0 (kq ≤ k) ∧ Aside0 (wc.heap[gb135]? = some (.cells #[.int .i64 a0_0, .int .i64 a0_1, (.slice A0_2 l0_2.length c0_2)] 50 (0, 0))) ∧ Aside0 (wc.heap[gb136]? = some (.cells #[(.slice A1_0 l1_0.length c1_0), (.slice A1_1 l1_1.length c1_1), .int .i64 a1_2] 52 (0, 0))) ∧ Aside0 (Below w.heap.size w wc))
 case first =>
  have H := HC3.out
  clear HC3
  replace H := Option.bind_eq_some_iff.mp H
  obtain ⟨t137, A60, H⟩ := H
  replace H : (if t137 = true then ((spec_l3Names.f k l1_0 12).bind fun t138 => (if t138 = true then ((spec_l3Names.f k l1_1 12).bind fun t139 => (if t139 = true then ((spec_l1In.f a1_2 0 1000000).bind fun t140 => (spec_QueryWorld.j0 k (!t140) a0_0 a0_1 l0_2 l1_0 l1_1 a1_2)) else (spec_QueryWorld.j0 k true a0_0 a0_1 l0_2 l1_0 l1_1 a1_2))) else (spec_QueryWorld.j0 k true a0_0 a0_1 l0_2 l1_0 l1_1 a1_2))) else (spec_QueryWorld.j0 k true a0_0 a0_1 l0_2 l1_0 l1_1 a1_2)) = some (r1, r2) := H
  have A6 := Aside0.mk A60
  clear A60
  by_cases c7 : t137 = true
  ·subst c7
   have H1 : ((spec_l3Names.f k l1_0 12).bind fun t138 => (if t138 = true then ((spec_l3Names.f k l1_1 12).bind fun t139 => (if t139 = true then ((spec_l1In.f a1_2 0 1000000).bind fun t140 => (spec_QueryWorld.j0 k (!t140) a0_0 a0_1 l0_2 l1_0 l1_1 a1_2)) else (spec_QueryWorld.j0 k true a0_0 a0_1 l0_2 l1_0 l1_1 a1_2))) else (spec_QueryWorld.j0 k true a0_0 a0_1 l0_2 l1_0 l1_1 a1_2))) = some (r1, r2) := by rw [if_pos rfl] at H; exact H
   clear H
   have H := H1
   clear H1
   replace H := Option.bind_eq_some_iff.mp H
   obtain ⟨t138, A80, H⟩ := H
   replace H : (if t138 = true then ((spec_l3Names.f k l1_1 12).bind fun t139 => (if t139 = true then ((spec_l1In.f a1_2 0 1000000).bind fun t140 => (spec_QueryWorld.j0 k (!t140) a0_0 a0_1 l0_2 l1_0 l1_1 a1_2)) else (spec_QueryWorld.j0 k true a0_0 a0_1 l0_2 l1_0 l1_1 a1_2))) else (spec_QueryWorld.j0 k true a0_0 a0_1 l0_2 l1_0 l1_1 a1_2)) = some (r1, r2) := H
   have A8 := Aside0.mk A80
   clear A80
   by_cases c9 : t138 = true
   ·subst c9
    have H1 : ((spec_l3Names.f k l1_1 12).bind fun t139 => (if t139 = true then ((spec_l1In.f a1_2 0 1000000).bind fun t140 => (spec_QueryWorld.j0 k (!t140) a0_0 a0_1 l0_2 l1_0 l1_1 a1_2)) else (spec_QueryWorld.j0 k true a0_0 a0_1 l0_2 l1_0 l1_1 a1_2))) = some (r1, r2) := by rw [if_pos rfl] at H; exact H
    clear H
    have H := H1
    clear H1
    replace H := Option.bind_eq_some_iff.mp H
    obtain ⟨t139, A100, H⟩ := H
    replace H : (if t139 = true then ((spec_l1In.f a1_2 0 1000000).bind fun t140 => (spec_QueryWorld.j0 k (!t140) a0_0 a0_1 l0_2 l1_0 l1_1 a1_2)) else (spec_QueryWorld.j0 k true a0_0 a0_1 l0_2 l1_0 l1_1 a1_2)) = some (r1, r2) := H
    have A10 := Aside0.mk A100
    clear A100
    by_cases c11 : t139 = true
    ·subst c11
     have H1 : ((spec_l1In.f a1_2 0 1000000).bind fun t140 => (spec_QueryWorld.j0 k (!t140) a0_0 a0_1 l0_2 l1_0 l1_1 a1_2)) = some (r1, r2) := by rw [if_pos rfl] at H; exact H
     clear H
     have H := H1
     clear H1
     replace H := Option.bind_eq_some_iff.mp H
     obtain ⟨t140, A120, H⟩ := H
     replace H : (spec_QueryWorld.j0 k (!t140) a0_0 a0_1 l0_2 l1_0 l1_1 a1_2) = some (r1, r2) := H
     have A12 := Aside0.mk A120
     clear A120
     have H' := Aside0.mk H
     clear H
     have hnb13 := NB135_136.out
     have hnc13 := NB136_135.out
     have hcz14_0 := cz BK135 0 (.int .i64 a0_0)
     have hcz14_1 := cz BK135 1 (.int .i64 a0_1)
     have hcz14_2 := cz BK135 2 (.slice A0_2 l0_2.length c0_2)
     have hfz14_0 := fz BK135 0
     have hfz14_1 := fz BK135 1
     have hfz14_2 := fz BK135 2
     go_wp2_with (first | (go_at_call 40; (with_reducible refine (spec_GoodWorld.calls k a0_0 a0_1 _ _ l0_2 true _ ?side1 ?side2 A6.out).mono ?_); (case side1 => exact cU (Kd.C_below HR0_2.out HB.out)); (case side2 => exact HC0_2.out); rintro e w15 ⟨rfl, hb⟩; replace BK135 := bB (bV BK135) hb; replace BK136 := bB (bV BK136) hb; replace HB := bH (lV2 GE135 GE136) hb; (try clear hb); have hcz16_0 := cz BK136 0 (.slice A1_0 l1_0.length c1_0); have hcz16_1 := cz BK136 1 (.slice A1_1 l1_1.length c1_1); have hcz16_2 := cz BK136 2 (.int .i64 a1_2); have hfz16_0 := fz BK136 0; have hfz16_1 := fz BK136 1; have hfz16_2 := fz BK136 2) | (go_at_call 41; (with_reducible refine (spec_l3Names.calls k _ _ l1_0 12 true _ ?side1 ?side2 A8.out).mono ?_); (case side1 => exact cU (Kd.C_below HR1_0.out HB.out)); (case side2 => exact HC1_0.out); rintro e w' ⟨rfl, ⟨nd, rfl⟩⟩; (try first | exact ⟨rfl, _, World.drewN_drewN _ _ _⟩ | exact ⟨rfl, _, Eq.trans (World.drewN_drewN _ _ _) (congrArg (World.drewN _) (Nat.add_assoc _ _ _))⟩)) | (go_at_call 41; (with_reducible refine (spec_l3Names.calls k _ _ l1_1 12 true _ ?side1 ?side2 A10.out).mono ?_); (case side1 => exact cU (Kd.C_below HR1_1.out (lV2 GE135 GE136))); (case side2 => exact HC1_1.out); rintro e w' ⟨rfl, ⟨nd, rfl⟩⟩; (try first | exact ⟨rfl, _, World.drewN_drewN _ _ _⟩ | exact ⟨rfl, _, Eq.trans (World.drewN_drewN _ _ _) (congrArg (World.drewN _) (Nat.add_assoc _ _ _))⟩)) | (go_at_call 42; (with_reducible refine (spec_l1In.calls a1_2 0 1000000 t140 _ A12.out).mono ?_); rintro e w' ⟨rfl, ⟨nd, rfl⟩⟩; (try first | exact ⟨rfl, _, World.drewN_drewN _ _ _⟩ | exact ⟨rfl, _, Eq.trans (World.drewN_drewN _ _ _) (congrArg (World.drewN _) (Nat.add_assoc _ _ _))⟩)))
     repeat (go_quiet (first | (go_at_call 40; (with_reducible refine (spec_GoodWorld.calls k a0_0 a0_1 _ _ l0_2 true _ ?side1 ?side2 A6.out).mono ?_); (case side1 => exact cU (Kd.C_below HR0_2.out HB.out)); (case side2 => exact HC0_2.out); rintro e w15 ⟨rfl, hb⟩; replace BK135 := bB (bV BK135) hb; replace BK136 := bB (bV BK136) hb; replace HB := bH (lV2 GE135 GE136) hb; (try clear hb); have hcz16_0 := cz BK136 0 (.slice A1_0 l1_0.length c1_0); have hcz16_1 := cz BK136 1 (.slice A1_1 l1_1.length c1_1); have hcz16_2 := cz BK136 2 (.int .i64 a1_2); have hfz16_0 := fz BK136 0; have hfz16_1 := fz BK136 1; have hfz16_2 := fz BK136 2) | (go_at_call 41; (with_reducible refine (spec_l3Names.calls k _ _ l1_0 12 true _ ?side1 ?side2 A8.out).mono ?_); (case side1 => exact cU (Kd.C_below HR1_0.out HB.out)); (case side2 => exact HC1_0.out); rintro e w' ⟨rfl, ⟨nd, rfl⟩⟩; (try first | exact ⟨rfl, _, World.drewN_drewN _ _ _⟩ | exact ⟨rfl, _, Eq.trans (World.drewN_drewN _ _ _) (congrArg (World.drewN _) (Nat.add_assoc _ _ _))⟩)) | (go_at_call 41; (with_reducible refine (spec_l3Names.calls k _ _ l1_1 12 true _ ?side1 ?side2 A10.out).mono ?_); (case side1 => exact cU (Kd.C_below HR1_1.out (lV2 GE135 GE136))); (case side2 => exact HC1_1.out); rintro e w' ⟨rfl, ⟨nd, rfl⟩⟩; (try first | exact ⟨rfl, _, World.drewN_drewN _ _ _⟩ | exact ⟨rfl, _, Eq.trans (World.drewN_drewN _ _ _) (congrArg (World.drewN _) (Nat.add_assoc _ _ _))⟩)) | (go_at_call 42; (with_reducible refine (spec_l1In.calls a1_2 0 1000000 t140 _ A12.out).mono ?_); rintro e w' ⟨rfl, ⟨nd, rfl⟩⟩; (try first | exact ⟨rfl, _, World.drewN_drewN _ _ _⟩ | exact ⟨rfl, _, Eq.trans (World.drewN_drewN _ _ _) (congrArg (World.drewN _) (Nat.add_assoc _ _ _))⟩))); try go_wp2_with (first | (go_at_call 40; (with_reducible refine (spec_GoodWorld.calls k a0_0 a0_1 _ _ l0_2 true _ ?side1 ?side2 A6.out).mono ?_); (case side1 => exact cU (Kd.C_below HR0_2.out HB.out)); (case side2 => exact HC0_2.out); rintro e w15 ⟨rfl, hb⟩; replace BK135 := bB (bV BK135) hb; replace BK136 := bB (bV BK136) hb; replace HB := bH (lV2 GE135 GE136) hb; (try clear hb); have hcz16_0 := cz BK136 0 (.slice A1_0 l1_0.length c1_0); have hcz16_1 := cz BK136 1 (.slice A1_1 l1_1.length c1_1); have hcz16_2 := cz BK136 2 (.int .i64 a1_2); have hfz16_0 := fz BK136 0; have hfz16_1 := fz BK136 1; have hfz16_2 := fz BK136 2) | (go_at_call 41; (with_reducible refine (spec_l3Names.calls k _ _ l1_0 12 true _ ?side1 ?side2 A8.out).mono ?_); (case side1 => exact cU (Kd.C_below HR1_0.out HB.out)); (case side2 => exact HC1_0.out); rintro e w' ⟨rfl, ⟨nd, rfl⟩⟩; (try first | exact ⟨rfl, _, World.drewN_drewN _ _ _⟩ | exact ⟨rfl, _, Eq.trans (World.drewN_drewN _ _ _) (congrArg (World.drewN _) (Nat.add_assoc _ _ _))⟩)) | (go_at_call 41; (with_reducible refine (spec_l3Names.calls k _ _ l1_1 12 true _ ?side1 ?side2 A10.out).mono ?_); (case side1 => exact cU (Kd.C_below HR1_1.out (lV2 GE135 GE136))); (case side2 => exact HC1_1.out); rintro e w' ⟨rfl, ⟨nd, rfl⟩⟩; (try first | exact ⟨rfl, _, World.drewN_drewN _ _ _⟩ | exact ⟨rfl, _, Eq.trans (World.drewN_drewN _ _ _) (congrArg (World.drewN _) (Nat.add_assoc _ _ _))⟩)) | (go_at_call 42; (with_reducible refine (spec_l1In.calls a1_2 0 1000000 t140 _ A12.out).mono ?_); rintro e w' ⟨rfl, ⟨nd, rfl⟩⟩; (try first | exact ⟨rfl, _, World.drewN_drewN _ _ _⟩ | exact ⟨rfl, _, Eq.trans (World.drewN_drewN _ _ _) (congrArg (World.drewN _) (Nat.add_assoc _ _ _))⟩))))
     go_meet
     case rel => exact ⟨_, (!t140), tE, H', ⟨by first | omega | exact Nat.le_refl _⟩, ⟨by refine bU ?_; exact BK135.out⟩, ⟨by refine bU ?_; exact BK136.out⟩, ⟨by repeat (first | (with_reducible first | exact HB.out | apply below_alloc | apply pw_below_drewN | apply below_drew1 | refine below_set ?_ GE135.out | refine below_set ?_ GE136.out) | exact HB.out)⟩⟩
    ·replace c11 := Bool.eq_false_iff.mpr c11
     subst c11
     have H1 : (spec_QueryWorld.j0 k true a0_0 a0_1 l0_2 l1_0 l1_1 a1_2) = some (r1, r2) := by rw [if_neg (show ¬ (false = true) by decide)] at H; exact H
     clear H
     have H := H1
     clear H1
     have H' := Aside0.mk H
     clear H
     have hnb17 := NB135_136.out
     have hnc17 := NB136_135.out
     have hcz18_0 := cz BK135 0 (.int .i64 a0_0)
     have hcz18_1 := cz BK135 1 (.int .i64 a0_1)
     have hcz18_2 := cz BK135 2 (.slice A0_2 l0_2.length c0_2)
     have hfz18_0 := fz BK135 0
     have hfz18_1 := fz BK135 1
     have hfz18_2 := fz BK135 2
     go_wp2_with (first | (go_at_call 40; (with_reducible refine (spec_GoodWorld.calls k a0_0 a0_1 _ _ l0_2 true _ ?side1 ?side2 A6.out).mono ?_); (case side1 => exact cU (Kd.C_below HR0_2.out HB.out)); (case side2 => exact HC0_2.out); rintro e w19 ⟨rfl, hb⟩; replace BK135 := bB (bV BK135) hb; replace BK136 := bB (bV BK136) hb; replace HB := bH (lV2 GE135 GE136) hb; (try clear hb); have hcz20_0 := cz BK136 0 (.slice A1_0 l1_0.length c1_0); have hcz20_1 := cz BK136 1 (.slice A1_1 l1_1.length c1_1); have hcz20_2 := cz BK136 2 (.int .i64 a1_2); have hfz20_0 := fz BK136 0; have hfz20_1 := fz BK136 1; have hfz20_2 := fz BK136 2) | (go_at_call 41; (with_reducible refine (spec_l3Names.calls k _ _ l1_0 12 true _ ?side1 ?side2 A8.out).mono ?_); (case side1 => exact cU (Kd.C_below HR1_0.out HB.out)); (case side2 => exact HC1_0.out); rintro e w' ⟨rfl, ⟨nd, rfl⟩⟩; (try first | exact ⟨rfl, _, World.drewN_drewN _ _ _⟩ | exact ⟨rfl, _, Eq.trans (World.drewN_drewN _ _ _) (congrArg (World.drewN _) (Nat.add_assoc _ _ _))⟩)) | (go_at_call 41; (with_reducible refine (spec_l3Names.calls k _ _ l1_1 12 false _ ?side1 ?side2 A10.out).mono ?_); (case side1 => exact cU (Kd.C_below HR1_1.out (lV2 GE135 GE136))); (case side2 => exact HC1_1.out); rintro e w' ⟨rfl, ⟨nd, rfl⟩⟩; (try first | exact ⟨rfl, _, World.drewN_drewN _ _ _⟩ | exact ⟨rfl, _, Eq.trans (World.drewN_drewN _ _ _) (congrArg (World.drewN _) (Nat.add_assoc _ _ _))⟩)))
     repeat (go_quiet (first | (go_at_call 40; (with_reducible refine (spec_GoodWorld.calls k a0_0 a0_1 _ _ l0_2 true _ ?side1 ?side2 A6.out).mono ?_); (case side1 => exact cU (Kd.C_below HR0_2.out HB.out)); (case side2 => exact HC0_2.out); rintro e w19 ⟨rfl, hb⟩; replace BK135 := bB (bV BK135) hb; replace BK136 := bB (bV BK136) hb; replace HB := bH (lV2 GE135 GE136) hb; (try clear hb); have hcz20_0 := cz BK136 0 (.slice A1_0 l1_0.length c1_0); have hcz20_1 := cz BK136 1 (.slice A1_1 l1_1.length c1_1); have hcz20_2 := cz BK136 2 (.int .i64 a1_2); have hfz20_0 := fz BK136 0; have hfz20_1 := fz BK136 1; have hfz20_2 := fz BK136 2) | (go_at_call 41; (with_reducible refine (spec_l3Names.calls k _ _ l1_0 12 true _ ?side1 ?side2 A8.out).mono ?_); (case side1 => exact cU (Kd.C_below HR1_0.out HB.out)); (case side2 => exact HC1_0.out); rintro e w' ⟨rfl, ⟨nd, rfl⟩⟩; (try first | exact ⟨rfl, _, World.drewN_drewN _ _ _⟩ | exact ⟨rfl, _, Eq.trans (World.drewN_drewN _ _ _) (congrArg (World.drewN _) (Nat.add_assoc _ _ _))⟩)) | (go_at_call 41; (with_reducible refine (spec_l3Names.calls k _ _ l1_1 12 false _ ?side1 ?side2 A10.out).mono ?_); (case side1 => exact cU (Kd.C_below HR1_1.out (lV2 GE135 GE136))); (case side2 => exact HC1_1.out); rintro e w' ⟨rfl, ⟨nd, rfl⟩⟩; (try first | exact ⟨rfl, _, World.drewN_drewN _ _ _⟩ | exact ⟨rfl, _, Eq.trans (World.drewN_drewN _ _ _) (congrArg (World.drewN _) (Nat.add_assoc _ _ _))⟩))); try go_wp2_with (first | (go_at_call 40; (with_reducible refine (spec_GoodWorld.calls k a0_0 a0_1 _ _ l0_2 true _ ?side1 ?side2 A6.out).mono ?_); (case side1 => exact cU (Kd.C_below HR0_2.out HB.out)); (case side2 => exact HC0_2.out); rintro e w19 ⟨rfl, hb⟩; replace BK135 := bB (bV BK135) hb; replace BK136 := bB (bV BK136) hb; replace HB := bH (lV2 GE135 GE136) hb; (try clear hb); have hcz20_0 := cz BK136 0 (.slice A1_0 l1_0.length c1_0); have hcz20_1 := cz BK136 1 (.slice A1_1 l1_1.length c1_1); have hcz20_2 := cz BK136 2 (.int .i64 a1_2); have hfz20_0 := fz BK136 0; have hfz20_1 := fz BK136 1; have hfz20_2 := fz BK136 2) | (go_at_call 41; (with_reducible refine (spec_l3Names.calls k _ _ l1_0 12 true _ ?side1 ?side2 A8.out).mono ?_); (case side1 => exact cU (Kd.C_below HR1_0.out HB.out)); (case side2 => exact HC1_0.out); rintro e w' ⟨rfl, ⟨nd, rfl⟩⟩; (try first | exact ⟨rfl, _, World.drewN_drewN _ _ _⟩ | exact ⟨rfl, _, Eq.trans (World.drewN_drewN _ _ _) (congrArg (World.drewN _) (Nat.add_assoc _ _ _))⟩)) | (go_at_call 41; (with_reducible refine (spec_l3Names.calls k _ _ l1_1 12 false _ ?side1 ?side2 A10.out).mono ?_); (case side1 => exact cU (Kd.C_below HR1_1.out (lV2 GE135 GE136))); (case side2 => exact HC1_1.out); rintro e w' ⟨rfl, ⟨nd, rfl⟩⟩; (try first | exact ⟨rfl, _, World.drewN_drewN _ _ _⟩ | exact ⟨rfl, _, Eq.trans (World.drewN_drewN _ _ _) (congrArg (World.drewN _) (Nat.add_assoc _ _ _))⟩))))
     go_meet
     case rel => exact ⟨_, (true), tE, H', ⟨by first | omega | exact Nat.le_refl _⟩, ⟨by refine bU ?_; exact BK135.out⟩, ⟨by refine bU ?_; exact BK136.out⟩, ⟨by repeat (first | (with_reducible first | exact HB.out | apply below_alloc | apply pw_below_drewN | apply below_drew1 | refine below_set ?_ GE135.out | refine below_set ?_ GE136.out) | exact HB.out)⟩⟩
   ·replace c9 := Bool.eq_false_iff.mpr c9
    subst c9
    have H1 : (spec_QueryWorld.j0 k true a0_0 a0_1 l0_2 l1_0 l1_1 a1_2) = some (r1, r2) := by rw [if_neg (show ¬ (false = true) by decide)] at H; exact H
    clear H
    have H := H1
    clear H1
    have H' := Aside0.mk H
    clear H
    have hnb21 := NB135_136.out
    have hnc21 := NB136_135.out
    have hcz22_0 := cz BK135 0 (.int .i64 a0_0)
    have hcz22_1 := cz BK135 1 (.int .i64 a0_1)
    have hcz22_2 := cz BK135 2 (.slice A0_2 l0_2.length c0_2)
    have hfz22_0 := fz BK135 0
    have hfz22_1 := fz BK135 1
    have hfz22_2 := fz BK135 2
    go_wp2_with (first | (go_at_call 40; (with_reducible refine (spec_GoodWorld.calls k a0_0 a0_1 _ _ l0_2 true _ ?side1 ?side2 A6.out).mono ?_); (case side1 => exact cU (Kd.C_below HR0_2.out HB.out)); (case side2 => exact HC0_2.out); rintro e w23 ⟨rfl, hb⟩; replace BK135 := bB (bV BK135) hb; replace BK136 := bB (bV BK136) hb; replace HB := bH (lV2 GE135 GE136) hb; (try clear hb); have hcz24_0 := cz BK136 0 (.slice A1_0 l1_0.length c1_0); have hcz24_1 := cz BK136 1 (.slice A1_1 l1_1.length c1_1); have hcz24_2 := cz BK136 2 (.int .i64 a1_2); have hfz24_0 := fz BK136 0; have hfz24_1 := fz BK136 1; have hfz24_2 := fz BK136 2) | (go_at_call 41; (with_reducible refine (spec_l3Names.calls k _ _ l1_0 12 false _ ?side1 ?side2 A8.out).mono ?_); (case side1 => exact cU (Kd.C_below HR1_0.out HB.out)); (case side2 => exact HC1_0.out); rintro e w' ⟨rfl, ⟨nd, rfl⟩⟩; (try first | exact ⟨rfl, _, World.drewN_drewN _ _ _⟩ | exact ⟨rfl, _, Eq.trans (World.drewN_drewN _ _ _) (congrArg (World.drewN _) (Nat.add_assoc _ _ _))⟩)))
    repeat (go_quiet (first | (go_at_call 40; (with_reducible refine (spec_GoodWorld.calls k a0_0 a0_1 _ _ l0_2 true _ ?side1 ?side2 A6.out).mono ?_); (case side1 => exact cU (Kd.C_below HR0_2.out HB.out)); (case side2 => exact HC0_2.out); rintro e w23 ⟨rfl, hb⟩; replace BK135 := bB (bV BK135) hb; replace BK136 := bB (bV BK136) hb; replace HB := bH (lV2 GE135 GE136) hb; (try clear hb); have hcz24_0 := cz BK136 0 (.slice A1_0 l1_0.length c1_0); have hcz24_1 := cz BK136 1 (.slice A1_1 l1_1.length c1_1); have hcz24_2 := cz BK136 2 (.int .i64 a1_2); have hfz24_0 := fz BK136 0; have hfz24_1 := fz BK136 1; have hfz24_2 := fz BK136 2) | (go_at_call 41; (with_reducible refine (spec_l3Names.calls k _ _ l1_0 12 false _ ?side1 ?side2 A8.out).mono ?_); (case side1 => exact cU (Kd.C_below HR1_0.out HB.out)); (case side2 => exact HC1_0.out); rintro e w' ⟨rfl, ⟨nd, rfl⟩⟩; (try first | exact ⟨rfl, _, World.drewN_drewN _ _ _⟩ | exact ⟨rfl, _, Eq.trans (World.drewN_drewN _ _ _) (congrArg (World.drewN _) (Nat.add_assoc _ _ _))⟩))); try go_wp2_with (first | (go_at_call 40; (with_reducible refine (spec_GoodWorld.calls k a0_0 a0_1 _ _ l0_2 true _ ?side1 ?side2 A6.out).mono ?_); (case side1 => exact cU (Kd.C_below HR0_2.out HB.out)); (case side2 => exact HC0_2.out); rintro e w23 ⟨rfl, hb⟩; replace BK135 := bB (bV BK135) hb; replace BK136 := bB (bV BK136) hb; replace HB := bH (lV2 GE135 GE136) hb; (try clear hb); have hcz24_0 := cz BK136 0 (.slice A1_0 l1_0.length c1_0); have hcz24_1 := cz BK136 1 (.slice A1_1 l1_1.length c1_1); have hcz24_2 := cz BK136 2 (.int .i64 a1_2); have hfz24_0 := fz BK136 0; have hfz24_1 := fz BK136 1; have hfz24_2 := fz BK136 2) | (go_at_call 41; (with_reducible refine (spec_l3Names.calls k _ _ l1_0 12 false _ ?side1 ?side2 A8.out).mono ?_); (case side1 => exact cU (Kd.C_below HR1_0.out HB.out)); (case side2 => exact HC1_0.out); rintro e w' ⟨rfl, ⟨nd, rfl⟩⟩; (try first | exact ⟨rfl, _, World.drewN_drewN _ _ _⟩ | exact ⟨rfl, _, Eq.trans (World.drewN_drewN _ _ _) (congrArg (World.drewN _) (Nat.add_assoc _ _ _))⟩))))
    go_meet
    case rel => exact ⟨_, (true), tE, H', ⟨by first | omega | exact Nat.le_refl _⟩, ⟨by refine bU ?_; exact BK135.out⟩, ⟨by refine bU ?_; exact BK136.out⟩, ⟨by repeat (first | (with_reducible first | exact HB.out | apply below_alloc | apply pw_below_drewN | apply below_drew1 | refine below_set ?_ GE135.out | refine below_set ?_ GE136.out) | exact HB.out)⟩⟩
  ·replace c7 := Bool.eq_false_iff.mpr c7
   subst c7
   have H1 : (spec_QueryWorld.j0 k true a0_0 a0_1 l0_2 l1_0 l1_1 a1_2) = some (r1, r2) := by rw [if_neg (show ¬ (false = true) by decide)] at H; exact H
   clear H
   have H := H1
   clear H1
   have H' := Aside0.mk H
   clear H
   have hnb25 := NB135_136.out
   have hnc25 := NB136_135.out
   have hcz26_0 := cz BK135 0 (.int .i64 a0_0)
   have hcz26_1 := cz BK135 1 (.int .i64 a0_1)
   have hcz26_2 := cz BK135 2 (.slice A0_2 l0_2.length c0_2)
   have hfz26_0 := fz BK135 0
   have hfz26_1 := fz BK135 1
   have hfz26_2 := fz BK135 2
   go_wp2_with (first | (go_at_call 40; (with_reducible refine (spec_GoodWorld.calls k a0_0 a0_1 _ _ l0_2 false _ ?side1 ?side2 A6.out).mono ?_); (case side1 => exact cU (Kd.C_below HR0_2.out HB.out)); (case side2 => exact HC0_2.out); rintro e w27 ⟨rfl, hb⟩; replace BK135 := bB (bV BK135) hb; replace BK136 := bB (bV BK136) hb; replace HB := bH (lV2 GE135 GE136) hb; (try clear hb)))
   repeat (go_quiet (first | (go_at_call 40; (with_reducible refine (spec_GoodWorld.calls k a0_0 a0_1 _ _ l0_2 false _ ?side1 ?side2 A6.out).mono ?_); (case side1 => exact cU (Kd.C_below HR0_2.out HB.out)); (case side2 => exact HC0_2.out); rintro e w27 ⟨rfl, hb⟩; replace BK135 := bB (bV BK135) hb; replace BK136 := bB (bV BK136) hb; replace HB := bH (lV2 GE135 GE136) hb; (try clear hb))); try go_wp2_with (first | (go_at_call 40; (with_reducible refine (spec_GoodWorld.calls k a0_0 a0_1 _ _ l0_2 false _ ?side1 ?side2 A6.out).mono ?_); (case side1 => exact cU (Kd.C_below HR0_2.out HB.out)); (case side2 => exact HC0_2.out); rintro e w27 ⟨rfl, hb⟩; replace BK135 := bB (bV BK135) hb; replace BK136 := bB (bV BK136) hb; replace HB := bH (lV2 GE135 GE136) hb; (try clear hb))))
   go_meet
   case rel => exact ⟨_, (true), tE, H', ⟨by first | omega | exact Nat.le_refl _⟩, ⟨by refine bU ?_; exact BK135.out⟩, ⟨by refine bU ?_; exact BK136.out⟩, ⟨by repeat (first | (with_reducible first | exact HB.out | apply below_alloc | apply pw_below_drewN | apply below_drew1 | refine below_set ?_ GE135.out | refine below_set ?_ GE136.out) | exact HB.out)⟩⟩
 case rest =>
  clear HC3
  try clear c1
  try clear c2
  try clear p2
  try clear c7
  try clear c9
  try clear c11
  try clear c13
  try clear c17
  try clear c21
  try clear c25
  try clear hcz14_0
  try clear hcz14_1
  try clear hcz14_2
  try clear hcz16_0
  try clear hcz16_1
  try clear hcz16_2
  try clear hcz18_0
  try clear hcz18_1
  try clear hcz18_2
  try clear hcz20_0
  try clear hcz20_1
  try clear hcz20_2
  try clear hcz22_0
  try clear hcz22_1
  try clear hcz22_2
  try clear hcz24_0
  try clear hcz24_1
  try clear hcz24_2
  try clear hcz26_0
  try clear hcz26_1
  try clear hcz26_2
  try clear hfz14_0
  try clear hfz14_1
  try clear hfz14_2
  try clear hfz16_0
  try clear hfz16_1
  try clear hfz16_2
  try clear hfz18_0
  try clear hfz18_1
  try clear hfz18_2
  try clear hfz20_0
  try clear hfz20_1
  try clear hfz20_2
  try clear hfz22_0
  try clear hfz22_1
  try clear hfz22_2
  try clear hfz24_0
  try clear hfz24_1
  try clear hfz24_2
  try clear hfz26_0
  try clear hfz26_1
  try clear hfz26_2
  obtain ⟨kq, x36_2, rfl, HA, HJ2, BK135, BK136, HB⟩ := hcut
  cases kq with
  | zero => exact absurd HA.out (by simp [spec_QueryWorld.j0])
  | succ kj2 =>
   have H := HA.out
   clear HA
   simp only [spec_QueryWorld.j0] at H
   by_cases c28 : x36_2 = true
   ·subst c28
    have H1 : (some (([] : List Int), false)) = some (r1, r2) := by rw [if_pos rfl] at H; exact H
    clear H
    have H := H1
    clear H1
    simp only [Option.some.injEq, Prod.mk.injEq] at H
    obtain ⟨rfl, rfl⟩ := H
    go_wp2
    repeat (go_quiet (fail); try go_wp2)
    go_ret2
    exact ⟨_, eE, by first | exact Kd.R_nil _ _ _ _ _ | exact Kd.N_nil _ _ _ _ _ | exact Kd.V_nil _ _ _ _ _ | exact Kd.Q_nil _ _ _ _ _ | exact Kd.S_nil _ _ _ _ _, lV2 GE135 GE136⟩
   ·replace c28 := Bool.eq_false_iff.mpr c28
    subst c28
    have H1 : (spec_QueryWorld.l0 kj2 ([] : List Int) l0_2 (l0_2.length : Int) 0 l1_0 l1_1 a1_2) = some (r1, r2) := by rw [if_neg (show ¬ (false = true) by decide)] at H; exact H
    clear H
    have H := H1
    clear H1
    have H' := Aside0.mk H
    clear H
    have hnb29 := NB135_136.out
    have hnc29 := NB136_135.out
    have hcz30_0 := cz BK135 0 (.int .i64 a0_0)
    have hcz30_1 := cz BK135 1 (.int .i64 a0_1)
    have hcz30_2 := cz BK135 2 (.slice A0_2 l0_2.length c0_2)
    have hfz30_0 := fz BK135 0
    have hfz30_1 := fz BK135 1
    have hfz30_2 := fz BK135 2
    go_wp2
    repeat (go_quiet (fail); try go_wp2)
    go_loopg [6, 40] kj2 (fun kq v6 v40 w' => ∃ (x6_2 : List Int) (x40_2 : Int), v40 = .int .i64 x40_2 ∧ Aside0 (spec_QueryWorld.l0 kq x6_2 l0_2 (l0_2.length : Int) x40_2 l1_0 l1_1 a1_2 = some (r1, r2)) ∧ Aside0 (kq ≤ kj2) ∧ Aside0 (Kd.R (Kd.int .i64) 3 w' w.heap.size (fun _ => True) v6 x6_2) ∧ Aside0 (w'.heap[gb135]? = some (.cells #[.int .i64 a0_0, .int .i64 a0_1, (.slice A0_2 l0_2.length c0_2)] 50 (0, 0))) ∧ Aside0 (w'.heap[gb136]? = some (.cells #[(.slice A1_0 l1_0.length c1_0), (.slice A1_1 l1_1.length c1_1), .int .i64 a1_2] 52 (0, 0))) ∧ Aside0 (Below w.heap.size w w'))
    case atStart => exact ⟨(([] : List Int)), (0), tE, H', ⟨Nat.le_refl _⟩, ⟨by first | exact Kd.R_nil _ _ _ _ _ | exact Kd.N_nil _ _ _ _ _ | exact Kd.V_nil _ _ _ _ _ | exact Kd.Q_nil _ _ _ _ _ | exact Kd.S_nil _ _ _ _ _⟩, ⟨by refine bU ?_; exact BK135.out⟩, ⟨by refine bU ?_; exact BK136.out⟩, ⟨by repeat (first | (with_reducible first | exact HB.out | apply below_alloc | apply pw_below_drewN | apply below_drew1 | refine below_set ?_ GE135.out | refine below_set ?_ GE136.out) | exact HB.out)⟩⟩
    case round =>
     clear H'
     try clear c1
     try clear c2
     try clear p2
     try clear c7
     try clear c9
     try clear c11
     try clear c13
     try clear c17
     try clear c21
     try clear c25
     try clear c28
     try clear c29
     try clear hcz14_0
     try clear hcz14_1
     try clear hcz14_2
     try clear hcz16_0
     try clear hcz16_1
     try clear hcz16_2
     try clear hcz18_0
     try clear hcz18_1
     try clear hcz18_2
     try clear hcz20_0
     try clear hcz20_1
     try clear hcz20_2
     try clear hcz22_0
     try clear hcz22_1
     try clear hcz22_2
     try clear hcz24_0
     try clear hcz24_1
     try clear hcz24_2
     try clear hcz26_0
     try clear hcz26_1
     try clear hcz26_2
     try clear hcz30_0
     try clear hcz30_1
     try clear hcz30_2
     try clear hfz14_0
     try clear hfz14_1
     try clear hfz14_2
     try clear hfz16_0
     try clear hfz16_1
     try clear hfz16_2
     try clear hfz18_0
     try clear hfz18_1
     try clear hfz18_2
     try clear hfz20_0
     try clear hfz20_1
     try clear hfz20_2
     try clear hfz22_0
     try clear hfz22_1
     try clear hfz22_2
     try clear hfz24_0
     try clear hfz24_1
     try clear hfz24_2
     try clear hfz26_0
     try clear hfz26_1
     try clear hfz26_2
     try clear hfz30_0
     try clear hfz30_1
     try clear hfz30_2
     try clear p2
     obtain ⟨x6_2, x40_2, rfl, HA, HK2, HO_6, BK135, BK136, HB⟩ := hrel
     cases gk with
     | zero => exact absurd HA.out (by simp [spec_QueryWorld.l0])
     | succ k2 =>
      have H := HA.out
      clear HA
      simp only [spec_QueryWorld.l0] at H
      by_cases c31 : x40_2 < (l0_2.length : Int)
      ·rw [if_pos c31] at H
       have c31b0 : decide (x40_2 < (l0_2.length : Int)) = true := decide_eq_true c31
       clear c31
       by_cases c32 : 0 ≤ x40_2
       ·rw [if_pos c32] at H
        have c32b0 : decide (0 ≤ x40_2) = true := decide_eq_true c32
        clear c32
        by_cases c33 : x40_2 < (l0_2.length : Int)
        ·rw [if_pos c33] at H
         have c33b0 : decide (x40_2 < (l0_2.length : Int)) = true := decide_eq_true c33
         clear c33
         have H' := Aside0.mk H
         clear H
         have p141 : 0 ≤ (x40_2 : Int) := of_decide_eq_true hE
         have q141 : x40_2 < (l0_2.length : Int) := of_decide_eq_true hE
         obtain ⟨ad141, A141_1, c141_1, e141, hx141_0, hx141_1, hl141_1, hi141_1⟩ := at_T77 HR0_2.out x40_2 p141 q141
         cases e141
         replace hx141_0 := (HB.out.cell (World.block_lt_of_cell? w _ hx141_0)).trans hx141_0
         replace hx141_1 := (HB.out.cell (World.block_lt_of_cell? w _ hx141_1)).trans hx141_1
         have HR141_1 := Aside0.mk hi141_1
         have HC141_1 := Aside0.mk hl141_1
         clear hi141_1 hl141_1
         replace p141 := eq_true p141
         replace q141 := eq_true q141
         go_wp2_with (first | ((with_reducible refine gate_dst (N := 8) rfl ?_); refine box_event rfl (N := 8) rfl (cs := #[.int .i64 0, .slice none 0 0]) (t := 77) sE ?_; intro gb142 hg w34 hbox hb; replace HO_6 := Aside0.mk (Kd.R_below (rU HO_6.out) hb); have BK142 := Aside0.mk hbox; have GW142 := gS w hg (lV2 GE135 GE136); have GE142 := gS w hg (lV2 GE135 GE136); replace HB := bH (lV2 GE135 GE136) hb; have NB135_142 := nL hg (bV BK135); have NB142_135 := nG hg (bV BK135); replace BK135 := bB (bV BK135) hb; have NB136_142 := nL hg (bV BK136); have NB142_136 := nG hg (bV BK136); replace BK136 := bB (bV BK136) hb; clear hb hbox hg; have hnb35 := NB142_135.out; have hnc35 := NB135_142.out; have hnb36 := NB142_136.out; have hnc36 := NB136_142.out; have hcz37_0 := cz BK142 0 (.int .i64 0); have hcz37_1 := cz BK142 1 (.slice none 0 0); have hfz37_0 := fz BK142 0; have hfz37_1 := fz BK142 1) | ((with_reducible refine gate_store (t := 77) (p := 8) rfl ?_); (try (rw [drewN_self w34]; generalize hq_ : World.drewN w34 _ = w34; replace HO_6 := Aside0.mk (Kd.R_at hq_ HO_6.out); replace BK135 := Aside0.mk (blk_at hq_ BK135.out); replace BK136 := Aside0.mk (blk_at hq_ BK136.out); replace BK142 := Aside0.mk (blk_at hq_ BK142.out); replace HB := Aside0.mk (below_at hq_ HB.out); clear hq_)); refine store_event (t := 77) (p := 8) (v := ?vo_w38) (w1 := ((w34.setCell ⟨gb142, 0, none⟩ (.int .i64 ((rd_T77 l0_2 x40_2).f0))).setCell ⟨gb142, 1, none⟩ (.slice A141_1 ((rd_T77 l0_2 x40_2).f1).length c141_1))) ?hg ?ho ?hn ?hr ?_; (case ho => rfl); (case hg => rfl); (case hn => rfl); (case hr => first | (go_simp; done) | (go_simp; rfl) | (have hq0_ := (blk_cell BK142.out 0).trans (show _ = some _ from rfl); have hf0_ := blk_frozen BK142.out 0; have hq1_ := (blk_cell BK142.out 1).trans (show _ = some _ from rfl); have hf1_ := blk_frozen BK142.out 1; first | (go_simp; done) | (go_simp; rfl))); intro w38 hw; replace HO_6 : Aside0 (Kd.R (Kd.int .i64) 3 w38 w.heap.size (fun _ => True) u6 x6_2) := ⟨(by rw [hw]; exact (by (with_reducible repeat (first | apply Kd.R_alloc | apply Kd.R_drewN | apply Kd.R_drew)); exact Kd.R_mono (Kd.R_far (p := ⟨gb142, 1, none⟩) (Kd.R_far (p := ⟨gb142, 0, none⟩) (Kd.R_types HO_6.out BK142.out (by decide)) (fun _ hk => hk.2) (.int .i64 ((rd_T77 l0_2 x40_2).f0))) (fun _ hk => hk.2) (.slice A141_1 ((rd_T77 l0_2 x40_2).f1).length c141_1)) (fun _ hk => trivial)))⟩; replace BK135 : Aside0 (w38.heap[gb135]? = some (.cells #[.int .i64 a0_0, .int .i64 a0_1, .slice (some ad141) l0_2.length c0_2] 50 (0, 0))) := ⟨(by rw [hw]; exact (bG NB135_142 BK135))⟩; replace BK136 : Aside0 (w38.heap[gb136]? = some (.cells #[.slice A1_0 l1_0.length c1_0, .slice A1_1 l1_1.length c1_1, .int .i64 a1_2] 52 (0, 0))) := ⟨(by rw [hw]; exact (bG NB136_142 BK136))⟩; replace BK142 : Aside0 (w38.heap[gb142]? = some (.cells #[.int .i64 ((rd_T77 l0_2 x40_2).f0), .slice A141_1 ((rd_T77 l0_2 x40_2).f1).length c141_1] 77 (0, 0))) := ⟨(by rw [hw]; exact (by refine bU ?_; refine blk_put (cs := #[.int .i64 ((rd_T77 l0_2 x40_2).f0), .slice none 0 0]) ?_ 1 _ rfl; refine bU ?_; refine blk_put (cs := #[.int .i64 0, .slice none 0 0]) ?_ 0 _ rfl; refine bU ?_; exact BK142.out))⟩; replace HB : Aside0 (Below w.heap.size w w38) := ⟨(by rw [hw]; exact (lV3 GE135 GE136 GE142))⟩; clear hw; have hnb39 := NB136_135.out; have hnc39 := NB135_136.out; have hcz40_0 := cz BK136 0 (.slice A1_0 l1_0.length c1_0); have hcz40_1 := cz BK136 1 (.slice A1_1 l1_1.length c1_1); have hcz40_2 := cz BK136 2 (.int .i64 a1_2); have hfz40_0 := fz BK136 0; have hfz40_1 := fz BK136 1; have hfz40_2 := fz BK136 2))
         repeat (go_quiet (first | ((with_reducible refine gate_dst (N := 8) rfl ?_); refine box_event rfl (N := 8) rfl (cs := #[.int .i64 0, .slice none 0 0]) (t := 77) sE ?_; intro gb142 hg w34 hbox hb; replace HO_6 := Aside0.mk (Kd.R_below (rU HO_6.out) hb); have BK142 := Aside0.mk hbox; have GW142 := gS w hg (lV2 GE135 GE136); have GE142 := gS w hg (lV2 GE135 GE136); replace HB := bH (lV2 GE135 GE136) hb; have NB135_142 := nL hg (bV BK135); have NB142_135 := nG hg (bV BK135); replace BK135 := bB (bV BK135) hb; have NB136_142 := nL hg (bV BK136); have NB142_136 := nG hg (bV BK136); replace BK136 := bB (bV BK136) hb; clear hb hbox hg; have hnb35 := NB142_135.out; have hnc35 := NB135_142.out; have hnb36 := NB142_136.out; have hnc36 := NB136_142.out; have hcz37_0 := cz BK142 0 (.int .i64 0); have hcz37_1 := cz BK142 1 (.slice none 0 0); have hfz37_0 := fz BK142 0; have hfz37_1 := fz BK142 1) | ((with_reducible refine gate_store (t := 77) (p := 8) rfl ?_); (try (rw [drewN_self w34]; generalize hq_ : World.drewN w34 _ = w34; replace HO_6 := Aside0.mk (Kd.R_at hq_ HO_6.out); replace BK135 := Aside0.mk (blk_at hq_ BK135.out); replace BK136 := Aside0.mk (blk_at hq_ BK136.out); replace BK142 := Aside0.mk (blk_at hq_ BK142.out); replace HB := Aside0.mk (below_at hq_ HB.out); clear hq_)); refine store_event (t := 77) (p := 8) (v := ?vo_w38) (w1 := ((w34.setCell ⟨gb142, 0, none⟩ (.int .i64 ((rd_T77 l0_2 x40_2).f0))).setCell ⟨gb142, 1, none⟩ (.slice A141_1 ((rd_T77 l0_2 x40_2).f1).length c141_1))) ?hg ?ho ?hn ?hr ?_; (case ho => rfl); (case hg => rfl); (case hn => rfl); (case hr => first | (go_simp; done) | (go_simp; rfl) | (have hq0_ := (blk_cell BK142.out 0).trans (show _ = some _ from rfl); have hf0_ := blk_frozen BK142.out 0; have hq1_ := (blk_cell BK142.out 1).trans (show _ = some _ from rfl); have hf1_ := blk_frozen BK142.out 1; first | (go_simp; done) | (go_simp; rfl))); intro w38 hw; replace HO_6 : Aside0 (Kd.R (Kd.int .i64) 3 w38 w.heap.size (fun _ => True) u6 x6_2) := ⟨(by rw [hw]; exact (by (with_reducible repeat (first | apply Kd.R_alloc | apply Kd.R_drewN | apply Kd.R_drew)); exact Kd.R_mono (Kd.R_far (p := ⟨gb142, 1, none⟩) (Kd.R_far (p := ⟨gb142, 0, none⟩) (Kd.R_types HO_6.out BK142.out (by decide)) (fun _ hk => hk.2) (.int .i64 ((rd_T77 l0_2 x40_2).f0))) (fun _ hk => hk.2) (.slice A141_1 ((rd_T77 l0_2 x40_2).f1).length c141_1)) (fun _ hk => trivial)))⟩; replace BK135 : Aside0 (w38.heap[gb135]? = some (.cells #[.int .i64 a0_0, .int .i64 a0_1, .slice (some ad141) l0_2.length c0_2] 50 (0, 0))) := ⟨(by rw [hw]; exact (bG NB135_142 BK135))⟩; replace BK136 : Aside0 (w38.heap[gb136]? = some (.cells #[.slice A1_0 l1_0.length c1_0, .slice A1_1 l1_1.length c1_1, .int .i64 a1_2] 52 (0, 0))) := ⟨(by rw [hw]; exact (bG NB136_142 BK136))⟩; replace BK142 : Aside0 (w38.heap[gb142]? = some (.cells #[.int .i64 ((rd_T77 l0_2 x40_2).f0), .slice A141_1 ((rd_T77 l0_2 x40_2).f1).length c141_1] 77 (0, 0))) := ⟨(by rw [hw]; exact (by refine bU ?_; refine blk_put (cs := #[.int .i64 ((rd_T77 l0_2 x40_2).f0), .slice none 0 0]) ?_ 1 _ rfl; refine bU ?_; refine blk_put (cs := #[.int .i64 0, .slice none 0 0]) ?_ 0 _ rfl; refine bU ?_; exact BK142.out))⟩; replace HB : Aside0 (Below w.heap.size w w38) := ⟨(by rw [hw]; exact (lV3 GE135 GE136 GE142))⟩; clear hw; have hnb39 := NB136_135.out; have hnc39 := NB135_136.out; have hcz40_0 := cz BK136 0 (.slice A1_0 l1_0.length c1_0); have hcz40_1 := cz BK136 1 (.slice A1_1 l1_1.length c1_1); have hcz40_2 := cz BK136 2 (.int .i64 a1_2); have hfz40_0 := fz BK136 0; have hfz40_1 := fz BK136 1; have hfz40_2 := fz BK136 2)); try go_wp2_with (first | ((with_reducible refine gate_dst (N := 8) rfl ?_); refine box_event rfl (N := 8) rfl (cs := #[.int .i64 0, .slice none 0 0]) (t := 77) sE ?_; intro gb142 hg w34 hbox hb; replace HO_6 := Aside0.mk (Kd.R_below (rU HO_6.out) hb); have BK142 := Aside0.mk hbox; have GW142 := gS w hg (lV2 GE135 GE136); have GE142 := gS w hg (lV2 GE135 GE136); replace HB := bH (lV2 GE135 GE136) hb; have NB135_142 := nL hg (bV BK135); have NB142_135 := nG hg (bV BK135); replace BK135 := bB (bV BK135) hb; have NB136_142 := nL hg (bV BK136); have NB142_136 := nG hg (bV BK136); replace BK136 := bB (bV BK136) hb; clear hb hbox hg; have hnb35 := NB142_135.out; have hnc35 := NB135_142.out; have hnb36 := NB142_136.out; have hnc36 := NB136_142.out; have hcz37_0 := cz BK142 0 (.int .i64 0); have hcz37_1 := cz BK142 1 (.slice none 0 0); have hfz37_0 := fz BK142 0; have hfz37_1 := fz BK142 1) | ((with_reducible refine gate_store (t := 77) (p := 8) rfl ?_); (try (rw [drewN_self w34]; generalize hq_ : World.drewN w34 _ = w34; replace HO_6 := Aside0.mk (Kd.R_at hq_ HO_6.out); replace BK135 := Aside0.mk (blk_at hq_ BK135.out); replace BK136 := Aside0.mk (blk_at hq_ BK136.out); replace BK142 := Aside0.mk (blk_at hq_ BK142.out); replace HB := Aside0.mk (below_at hq_ HB.out); clear hq_)); refine store_event (t := 77) (p := 8) (v := ?vo_w38) (w1 := ((w34.setCell ⟨gb142, 0, none⟩ (.int .i64 ((rd_T77 l0_2 x40_2).f0))).setCell ⟨gb142, 1, none⟩ (.slice A141_1 ((rd_T77 l0_2 x40_2).f1).length c141_1))) ?hg ?ho ?hn ?hr ?_; (case ho => rfl); (case hg => rfl); (case hn => rfl); (case hr => first | (go_simp; done) | (go_simp; rfl) | (have hq0_ := (blk_cell BK142.out 0).trans (show _ = some _ from rfl); have hf0_ := blk_frozen BK142.out 0; have hq1_ := (blk_cell BK142.out 1).trans (show _ = some _ from rfl); have hf1_ := blk_frozen BK142.out 1; first | (go_simp; done) | (go_simp; rfl))); intro w38 hw; replace HO_6 : Aside0 (Kd.R (Kd.int .i64) 3 w38 w.heap.size (fun _ => True) u6 x6_2) := ⟨(by rw [hw]; exact (by (with_reducible repeat (first | apply Kd.R_alloc | apply Kd.R_drewN | apply Kd.R_drew)); exact Kd.R_mono (Kd.R_far (p := ⟨gb142, 1, none⟩) (Kd.R_far (p := ⟨gb142, 0, none⟩) (Kd.R_types HO_6.out BK142.out (by decide)) (fun _ hk => hk.2) (.int .i64 ((rd_T77 l0_2 x40_2).f0))) (fun _ hk => hk.2) (.slice A141_1 ((rd_T77 l0_2 x40_2).f1).length c141_1)) (fun _ hk => trivial)))⟩; replace BK135 : Aside0 (w38.heap[gb135]? = some (.cells #[.int .i64 a0_0, .int .i64 a0_1, .slice (some ad141) l0_2.length c0_2] 50 (0, 0))) := ⟨(by rw [hw]; exact (bG NB135_142 BK135))⟩; replace BK136 : Aside0 (w38.heap[gb136]? = some (.cells #[.slice A1_0 l1_0.length c1_0, .slice A1_1 l1_1.length c1_1, .int .i64 a1_2] 52 (0, 0))) := ⟨(by rw [hw]; exact (bG NB136_142 BK136))⟩; replace BK142 : Aside0 (w38.heap[gb142]? = some (.cells #[.int .i64 ((rd_T77 l0_2 x40_2).f0), .slice A141_1 ((rd_T77 l0_2 x40_2).f1).length c141_1] 77 (0, 0))) := ⟨(by rw [hw]; exact (by refine bU ?_; refine blk_put (cs := #[.int .i64 ((rd_T77 l0_2 x40_2).f0), .slice none 0 0]) ?_ 1 _ rfl; refine bU ?_; refine blk_put (cs := #[.int .i64 0, .slice none 0 0]) ?_ 0 _ rfl; refine bU ?_; exact BK142.out))⟩; replace HB : Aside0 (Below w.heap.size w w38) := ⟨(by rw [hw]; exact (lV3 GE135 GE136 GE142))⟩; clear hw; have hnb39 := NB136_135.out; have hnc39 := NB135_136.out; have hcz40_0 := cz BK136 0 (.slice A1_0 l1_0.length c1_0); have hcz40_1 := cz BK136 1 (.slice A1_1 l1_1.length c1_1); have hcz40_2 := cz BK136 2 (.int .i64 a1_2); have hfz40_0 := fz BK136 0; have hfz40_1 := fz BK136 1; have hfz40_2 := fz BK136 2)))
         (try simp only [Act.put, List.setIfInBounds_toArray, List.set_cons_zero, List.set_cons_succ])
         go_loopg [9, 10, 50] k2 (fun kq v9 v10 v50 w' => ∃ (x9_3 : Bool) (x10_3 : Bool) (x50_3 : Int), v9 = .bool x9_3 ∧ v10 = .bool x10_3 ∧ v50 = .int .i64 x50_3 ∧ Aside0 (spec_QueryWorld.l1 kq x6_2 x9_3 x10_3 l0_2 (l0_2.length : Int) x40_2 l1_0 (l1_0.length : Int) x50_3 l1_0 l1_1 a1_2 ((rd_T77 l0_2 x40_2).f0) ((rd_T77 l0_2 x40_2).f1) = some (r1, r2)) ∧ Aside0 (kq ≤ k2) ∧ Aside0 (Kd.R (Kd.int .i64) 3 w' w.heap.size (fun _ => True) u6 x6_2) ∧ Aside0 (w'.heap[gb135]? = some (.cells #[.int .i64 a0_0, .int .i64 a0_1, (.slice (some ad141) l0_2.length c0_2)] 50 (0, 0))) ∧ Aside0 (w'.heap[gb136]? = some (.cells #[(.slice A1_0 l1_0.length c1_0), (.slice A1_1 l1_1.length c1_1), .int .i64 a1_2] 52 (0, 0))) ∧ Aside0 (w'.heap[gb142]? = some (.cells #[.int .i64 ((rd_T77 l0_2 x40_2).f0), (.slice A141_1 ((rd_T77 l0_2 x40_2).f1).length c141_1)] 77 (0, 0))) ∧ Aside0 (Below w.heap.size w w'))
         case atStart => exact ⟨(true), ((a1_2 == 0)), (0), tE, tE, tE, H', ⟨Nat.le_refl _⟩, ⟨by (with_reducible repeat (first | apply Kd.R_alloc | apply Kd.R_drewN | apply Kd.R_drew)); exact HO_6.out⟩, ⟨by refine bU ?_; exact BK135.out⟩, ⟨by refine bU ?_; exact BK136.out⟩, ⟨by refine bU ?_; exact BK142.out⟩, ⟨by repeat (first | (with_reducible first | exact HB.out | apply below_alloc | apply pw_below_drewN | apply below_drew1 | refine below_set ?_ GE135.out | refine below_set ?_ GE136.out | refine below_set ?_ GE142.out) | exact HB.out)⟩⟩
         case round =>
          clear H'
          try clear c1
          try clear p1
          try clear q1
          try clear hx1
          try clear c2
          try clear p2
          try clear c3
          try clear c7
          try clear c9
          try clear c11
          try clear c13
          try clear c14
          try clear p14
          try clear q14
          try clear hx14
          try clear c17
          try clear c21
          try clear c25
          try clear c28
          try clear c29
          try clear c31
          try clear c31b0
          try clear c32
          try clear c32b0
          try clear c33
          try clear c33b0
          try clear c35
          try clear c36
          try clear c39
          try clear hcz14_0
          try clear hcz14_1
          try clear hcz14_2
          try clear hcz16_0
          try clear hcz16_1
          try clear hcz16_2
          try clear hcz18_0
          try clear hcz18_1
          try clear hcz18_2
          try clear hcz20_0
          try clear hcz20_1
          try clear hcz20_2
          try clear hcz22_0
          try clear hcz22_1
          try clear hcz22_2
          try clear hcz24_0
          try clear hcz24_1
          try clear hcz24_2
          try clear hcz26_0
          try clear hcz26_1
          try clear hcz26_2
          try clear hcz30_0
          try clear hcz30_1
          try clear hcz30_2
          try clear hcz37_0
          try clear hcz37_1
          try clear hcz40_0
          try clear hcz40_1
          try clear hcz40_2
          try clear hfz14_0
          try clear hfz14_1
          try clear hfz14_2
          try clear hfz16_0
          try clear hfz16_1
          try clear hfz16_2
          try clear hfz18_0
          try clear hfz18_1
          try clear hfz18_2
          try clear hfz20_0
          try clear hfz20_1
          try clear hfz20_2
          try clear hfz22_0
          try clear hfz22_1
          try clear hfz22_2
          try clear hfz24_0
          try clear hfz24_1
          try clear hfz24_2
          try clear hfz26_0
          try clear hfz26_1
          try clear hfz26_2
          try clear hfz30_0
          try clear hfz30_1
          try clear hfz30_2
          try clear hfz37_0
          try clear hfz37_1
          try clear hfz40_0
          try clear hfz40_1
          try clear hfz40_2
          try clear hx141_0
          try clear hx141_1
          try clear p141
          try clear p2
          try clear q141
          obtain ⟨x9_3, x10_3, x50_3, rfl, rfl, rfl, HA, HK3, HO_6, BK135, BK136, BK142, HB⟩ := hrel
          cases gk with
          | zero => exact absurd HA.out (by simp [spec_QueryWorld.l1])
          | succ k3 =>
           have H := HA.out
           clear HA
           simp only [spec_QueryWorld.l1] at H
           by_cases c41 : x50_3 < (l1_0.length : Int)
           ·rw [if_pos c41] at H
            have c41b0 : decide (x50_3 < (l1_0.length : Int)) = true := decide_eq_true c41
            clear c41
            by_cases c42 : 0 ≤ x50_3
            ·rw [if_pos c42] at H
             have c42b0 : decide (0 ≤ x50_3) = true := decide_eq_true c42
             clear c42
             by_cases c43 : x50_3 < (l1_0.length : Int)
             ·rw [if_pos c43] at H
              have c43b0 : decide (x50_3 < (l1_0.length : Int)) = true := decide_eq_true c43
              clear c43
              replace H := Option.bind_eq_some_iff.mp H
              obtain ⟨t144, A440, H⟩ := H
              replace H : (if x9_3 = true then (if x10_3 = true then (spec_QueryWorld.l1 k3 x6_2 (decide (t144 ≥ 0)) true l0_2 (l0_2.length : Int) x40_2 l1_0 (l1_0.length : Int) (wrap64 (x50_3 + 1)) l1_0 l1_1 a1_2 ((rd_T77 l0_2 x40_2).f0) ((rd_T77 l0_2 x40_2).f1)) else (if t144 ≥ 0 then (if 0 ≤ t144 then (if t144 < (((rd_T77 l0_2 x40_2).f1).length : Int) then (spec_QueryWorld.l1 k3 x6_2 (decide (t144 ≥ 0)) (decide (((rd_T80 ((rd_T77 l0_2 x40_2).f1) t144).f2) ≥ a1_2)) l0_2 (l0_2.length : Int) x40_2 l1_0 (l1_0.length : Int) (wrap64 (x50_3 + 1)) l1_0 l1_1 a1_2 ((rd_T77 l0_2 x40_2).f0) ((rd_T77 l0_2 x40_2).f1)) else (none)) else (none)) else (spec_QueryWorld.l1 k3 x6_2 (decide (t144 ≥ 0)) false l0_2 (l0_2.length : Int) x40_2 l1_0 (l1_0.length : Int) (wrap64 (x50_3 + 1)) l1_0 l1_1 a1_2 ((rd_T77 l0_2 x40_2).f0) ((rd_T77 l0_2 x40_2).f1)))) else (if x10_3 = true then (spec_QueryWorld.l1 k3 x6_2 false true l0_2 (l0_2.length : Int) x40_2 l1_0 (l1_0.length : Int) (wrap64 (x50_3 + 1)) l1_0 l1_1 a1_2 ((rd_T77 l0_2 x40_2).f0) ((rd_T77 l0_2 x40_2).f1)) else (if t144 ≥ 0 then (if 0 ≤ t144 then (if t144 < (((rd_T77 l0_2 x40_2).f1).length : Int) then (spec_QueryWorld.l1 k3 x6_2 false (decide (((rd_T80 ((rd_T77 l0_2 x40_2).f1) t144).f2) ≥ a1_2)) l0_2 (l0_2.length : Int) x40_2 l1_0 (l1_0.length : Int) (wrap64 (x50_3 + 1)) l1_0 l1_1 a1_2 ((rd_T77 l0_2 x40_2).f0) ((rd_T77 l0_2 x40_2).f1)) else (none)) else (none)) else (spec_QueryWorld.l1 k3 x6_2 false false l0_2 (l0_2.length : Int) x40_2 l1_0 (l1_0.length : Int) (wrap64 (x50_3 + 1)) l1_0 l1_1 a1_2 ((rd_T77 l0_2 x40_2).f0) ((rd_T77 l0_2 x40_2).f1))))) = some (r1, r2) := H
              have A44 := Aside0.mk A440
              clear A440
              by_cases c45 : x9_3 = true
              ·subst c45
               have H1 : (if x10_3 = true then (spec_QueryWorld.l1 k3 x6_2 (decide (t144 ≥ 0)) true l0_2 (l0_2.length : Int) x40_2 l1_0 (l1_0.length : Int) (wrap64 (x50_3 + 1)) l1_0 l1_1 a1_2 ((rd_T77 l0_2 x40_2).f0) ((rd_T77 l0_2 x40_2).f1)) else (if t144 ≥ 0 then (if 0 ≤ t144 then (if t144 < (((rd_T77 l0_2 x40_2).f1).length : Int) then (spec_QueryWorld.l1 k3 x6_2 (decide (t144 ≥ 0)) (decide (((rd_T80 ((rd_T77 l0_2 x40_2).f1) t144).f2) ≥ a1_2)) l0_2 (l0_2.length : Int) x40_2 l1_0 (l1_0.length : Int) (wrap64 (x50_3 + 1)) l1_0 l1_1 a1_2 ((rd_T77 l0_2 x40_2).f0) ((rd_T77 l0_2 x40_2).f1)) else (none)) else (none)) else (spec_QueryWorld.l1 k3 x6_2 (decide (t144 ≥ 0)) false l0_2 (l0_2.length : Int) x40_2 l1_0 (l1_0.length : Int) (wrap64 (x50_3 + 1)) l1_0 l1_1 a1_2 ((rd_T77 l0_2 x40_2).f0) ((rd_T77 l0_2 x40_2).f1)))) = some (r1, r2) := by rw [if_pos rfl] at H; exact H
               clear H
               have H := H1
               clear H1
               by_cases c46 : x10_3 = true
               ·subst c46
                have H1 : (spec_QueryWorld.l1 k3 x6_2 (decide (t144 ≥ 0)) true l0_2 (l0_2.length : Int) x40_2 l1_0 (l1_0.length : Int) (wrap64 (x50_3 + 1)) l1_0 l1_1 a1_2 ((rd_T77 l0_2 x40_2).f0) ((rd_T77 l0_2 x40_2).f1)) = some (r1, r2) := by rw [if_pos rfl] at H; exact H
                clear H
                have H := H1
                clear H1
                have H' := Aside0.mk H
                clear H
                have p143 : 0 ≤ (x50_3 : Int) := of_decide_eq_true hE
                have q143 : x50_3 < (l1_0.length : Int) := of_decide_eq_true hE
                obtain ⟨ad143, e143, hx143_0⟩ := Kd.at_string HR1_0.out x50_3 p143 q143
                cases e143
                replace hx143_0 := (HB.out.cell (World.block_lt_of_cell? w _ hx143_0)).trans hx143_0
                replace p143 := eq_true p143
                replace q143 := eq_true q143
                have hnb47 := NB142_135.out
                have hnc47 := NB135_142.out
                have hnb48 := NB142_136.out
                have hnc48 := NB136_142.out
                have hcz49_0 := cz BK142 0 (.int .i64 ((rd_T77 l0_2 x40_2).f0))
                have hcz49_1 := cz BK142 1 (.slice A141_1 ((rd_T77 l0_2 x40_2).f1).length c141_1)
                have hfz49_0 := fz BK142 0
                have hfz49_1 := fz BK142 1
                go_wp2_with (first | (go_at_call 43; (with_reducible refine (spec_l3Part.calls k3 ((rd_T77 l0_2 x40_2).f0) _ _ ((rd_T77 l0_2 x40_2).f1) (rdOf ByteArray.empty l1_0 x50_3) t144 _ ?side1 ?side2 A44.out).mono ?_); (case side1 => exact cU (Kd.C_below HR141_1.out HB.out)); (case side2 => exact HC141_1.out); rintro e w50 ⟨rfl, hb⟩; replace HO_6 := Aside0.mk (Kd.R_below (rU HO_6.out) hb); replace BK135 := bB (bV BK135) hb; replace BK136 := bB (bV BK136) hb; replace BK142 := bB (bV BK142) hb; replace HB := bH (lV3 GE135 GE136 GE142) hb; (try clear hb)))
                repeat (go_quiet (first | (go_at_call 43; (with_reducible refine (spec_l3Part.calls k3 ((rd_T77 l0_2 x40_2).f0) _ _ ((rd_T77 l0_2 x40_2).f1) (rdOf ByteArray.empty l1_0 x50_3) t144 _ ?side1 ?side2 A44.out).mono ?_); (case side1 => exact cU (Kd.C_below HR141_1.out HB.out)); (case side2 => exact HC141_1.out); rintro e w50 ⟨rfl, hb⟩; replace HO_6 := Aside0.mk (Kd.R_below (rU HO_6.out) hb); replace BK135 := bB (bV BK135) hb; replace BK136 := bB (bV BK136) hb; replace BK142 := bB (bV BK142) hb; replace HB := bH (lV3 GE135 GE136 GE142) hb; (try clear hb))); try go_wp2_with (first | (go_at_call 43; (with_reducible refine (spec_l3Part.calls k3 ((rd_T77 l0_2 x40_2).f0) _ _ ((rd_T77 l0_2 x40_2).f1) (rdOf ByteArray.empty l1_0 x50_3) t144 _ ?side1 ?side2 A44.out).mono ?_); (case side1 => exact cU (Kd.C_below HR141_1.out HB.out)); (case side2 => exact HC141_1.out); rintro e w50 ⟨rfl, hb⟩; replace HO_6 := Aside0.mk (Kd.R_below (rU HO_6.out) hb); replace BK135 := bB (bV BK135) hb; replace BK136 := bB (bV BK136) hb; replace BK142 := bB (bV BK142) hb; replace HB := bH (lV3 GE135 GE136 GE142) hb; (try clear hb))))
                go_roundg k3
                case measure => have := HJ2.out; have := HK2.out; have := HK3.out; omega
                case rel => exact ⟨(decide (t144 ≥ 0)), (true), (wrap64 (x50_3 + 1)), tE, tE, tE, H', ⟨by have := HJ2.out; have := HK2.out; have := HK3.out; omega⟩, ⟨by (with_reducible repeat (first | apply Kd.R_alloc | apply Kd.R_drewN | apply Kd.R_drew)); exact HO_6.out⟩, ⟨by refine bU ?_; exact BK135.out⟩, ⟨by refine bU ?_; exact BK136.out⟩, ⟨by refine bU ?_; exact BK142.out⟩, ⟨by repeat (first | (with_reducible first | exact HB.out | apply below_alloc | apply pw_below_drewN | apply below_drew1 | refine below_set ?_ GE135.out | refine below_set ?_ GE136.out | refine below_set ?_ GE142.out) | exact HB.out)⟩⟩
               ·replace c46 := Bool.eq_false_iff.mpr c46
                subst c46
                have H1 : (if t144 ≥ 0 then (if 0 ≤ t144 then (if t144 < (((rd_T77 l0_2 x40_2).f1).length : Int) then (spec_QueryWorld.l1 k3 x6_2 (decide (t144 ≥ 0)) (decide (((rd_T80 ((rd_T77 l0_2 x40_2).f1) t144).f2) ≥ a1_2)) l0_2 (l0_2.length : Int) x40_2 l1_0 (l1_0.length : Int) (wrap64 (x50_3 + 1)) l1_0 l1_1 a1_2 ((rd_T77 l0_2 x40_2).f0) ((rd_T77 l0_2 x40_2).f1)) else (none)) else (none)) else (spec_QueryWorld.l1 k3 x6_2 (decide (t144 ≥ 0)) false l0_2 (l0_2.length : Int) x40_2 l1_0 (l1_0.length : Int) (wrap64 (x50_3 + 1)) l1_0 l1_1 a1_2 ((rd_T77 l0_2 x40_2).f0) ((rd_T77 l0_2 x40_2).f1))) = some (r1, r2) := by rw [if_neg (show ¬ (false = true) by decide)] at H; exact H
                clear H
                have H := H1
                clear H1
                by_cases c51 : t144 ≥ 0
                ·rw [if_pos c51] at H
                 have c51b0 : decide (0 ≤ t144) = true := decide_eq_true c51
                 clear c51
                 by_cases c52 : 0 ≤ t144
                 ·rw [if_pos c52] at H
                  have c52b0 : decide (0 ≤ t144) = true := decide_eq_true c52
                  clear c52
                  by_cases c53 : t144 < (((rd_T77 l0_2 x40_2).f1).length : Int)
                  ·rw [if_pos c53] at H
                   have c53b0 : decide (t144 < (((rd_T77 l0_2 x40_2).f1).length : Int)) = true := decide_eq_true c53
                   clear c53
                   have H' := Aside0.mk H
                   clear H
                   have p143 : 0 ≤ (x50_3 : Int) := of_decide_eq_true hE
                   have q143 : x50_3 < (l1_0.length : Int) := of_decide_eq_true hE
                   obtain ⟨ad143, e143, hx143_0⟩ := Kd.at_string HR1_0.out x50_3 p143 q143
                   cases e143
                   replace hx143_0 := (HB.out.cell (World.block_lt_of_cell? w _ hx143_0)).trans hx143_0
                   replace p143 := eq_true p143
                   replace q143 := eq_true q143
                   have hnb54 := NB142_135.out
                   have hnc54 := NB135_142.out
                   have hnb55 := NB142_136.out
                   have hnc55 := NB136_142.out
                   have hcz56_0 := cz BK142 0 (.int .i64 ((rd_T77 l0_2 x40_2).f0))
                   have hcz56_1 := cz BK142 1 (.slice A141_1 ((rd_T77 l0_2 x40_2).f1).length c141_1)
                   have hfz56_0 := fz BK142 0
                   have hfz56_1 := fz BK142 1
                   go_wp2_with (first | (go_at_call 43; (with_reducible refine (spec_l3Part.calls k3 ((rd_T77 l0_2 x40_2).f0) _ _ ((rd_T77 l0_2 x40_2).f1) (rdOf ByteArray.empty l1_0 x50_3) t144 _ ?side1 ?side2 A44.out).mono ?_); (case side1 => exact cU (Kd.C_below HR141_1.out HB.out)); (case side2 => exact HC141_1.out); rintro e w57 ⟨rfl, hb⟩; replace HO_6 := Aside0.mk (Kd.R_below (rU HO_6.out) hb); replace BK135 := bB (bV BK135) hb; replace BK136 := bB (bV BK136) hb; replace BK142 := bB (bV BK142) hb; replace HB := bH (lV3 GE135 GE136 GE142) hb; (try clear hb); have hcz58_0 := cz BK142 0 (.int .i64 ((rd_T77 l0_2 x40_2).f0)); have hcz58_1 := cz BK142 1 (.slice A141_1 ((rd_T77 l0_2 x40_2).f1).length c141_1); have hfz58_0 := fz BK142 0; have hfz58_1 := fz BK142 1; have p145 : 0 ≤ (t144 : Int) := of_decide_eq_true hE; have q145 : t144 < (((rd_T77 l0_2 x40_2).f1).length : Int) := of_decide_eq_true hE; obtain ⟨ad145, e145, hx145_0, hx145_1, hx145_2⟩ := at_T80 HR141_1.out t144 p145 q145; cases e145; replace hx145_0 := (HB.out.cell (World.block_lt_of_cell? w _ hx145_0)).trans hx145_0; replace hx145_1 := (HB.out.cell (World.block_lt_of_cell? w _ hx145_1)).trans hx145_1; replace hx145_2 := (HB.out.cell (World.block_lt_of_cell? w _ hx145_2)).trans hx145_2; replace p145 := eq_true p145; replace q145 := eq_true q145; have hnb59 := NB136_135.out; have hnc59 := NB135_136.out; have hcz60_0 := cz BK136 0 (.slice (some ad143) l1_0.length c1_0); have hcz60_1 := cz BK136 1 (.slice A1_1 l1_1.length c1_1); have hcz60_2 := cz BK136 2 (.int .i64 a1_2); have hfz60_0 := fz BK136 0; have hfz60_1 := fz BK136 1; have hfz60_2 := fz BK136 2))
                   repeat (go_quiet (first | (go_at_call 43; (with_reducible refine (spec_l3Part.calls k3 ((rd_T77 l0_2 x40_2).f0) _ _ ((rd_T77 l0_2 x40_2).f1) (rdOf ByteArray.empty l1_0 x50_3) t144 _ ?side1 ?side2 A44.out).mono ?_); (case side1 => exact cU (Kd.C_below HR141_1.out HB.out)); (case side2 => exact HC141_1.out); rintro e w57 ⟨rfl, hb⟩; replace HO_6 := Aside0.mk (Kd.R_below (rU HO_6.out) hb); replace BK135 := bB (bV BK135) hb; replace BK136 := bB (bV BK136) hb; replace BK142 := bB (bV BK142) hb; replace HB := bH (lV3 GE135 GE136 GE142) hb; (try clear hb); have hcz58_0 := cz BK142 0 (.int .i64 ((rd_T77 l0_2 x40_2).f0)); have hcz58_1 := cz BK142 1 (.slice A141_1 ((rd_T77 l0_2 x40_2).f1).length c141_1); have hfz58_0 := fz BK142 0; have hfz58_1 := fz BK142 1; have p145 : 0 ≤ (t144 : Int) := of_decide_eq_true hE; have q145 : t144 < (((rd_T77 l0_2 x40_2).f1).length : Int) := of_decide_eq_true hE; obtain ⟨ad145, e145, hx145_0, hx145_1, hx145_2⟩ := at_T80 HR141_1.out t144 p145 q145; cases e145; replace hx145_0 := (HB.out.cell (World.block_lt_of_cell? w _ hx145_0)).trans hx145_0; replace hx145_1 := (HB.out.cell (World.block_lt_of_cell? w _ hx145_1)).trans hx145_1; replace hx145_2 := (HB.out.cell (World.block_lt_of_cell? w _ hx145_2)).trans hx145_2; replace p145 := eq_true p145; replace q145 := eq_true q145; have hnb59 := NB136_135.out; have hnc59 := NB135_136.out; have hcz60_0 := cz BK136 0 (.slice (some ad143) l1_0.length c1_0); have hcz60_1 := cz BK136 1 (.slice A1_1 l1_1.length c1_1); have hcz60_2 := cz BK136 2 (.int .i64 a1_2); have hfz60_0 := fz BK136 0; have hfz60_1 := fz BK136 1; have hfz60_2 := fz BK136 2)); try go_wp2_with (first | (go_at_call 43; (with_reducible refine (spec_l3Part.calls k3 ((rd_T77 l0_2 x40_2).f0) _ _ ((rd_T77 l0_2 x40_2).f1) (rdOf ByteArray.empty l1_0 x50_3) t144 _ ?side1 ?side2 A44.out).mono ?_); (case side1 => exact cU (Kd.C_below HR141_1.out HB.out)); (case side2 => exact HC141_1.out); rintro e w57 ⟨rfl, hb⟩; replace HO_6 := Aside0.mk (Kd.R_below (rU HO_6.out) hb); replace BK135 := bB (bV BK135) hb; replace BK136 := bB (bV BK136) hb; replace BK142 := bB (bV BK142) hb; replace HB := bH (lV3 GE135 GE136 GE142) hb; (try clear hb); have hcz58_0 := cz BK142 0 (.int .i64 ((rd_T77 l0_2 x40_2).f0)); have hcz58_1 := cz BK142 1 (.slice A141_1 ((rd_T77 l0_2 x40_2).f1).length c141_1); have hfz58_0 := fz BK142 0; have hfz58_1 := fz BK142 1; have p145 : 0 ≤ (t144 : Int) := of_decide_eq_true hE; have q145 : t144 < (((rd_T77 l0_2 x40_2).f1).length : Int) := of_decide_eq_true hE; obtain ⟨ad145, e145, hx145_0, hx145_1, hx145_2⟩ := at_T80 HR141_1.out t144 p145 q145; cases e145; replace hx145_0 := (HB.out.cell (World.block_lt_of_cell? w _ hx145_0)).trans hx145_0; replace hx145_1 := (HB.out.cell (World.block_lt_of_cell? w _ hx145_1)).trans hx145_1; replace hx145_2 := (HB.out.cell (World.block_lt_of_cell? w _ hx145_2)).trans hx145_2; replace p145 := eq_true p145; replace q145 := eq_true q145; have hnb59 := NB136_135.out; have hnc59 := NB135_136.out; have hcz60_0 := cz BK136 0 (.slice (some ad143) l1_0.length c1_0); have hcz60_1 := cz BK136 1 (.slice A1_1 l1_1.length c1_1); have hcz60_2 := cz BK136 2 (.int .i64 a1_2); have hfz60_0 := fz BK136 0; have hfz60_1 := fz BK136 1; have hfz60_2 := fz BK136 2)))
                   go_roundg k3
                   case measure => have := HJ2.out; have := HK2.out; have := HK3.out; omega
                   case rel => exact ⟨(decide (t144 ≥ 0)), (decide (((rd_T80 ((rd_T77 l0_2 x40_2).f1) t144).f2) ≥ a1_2)), (wrap64 (x50_3 + 1)), tE, tE, tE, H', ⟨by have := HJ2.out; have := HK2.out; have := HK3.out; omega⟩, ⟨by (with_reducible repeat (first | apply Kd.R_alloc | apply Kd.R_drewN | apply Kd.R_drew)); exact HO_6.out⟩, ⟨by refine bU ?_; exact BK135.out⟩, ⟨by refine bU ?_; exact BK136.out⟩, ⟨by refine bU ?_; exact BK142.out⟩, ⟨by repeat (first | (with_reducible first | exact HB.out | apply below_alloc | apply pw_below_drewN | apply below_drew1 | refine below_set ?_ GE135.out | refine below_set ?_ GE136.out | refine below_set ?_ GE142.out) | exact HB.out)⟩⟩
                  ·rw [if_neg c53] at H
                   exact absurd H (by simp)
                 ·rw [if_neg c52] at H
                  exact absurd H (by simp)
                ·rw [if_neg c51] at H
                 have c51b0 : decide (0 ≤ t144) = false := decide_eq_false c51
                 clear c51
                 have H' := Aside0.mk H
                 clear H
                 have p143 : 0 ≤ (x50_3 : Int) := of_decide_eq_true hE
                 have q143 : x50_3 < (l1_0.length : Int) := of_decide_eq_true hE
                 obtain ⟨ad143, e143, hx143_0⟩ := Kd.at_string HR1_0.out x50_3 p143 q143
                 cases e143
                 replace hx143_0 := (HB.out.cell (World.block_lt_of_cell? w _ hx143_0)).trans hx143_0
                 replace p143 := eq_true p143
                 replace q143 := eq_true q143
                 have hnb61 := NB142_135.out
                 have hnc61 := NB135_142.out
                 have hnb62 := NB142_136.out
                 have hnc62 := NB136_142.out
                 have hcz63_0 := cz BK142 0 (.int .i64 ((rd_T77 l0_2 x40_2).f0))
                 have hcz63_1 := cz BK142 1 (.slice A141_1 ((rd_T77 l0_2 x40_2).f1).length c141_1)
                 have hfz63_0 := fz BK142 0
                 have hfz63_1 := fz BK142 1
                 go_wp2_with (first | (go_at_call 43; (with_reducible refine (spec_l3Part.calls k3 ((rd_T77 l0_2 x40_2).f0) _ _ ((rd_T77 l0_2 x40_2).f1) (rdOf ByteArray.empty l1_0 x50_3) t144 _ ?side1 ?side2 A44.out).mono ?_); (case side1 => exact cU (Kd.C_below HR141_1.out HB.out)); (case side2 => exact HC141_1.out); rintro e w64 ⟨rfl, hb⟩; replace HO_6 := Aside0.mk (Kd.R_below (rU HO_6.out) hb); replace BK135 := bB (bV BK135) hb; replace BK136 := bB (bV BK136) hb; replace BK142 := bB (bV BK142) hb; replace HB := bH (lV3 GE135 GE136 GE142) hb; (try clear hb)))
                 repeat (go_quiet (first | (go_at_call 43; (with_reducible refine (spec_l3Part.calls k3 ((rd_T77 l0_2 x40_2).f0) _ _ ((rd_T77 l0_2 x40_2).f1) (rdOf ByteArray.empty l1_0 x50_3) t144 _ ?side1 ?side2 A44.out).mono ?_); (case side1 => exact cU (Kd.C_below HR141_1.out HB.out)); (case side2 => exact HC141_1.out); rintro e w64 ⟨rfl, hb⟩; replace HO_6 := Aside0.mk (Kd.R_below (rU HO_6.out) hb); replace BK135 := bB (bV BK135) hb; replace BK136 := bB (bV BK136) hb; replace BK142 := bB (bV BK142) hb; replace HB := bH (lV3 GE135 GE136 GE142) hb; (try clear hb))); try go_wp2_with (first | (go_at_call 43; (with_reducible refine (spec_l3Part.calls k3 ((rd_T77 l0_2 x40_2).f0) _ _ ((rd_T77 l0_2 x40_2).f1) (rdOf ByteArray.empty l1_0 x50_3) t144 _ ?side1 ?side2 A44.out).mono ?_); (case side1 => exact cU (Kd.C_below HR141_1.out HB.out)); (case side2 => exact HC141_1.out); rintro e w64 ⟨rfl, hb⟩; replace HO_6 := Aside0.mk (Kd.R_below (rU HO_6.out) hb); replace BK135 := bB (bV BK135) hb; replace BK136 := bB (bV BK136) hb; replace BK142 := bB (bV BK142) hb; replace HB := bH (lV3 GE135 GE136 GE142) hb; (try clear hb))))
                 go_roundg k3
                 case measure => have := HJ2.out; have := HK2.out; have := HK3.out; omega
                 case rel => exact ⟨(decide (t144 ≥ 0)), (false), (wrap64 (x50_3 + 1)), tE, tE, tE, H', ⟨by have := HJ2.out; have := HK2.out; have := HK3.out; omega⟩, ⟨by (with_reducible repeat (first | apply Kd.R_alloc | apply Kd.R_drewN | apply Kd.R_drew)); exact HO_6.out⟩, ⟨by refine bU ?_; exact BK135.out⟩, ⟨by refine bU ?_; exact BK136.out⟩, ⟨by refine bU ?_; exact BK142.out⟩, ⟨by repeat (first | (with_reducible first | exact HB.out | apply below_alloc | apply pw_below_drewN | apply below_drew1 | refine below_set ?_ GE135.out | refine below_set ?_ GE136.out | refine below_set ?_ GE142.out) | exact HB.out)⟩⟩
              ·replace c45 := Bool.eq_false_iff.mpr c45
               subst c45
               have H1 : (if x10_3 = true then (spec_QueryWorld.l1 k3 x6_2 false true l0_2 (l0_2.length : Int) x40_2 l1_0 (l1_0.length : Int) (wrap64 (x50_3 + 1)) l1_0 l1_1 a1_2 ((rd_T77 l0_2 x40_2).f0) ((rd_T77 l0_2 x40_2).f1)) else (if t144 ≥ 0 then (if 0 ≤ t144 then (if t144 < (((rd_T77 l0_2 x40_2).f1).length : Int) then (spec_QueryWorld.l1 k3 x6_2 false (decide (((rd_T80 ((rd_T77 l0_2 x40_2).f1) t144).f2) ≥ a1_2)) l0_2 (l0_2.length : Int) x40_2 l1_0 (l1_0.length : Int) (wrap64 (x50_3 + 1)) l1_0 l1_1 a1_2 ((rd_T77 l0_2 x40_2).f0) ((rd_T77 l0_2 x40_2).f1)) else (none)) else (none)) else (spec_QueryWorld.l1 k3 x6_2 false false l0_2 (l0_2.length : Int) x40_2 l1_0 (l1_0.length : Int) (wrap64 (x50_3 + 1)) l1_0 l1_1 a1_2 ((rd_T77 l0_2 x40_2).f0) ((rd_T77 l0_2 x40_2).f1)))) = some (r1, r2) := by rw [if_neg (show ¬ (false = true) by decide)] at H; exact H
               clear H
               have H := H1
               clear H1
               by_cases c65 : x10_3 = true
               ·subst c65
                have H1 : (spec_QueryWorld.l1 k3 x6_2 false true l0_2 (l0_2.length : Int) x40_2 l1_0 (l1_0.length : Int) (wrap64 (x50_3 + 1)) l1_0 l1_1 a1_2 ((rd_T77 l0_2 x40_2).f0) ((rd_T77 l0_2 x40_2).f1)) = some (r1, r2) := by rw [if_pos rfl] at H; exact H
                clear H
                have H := H1
                clear H1
                have H' := Aside0.mk H
                clear H
                have p143 : 0 ≤ (x50_3 : Int) := of_decide_eq_true hE
                have q143 : x50_3 < (l1_0.length : Int) := of_decide_eq_true hE
                obtain ⟨ad143, e143, hx143_0⟩ := Kd.at_string HR1_0.out x50_3 p143 q143
                cases e143
                replace hx143_0 := (HB.out.cell (World.block_lt_of_cell? w _ hx143_0)).trans hx143_0
                replace p143 := eq_true p143
                replace q143 := eq_true q143
                have hnb66 := NB142_135.out
                have hnc66 := NB135_142.out
                have hnb67 := NB142_136.out
                have hnc67 := NB136_142.out
                have hcz68_0 := cz BK142 0 (.int .i64 ((rd_T77 l0_2 x40_2).f0))
                have hcz68_1 := cz BK142 1 (.slice A141_1 ((rd_T77 l0_2 x40_2).f1).length c141_1)
                have hfz68_0 := fz BK142 0
                have hfz68_1 := fz BK142 1
                go_wp2_with (first | (go_at_call 43; (with_reducible refine (spec_l3Part.calls k3 ((rd_T77 l0_2 x40_2).f0) _ _ ((rd_T77 l0_2 x40_2).f1) (rdOf ByteArray.empty l1_0 x50_3) t144 _ ?side1 ?side2 A44.out).mono ?_); (case side1 => exact cU (Kd.C_below HR141_1.out HB.out)); (case side2 => exact HC141_1.out); rintro e w69 ⟨rfl, hb⟩; replace HO_6 := Aside0.mk (Kd.R_below (rU HO_6.out) hb); replace BK135 := bB (bV BK135) hb; replace BK136 := bB (bV BK136) hb; replace BK142 := bB (bV BK142) hb; replace HB := bH (lV3 GE135 GE136 GE142) hb; (try clear hb)))
                repeat (go_quiet (first | (go_at_call 43; (with_reducible refine (spec_l3Part.calls k3 ((rd_T77 l0_2 x40_2).f0) _ _ ((rd_T77 l0_2 x40_2).f1) (rdOf ByteArray.empty l1_0 x50_3) t144 _ ?side1 ?side2 A44.out).mono ?_); (case side1 => exact cU (Kd.C_below HR141_1.out HB.out)); (case side2 => exact HC141_1.out); rintro e w69 ⟨rfl, hb⟩; replace HO_6 := Aside0.mk (Kd.R_below (rU HO_6.out) hb); replace BK135 := bB (bV BK135) hb; replace BK136 := bB (bV BK136) hb; replace BK142 := bB (bV BK142) hb; replace HB := bH (lV3 GE135 GE136 GE142) hb; (try clear hb))); try go_wp2_with (first | (go_at_call 43; (with_reducible refine (spec_l3Part.calls k3 ((rd_T77 l0_2 x40_2).f0) _ _ ((rd_T77 l0_2 x40_2).f1) (rdOf ByteArray.empty l1_0 x50_3) t144 _ ?side1 ?side2 A44.out).mono ?_); (case side1 => exact cU (Kd.C_below HR141_1.out HB.out)); (case side2 => exact HC141_1.out); rintro e w69 ⟨rfl, hb⟩; replace HO_6 := Aside0.mk (Kd.R_below (rU HO_6.out) hb); replace BK135 := bB (bV BK135) hb; replace BK136 := bB (bV BK136) hb; replace BK142 := bB (bV BK142) hb; replace HB := bH (lV3 GE135 GE136 GE142) hb; (try clear hb))))
                go_roundg k3
                case measure => have := HJ2.out; have := HK2.out; have := HK3.out; omega
                case rel => exact ⟨(false), (true), (wrap64 (x50_3 + 1)), tE, tE, tE, H', ⟨by have := HJ2.out; have := HK2.out; have := HK3.out; omega⟩, ⟨by (with_reducible repeat (first | apply Kd.R_alloc | apply Kd.R_drewN | apply Kd.R_drew)); exact HO_6.out⟩, ⟨by refine bU ?_; exact BK135.out⟩, ⟨by refine bU ?_; exact BK136.out⟩, ⟨by refine bU ?_; exact BK142.out⟩, ⟨by repeat (first | (with_reducible first | exact HB.out | apply below_alloc | apply pw_below_drewN | apply below_drew1 | refine below_set ?_ GE135.out | refine below_set ?_ GE136.out | refine below_set ?_ GE142.out) | exact HB.out)⟩⟩
               ·replace c65 := Bool.eq_false_iff.mpr c65
                subst c65
                have H1 : (if t144 ≥ 0 then (if 0 ≤ t144 then (if t144 < (((rd_T77 l0_2 x40_2).f1).length : Int) then (spec_QueryWorld.l1 k3 x6_2 false (decide (((rd_T80 ((rd_T77 l0_2 x40_2).f1) t144).f2) ≥ a1_2)) l0_2 (l0_2.length : Int) x40_2 l1_0 (l1_0.length : Int) (wrap64 (x50_3 + 1)) l1_0 l1_1 a1_2 ((rd_T77 l0_2 x40_2).f0) ((rd_T77 l0_2 x40_2).f1)) else (none)) else (none)) else (spec_QueryWorld.l1 k3 x6_2 false false l0_2 (l0_2.length : Int) x40_2 l1_0 (l1_0.length : Int) (wrap64 (x50_3 + 1)) l1_0 l1_1 a1_2 ((rd_T77 l0_2 x40_2).f0) ((rd_T77 l0_2 x40_2).f1))) = some (r1, r2) := by rw [if_neg (show ¬ (false = true) by decide)] at H; exact H
                clear H
                have H := H1
                clear H1
                by_cases c70 : t144 ≥ 0
                ·rw [if_pos c70] at H
                 have c70b0 : decide (0 ≤ t144) = true := decide_eq_true c70
                 clear c70
                 by_cases c71 : 0 ≤ t144
                 ·rw [if_pos c71] at H
                  have c71b0 : decide (0 ≤ t144) = true := decide_eq_true c71
                  clear c71
                  by_cases c72 : t144 < (((rd_T77 l0_2 x40_2).f1).length : Int)
                  ·rw [if_pos c72] at H
                   have c72b0 : decide (t144 < (((rd_T77 l0_2 x40_2).f1).length : Int)) = true := decide_eq_true c72
                   clear c72
                   have H' := Aside0.mk H
                   clear H
                   have p143 : 0 ≤ (x50_3 : Int) := of_decide_eq_true hE
                   have q143 : x50_3 < (l1_0.length : Int) := of_decide_eq_true hE
                   obtain ⟨ad143, e143, hx143_0⟩ := Kd.at_string HR1_0.out x50_3 p143 q143
                   cases e143
                   replace hx143_0 := (HB.out.cell (World.block_lt_of_cell? w _ hx143_0)).trans hx143_0
                   replace p143 := eq_true p143
                   replace q143 := eq_true q143
                   have hnb73 := NB142_135.out
                   have hnc73 := NB135_142.out
                   have hnb74 := NB142_136.out
                   have hnc74 := NB136_142.out
                   have hcz75_0 := cz BK142 0 (.int .i64 ((rd_T77 l0_2 x40_2).f0))
                   have hcz75_1 := cz BK142 1 (.slice A141_1 ((rd_T77 l0_2 x40_2).f1).length c141_1)
                   have hfz75_0 := fz BK142 0
                   have hfz75_1 := fz BK142 1
                   go_wp2_with (first | (go_at_call 43; (with_reducible refine (spec_l3Part.calls k3 ((rd_T77 l0_2 x40_2).f0) _ _ ((rd_T77 l0_2 x40_2).f1) (rdOf ByteArray.empty l1_0 x50_3) t144 _ ?side1 ?side2 A44.out).mono ?_); (case side1 => exact cU (Kd.C_below HR141_1.out HB.out)); (case side2 => exact HC141_1.out); rintro e w76 ⟨rfl, hb⟩; replace HO_6 := Aside0.mk (Kd.R_below (rU HO_6.out) hb); replace BK135 := bB (bV BK135) hb; replace BK136 := bB (bV BK136) hb; replace BK142 := bB (bV BK142) hb; replace HB := bH (lV3 GE135 GE136 GE142) hb; (try clear hb); have hcz77_0 := cz BK142 0 (.int .i64 ((rd_T77 l0_2 x40_2).f0)); have hcz77_1 := cz BK142 1 (.slice A141_1 ((rd_T77 l0_2 x40_2).f1).length c141_1); have hfz77_0 := fz BK142 0; have hfz77_1 := fz BK142 1; have p146 : 0 ≤ (t144 : Int) := of_decide_eq_true hE; have q146 : t144 < (((rd_T77 l0_2 x40_2).f1).length : Int) := of_decide_eq_true hE; obtain ⟨ad146, e146, hx146_0, hx146_1, hx146_2⟩ := at_T80 HR141_1.out t144 p146 q146; cases e146; replace hx146_0 := (HB.out.cell (World.block_lt_of_cell? w _ hx146_0)).trans hx146_0; replace hx146_1 := (HB.out.cell (World.block_lt_of_cell? w _ hx146_1)).trans hx146_1; replace hx146_2 := (HB.out.cell (World.block_lt_of_cell? w _ hx146_2)).trans hx146_2; replace p146 := eq_true p146; replace q146 := eq_true q146; have hnb78 := NB136_135.out; have hnc78 := NB135_136.out; have hcz79_0 := cz BK136 0 (.slice (some ad143) l1_0.length c1_0); have hcz79_1 := cz BK136 1 (.slice A1_1 l1_1.length c1_1); have hcz79_2 := cz BK136 2 (.int .i64 a1_2); have hfz79_0 := fz BK136 0; have hfz79_1 := fz BK136 1; have hfz79_2 := fz BK136 2))
                   repeat (go_quiet (first | (go_at_call 43; (with_reducible refine (spec_l3Part.calls k3 ((rd_T77 l0_2 x40_2).f0) _ _ ((rd_T77 l0_2 x40_2).f1) (rdOf ByteArray.empty l1_0 x50_3) t144 _ ?side1 ?side2 A44.out).mono ?_); (case side1 => exact cU (Kd.C_below HR141_1.out HB.out)); (case side2 => exact HC141_1.out); rintro e w76 ⟨rfl, hb⟩; replace HO_6 := Aside0.mk (Kd.R_below (rU HO_6.out) hb); replace BK135 := bB (bV BK135) hb; replace BK136 := bB (bV BK136) hb; replace BK142 := bB (bV BK142) hb; replace HB := bH (lV3 GE135 GE136 GE142) hb; (try clear hb); have hcz77_0 := cz BK142 0 (.int .i64 ((rd_T77 l0_2 x40_2).f0)); have hcz77_1 := cz BK142 1 (.slice A141_1 ((rd_T77 l0_2 x40_2).f1).length c141_1); have hfz77_0 := fz BK142 0; have hfz77_1 := fz BK142 1; have p146 : 0 ≤ (t144 : Int) := of_decide_eq_true hE; have q146 : t144 < (((rd_T77 l0_2 x40_2).f1).length : Int) := of_decide_eq_true hE; obtain ⟨ad146, e146, hx146_0, hx146_1, hx146_2⟩ := at_T80 HR141_1.out t144 p146 q146; cases e146; replace hx146_0 := (HB.out.cell (World.block_lt_of_cell? w _ hx146_0)).trans hx146_0; replace hx146_1 := (HB.out.cell (World.block_lt_of_cell? w _ hx146_1)).trans hx146_1; replace hx146_2 := (HB.out.cell (World.block_lt_of_cell? w _ hx146_2)).trans hx146_2; replace p146 := eq_true p146; replace q146 := eq_true q146; have hnb78 := NB136_135.out; have hnc78 := NB135_136.out; have hcz79_0 := cz BK136 0 (.slice (some ad143) l1_0.length c1_0); have hcz79_1 := cz BK136 1 (.slice A1_1 l1_1.length c1_1); have hcz79_2 := cz BK136 2 (.int .i64 a1_2); have hfz79_0 := fz BK136 0; have hfz79_1 := fz BK136 1; have hfz79_2 := fz BK136 2)); try go_wp2_with (first | (go_at_call 43; (with_reducible refine (spec_l3Part.calls k3 ((rd_T77 l0_2 x40_2).f0) _ _ ((rd_T77 l0_2 x40_2).f1) (rdOf ByteArray.empty l1_0 x50_3) t144 _ ?side1 ?side2 A44.out).mono ?_); (case side1 => exact cU (Kd.C_below HR141_1.out HB.out)); (case side2 => exact HC141_1.out); rintro e w76 ⟨rfl, hb⟩; replace HO_6 := Aside0.mk (Kd.R_below (rU HO_6.out) hb); replace BK135 := bB (bV BK135) hb; replace BK136 := bB (bV BK136) hb; replace BK142 := bB (bV BK142) hb; replace HB := bH (lV3 GE135 GE136 GE142) hb; (try clear hb); have hcz77_0 := cz BK142 0 (.int .i64 ((rd_T77 l0_2 x40_2).f0)); have hcz77_1 := cz BK142 1 (.slice A141_1 ((rd_T77 l0_2 x40_2).f1).length c141_1); have hfz77_0 := fz BK142 0; have hfz77_1 := fz BK142 1; have p146 : 0 ≤ (t144 : Int) := of_decide_eq_true hE; have q146 : t144 < (((rd_T77 l0_2 x40_2).f1).length : Int) := of_decide_eq_true hE; obtain ⟨ad146, e146, hx146_0, hx146_1, hx146_2⟩ := at_T80 HR141_1.out t144 p146 q146; cases e146; replace hx146_0 := (HB.out.cell (World.block_lt_of_cell? w _ hx146_0)).trans hx146_0; replace hx146_1 := (HB.out.cell (World.block_lt_of_cell? w _ hx146_1)).trans hx146_1; replace hx146_2 := (HB.out.cell (World.block_lt_of_cell? w _ hx146_2)).trans hx146_2; replace p146 := eq_true p146; replace q146 := eq_true q146; have hnb78 := NB136_135.out; have hnc78 := NB135_136.out; have hcz79_0 := cz BK136 0 (.slice (some ad143) l1_0.length c1_0); have hcz79_1 := cz BK136 1 (.slice A1_1 l1_1.length c1_1); have hcz79_2 := cz BK136 2 (.int .i64 a1_2); have hfz79_0 := fz BK136 0; have hfz79_1 := fz BK136 1; have hfz79_2 := fz BK136 2)))
                   go_roundg k3
                   case measure => have := HJ2.out; have := HK2.out; have := HK3.out; omega
                   case rel => exact ⟨(false), (decide (((rd_T80 ((rd_T77 l0_2 x40_2).f1) t144).f2) ≥ a1_2)), (wrap64 (x50_3 + 1)), tE, tE, tE, H', ⟨by have := HJ2.out; have := HK2.out; have := HK3.out; omega⟩, ⟨by (with_reducible repeat (first | apply Kd.R_alloc | apply Kd.R_drewN | apply Kd.R_drew)); exact HO_6.out⟩, ⟨by refine bU ?_; exact BK135.out⟩, ⟨by refine bU ?_; exact BK136.out⟩, ⟨by refine bU ?_; exact BK142.out⟩, ⟨by repeat (first | (with_reducible first | exact HB.out | apply below_alloc | apply pw_below_drewN | apply below_drew1 | refine below_set ?_ GE135.out | refine below_set ?_ GE136.out | refine below_set ?_ GE142.out) | exact HB.out)⟩⟩
                  ·rw [if_neg c72] at H
                   exact absurd H (by simp)
                 ·rw [if_neg c71] at H
                  exact absurd H (by simp)
                ·rw [if_neg c70] at H
                 have c70b0 : decide (0 ≤ t144) = false := decide_eq_false c70
                 clear c70
                 have H' := Aside0.mk H
                 clear H
                 have p143 : 0 ≤ (x50_3 : Int) := of_decide_eq_true hE
                 have q143 : x50_3 < (l1_0.length : Int) := of_decide_eq_true hE
                 obtain ⟨ad143, e143, hx143_0⟩ := Kd.at_string HR1_0.out x50_3 p143 q143
                 cases e143
                 replace hx143_0 := (HB.out.cell (World.block_lt_of_cell? w _ hx143_0)).trans hx143_0
                 replace p143 := eq_true p143
                 replace q143 := eq_true q143
                 have hnb80 := NB142_135.out
                 have hnc80 := NB135_142.out
                 have hnb81 := NB142_136.out
                 have hnc81 := NB136_142.out
                 have hcz82_0 := cz BK142 0 (.int .i64 ((rd_T77 l0_2 x40_2).f0))
                 have hcz82_1 := cz BK142 1 (.slice A141_1 ((rd_T77 l0_2 x40_2).f1).length c141_1)
                 have hfz82_0 := fz BK142 0
                 have hfz82_1 := fz BK142 1
                 go_wp2_with (first | (go_at_call 43; (with_reducible refine (spec_l3Part.calls k3 ((rd_T77 l0_2 x40_2).f0) _ _ ((rd_T77 l0_2 x40_2).f1) (rdOf ByteArray.empty l1_0 x50_3) t144 _ ?side1 ?side2 A44.out).mono ?_); (case side1 => exact cU (Kd.C_below HR141_1.out HB.out)); (case side2 => exact HC141_1.out); rintro e w83 ⟨rfl, hb⟩; replace HO_6 := Aside0.mk (Kd.R_below (rU HO_6.out) hb); replace BK135 := bB (bV BK135) hb; replace BK136 := bB (bV BK136) hb; replace BK142 := bB (bV BK142) hb; replace HB := bH (lV3 GE135 GE136 GE142) hb; (try clear hb)))
                 repeat (go_quiet (first | (go_at_call 43; (with_reducible refine (spec_l3Part.calls k3 ((rd_T77 l0_2 x40_2).f0) _ _ ((rd_T77 l0_2 x40_2).f1) (rdOf ByteArray.empty l1_0 x50_3) t144 _ ?side1 ?side2 A44.out).mono ?_); (case side1 => exact cU (Kd.C_below HR141_1.out HB.out)); (case side2 => exact HC141_1.out); rintro e w83 ⟨rfl, hb⟩; replace HO_6 := Aside0.mk (Kd.R_below (rU HO_6.out) hb); replace BK135 := bB (bV BK135) hb; replace BK136 := bB (bV BK136) hb; replace BK142 := bB (bV BK142) hb; replace HB := bH (lV3 GE135 GE136 GE142) hb; (try clear hb))); try go_wp2_with (first | (go_at_call 43; (with_reducible refine (spec_l3Part.calls k3 ((rd_T77 l0_2 x40_2).f0) _ _ ((rd_T77 l0_2 x40_2).f1) (rdOf ByteArray.empty l1_0 x50_3) t144 _ ?side1 ?side2 A44.out).mono ?_); (case side1 => exact cU (Kd.C_below HR141_1.out HB.out)); (case side2 => exact HC141_1.out); rintro e w83 ⟨rfl, hb⟩; replace HO_6 := Aside0.mk (Kd.R_below (rU HO_6.out) hb); replace BK135 := bB (bV BK135) hb; replace BK136 := bB (bV BK136) hb; replace BK142 := bB (bV BK142) hb; replace HB := bH (lV3 GE135 GE136 GE142) hb; (try clear hb))))
                 go_roundg k3
                 case measure => have := HJ2.out; have := HK2.out; have := HK3.out; omega
                 case rel => exact ⟨(false), (false), (wrap64 (x50_3 + 1)), tE, tE, tE, H', ⟨by have := HJ2.out; have := HK2.out; have := HK3.out; omega⟩, ⟨by (with_reducible repeat (first | apply Kd.R_alloc | apply Kd.R_drewN | apply Kd.R_drew)); exact HO_6.out⟩, ⟨by refine bU ?_; exact BK135.out⟩, ⟨by refine bU ?_; exact BK136.out⟩, ⟨by refine bU ?_; exact BK142.out⟩, ⟨by repeat (first | (with_reducible first | exact HB.out | apply below_alloc | apply pw_below_drewN | apply below_drew1 | refine below_set ?_ GE135.out | refine below_set ?_ GE136.out | refine below_set ?_ GE142.out) | exact HB.out)⟩⟩
             ·rw [if_neg c43] at H
              exact absurd H (by simp)
            ·rw [if_neg c42] at H
             exact absurd H (by simp)
           ·rw [if_neg c41] at H
            have c41b0 : decide (x50_3 < (l1_0.length : Int)) = false := decide_eq_false c41
            clear c41
            have H' := Aside0.mk H
            clear H
            have hnb84 := NB136_135.out
            have hnc84 := NB135_136.out
            have hnb85 := NB136_142.out
            have hnc85 := NB142_136.out
            have hcz86_0 := cz BK136 0 (.slice A1_0 l1_0.length c1_0)
            have hcz86_1 := cz BK136 1 (.slice A1_1 l1_1.length c1_1)
            have hcz86_2 := cz BK136 2 (.int .i64 a1_2)
            have hfz86_0 := fz BK136 0
            have hfz86_1 := fz BK136 1
            have hfz86_2 := fz BK136 2
            go_wp2
            repeat (go_quiet (fail); try go_wp2)
            go_loopg [9, 82] k3 (fun kq v9 v82 w' => ∃ (x9_4 : Bool) (x82_4 : Int), v9 = .bool x9_4 ∧ v82 = .int .i64 x82_4 ∧ Aside0 (spec_QueryWorld.l2 kq x6_2 x9_4 x10_3 l0_2 (l0_2.length : Int) x40_2 l1_1 (l1_1.length : Int) x82_4 l1_0 l1_1 a1_2 ((rd_T77 l0_2 x40_2).f0) ((rd_T77 l0_2 x40_2).f1) = some (r1, r2)) ∧ Aside0 (kq ≤ k3) ∧ Aside0 (Kd.R (Kd.int .i64) 3 w' w.heap.size (fun _ => True) u6 x6_2) ∧ Aside0 (w'.heap[gb135]? = some (.cells #[.int .i64 a0_0, .int .i64 a0_1, (.slice (some ad141) l0_2.length c0_2)] 50 (0, 0))) ∧ Aside0 (w'.heap[gb136]? = some (.cells #[(.slice A1_0 l1_0.length c1_0), (.slice A1_1 l1_1.length c1_1), .int .i64 a1_2] 52 (0, 0))) ∧ Aside0 (w'.heap[gb142]? = some (.cells #[.int .i64 ((rd_T77 l0_2 x40_2).f0), (.slice A141_1 ((rd_T77 l0_2 x40_2).f1).length c141_1)] 77 (0, 0))) ∧ Aside0 (Below w.heap.size w w'))
            case atStart => exact ⟨(x9_3), (0), tE, tE, H', ⟨Nat.le_refl _⟩, ⟨by (with_reducible repeat (first | apply Kd.R_alloc | apply Kd.R_drewN | apply Kd.R_drew)); exact HO_6.out⟩, ⟨by refine bU ?_; exact BK135.out⟩, ⟨by refine bU ?_; exact BK136.out⟩, ⟨by refine bU ?_; exact BK142.out⟩, ⟨by repeat (first | (with_reducible first | exact HB.out | apply below_alloc | apply pw_below_drewN | apply below_drew1 | refine below_set ?_ GE135.out | refine below_set ?_ GE136.out | refine below_set ?_ GE142.out) | exact HB.out)⟩⟩
            case round =>
             clear H'
             try clear c1
             try clear p1
             try clear q1
             try clear hx1
             try clear c2
             try clear p2
             try clear c3
             try clear c4
             try clear c5
             try clear c6
             try clear p6
             try clear c7
             try clear c8
             try clear c9
             try clear c11
             try clear c13
             try clear c14
             try clear p14
             try clear q14
             try clear hx14
             try clear c17
             try clear c21
             try clear c25
             try clear c28
             try clear c29
             try clear c31
             try clear c31b0
             try clear c32
             try clear c32b0
             try clear c33
             try clear c33b0
             try clear c35
             try clear c36
             try clear c39
             try clear c41
             try clear c41b0
             try clear c42
             try clear c42b0
             try clear c43
             try clear c43b0
             try clear c45
             try clear c46
             try clear c47
             try clear c48
             try clear c51
             try clear c51b0
             try clear c52
             try clear c52b0
             try clear c53
             try clear c53b0
             try clear c54
             try clear c55
             try clear c59
             try clear c61
             try clear c62
             try clear p64
             try clear c65
             try clear c66
             try clear c67
             try clear c70
             try clear c70b0
             try clear c71
             try clear c71b0
             try clear c72
             try clear c72b0
             try clear c73
             try clear c74
             try clear c78
             try clear c80
             try clear c81
             try clear c84
             try clear c85
             try clear hcz14_0
             try clear hcz14_1
             try clear hcz14_2
             try clear hcz16_0
             try clear hcz16_1
             try clear hcz16_2
             try clear hcz18_0
             try clear hcz18_1
             try clear hcz18_2
             try clear hcz20_0
             try clear hcz20_1
             try clear hcz20_2
             try clear hcz22_0
             try clear hcz22_1
             try clear hcz22_2
             try clear hcz24_0
             try clear hcz24_1
             try clear hcz24_2
             try clear hcz26_0
             try clear hcz26_1
             try clear hcz26_2
             try clear hcz30_0
             try clear hcz30_1
             try clear hcz30_2
             try clear hcz37_0
             try clear hcz37_1
             try clear hcz40_0
             try clear hcz40_1
             try clear hcz40_2
             try clear hcz49_0
             try clear hcz49_1
             try clear hcz56_0
             try clear hcz56_1
             try clear hcz58_0
             try clear hcz58_1
             try clear hcz60_0
             try clear hcz60_1
             try clear hcz60_2
             try clear hcz63_0
             try clear hcz63_1
             try clear hcz68_0
             try clear hcz68_1
             try clear hcz75_0
             try clear hcz75_1
             try clear hcz77_0
             try clear hcz77_1
             try clear hcz79_0
             try clear hcz79_1
             try clear hcz79_2
             try clear hcz82_0
             try clear hcz82_1
             try clear hcz86_0
             try clear hcz86_1
             try clear hcz86_2
             try clear hfz14_0
             try clear hfz14_1
             try clear hfz14_2
             try clear hfz16_0
             try clear hfz16_1
             try clear hfz16_2
             try clear hfz18_0
             try clear hfz18_1
             try clear hfz18_2
             try clear hfz20_0
             try clear hfz20_1
             try clear hfz20_2
             try clear hfz22_0
             try clear hfz22_1
             try clear hfz22_2
             try clear hfz24_0
             try clear hfz24_1
             try clear hfz24_2
             try clear hfz26_0
             try clear hfz26_1
             try clear hfz26_2
             try clear hfz30_0
             try clear hfz30_1
             try clear hfz30_2
             try clear hfz37_0
             try clear hfz37_1
             try clear hfz40_0
             try clear hfz40_1
             try clear hfz40_2
             try clear hfz49_0
             try clear hfz49_1
             try clear hfz56_0
             try clear hfz56_1
             try clear hfz58_0
             try clear hfz58_1
             try clear hfz60_0
             try clear hfz60_1
             try clear hfz60_2
             try clear hfz63_0
             try clear hfz63_1
             try clear hfz68_0
             try clear hfz68_1
             try clear hfz75_0
             try clear hfz75_1
             try clear hfz77_0
             try clear hfz77_1
             try clear hfz79_0
             try clear hfz79_1
             try clear hfz79_2
             try clear hfz82_0
             try clear hfz82_1
             try clear hfz86_0
             try clear hfz86_1
             try clear hfz86_2
             try clear hx141_0
             try clear hx141_1
             try clear hx143_0
             try clear hx145_0
             try clear hx145_1
             try clear hx145_2
             try clear hx146_0
             try clear hx146_1
             try clear hx146_2
             try clear p1
             try clear p14
             try clear p141
             try clear p143
             try clear p145
             try clear p146
             try clear p2
             try clear q1
             try clear q14
             try clear q141
             try clear q143
             try clear q145
             try clear q146
             obtain ⟨x9_4, x82_4, rfl, rfl, HA, HK4, HO_6, BK135, BK136, BK142, HB⟩ := hrel
             cases gk with
             | zero => exact absurd HA.out (by simp [spec_QueryWorld.l2])
             | succ k4 =>
              have H := HA.out
              clear HA
              simp only [spec_QueryWorld.l2] at H
              by_cases c87 : x82_4 < (l1_1.length : Int)
              ·rw [if_pos c87] at H
               have c87b0 : decide (x82_4 < (l1_1.length : Int)) = true := decide_eq_true c87
               clear c87
               by_cases c88 : 0 ≤ x82_4
               ·rw [if_pos c88] at H
                have c88b0 : decide (0 ≤ x82_4) = true := decide_eq_true c88
                clear c88
                by_cases c89 : x82_4 < (l1_1.length : Int)
                ·rw [if_pos c89] at H
                 have c89b0 : decide (x82_4 < (l1_1.length : Int)) = true := decide_eq_true c89
                 clear c89
                 by_cases c90 : x9_4 = true
                 ·subst c90
                  have H1 : ((spec_l3Part.f k4 ((rd_T77 l0_2 x40_2).f0) ((rd_T77 l0_2 x40_2).f1) (rdOf ByteArray.empty l1_1 x82_4)).bind fun t148 => (spec_QueryWorld.l2 k4 x6_2 (decide (t148 < 0)) x10_3 l0_2 (l0_2.length : Int) x40_2 l1_1 (l1_1.length : Int) (wrap64 (x82_4 + 1)) l1_0 l1_1 a1_2 ((rd_T77 l0_2 x40_2).f0) ((rd_T77 l0_2 x40_2).f1))) = some (r1, r2) := by rw [if_pos rfl] at H; exact H
                  clear H
                  have H := H1
                  clear H1
                  replace H := Option.bind_eq_some_iff.mp H
                  obtain ⟨t148, A910, H⟩ := H
                  replace H : (spec_QueryWorld.l2 k4 x6_2 (decide (t148 < 0)) x10_3 l0_2 (l0_2.length : Int) x40_2 l1_1 (l1_1.length : Int) (wrap64 (x82_4 + 1)) l1_0 l1_1 a1_2 ((rd_T77 l0_2 x40_2).f0) ((rd_T77 l0_2 x40_2).f1)) = some (r1, r2) := H
                  have A91 := Aside0.mk A910
                  clear A910
                  have H' := Aside0.mk H
                  clear H
                  have p147 : 0 ≤ (x82_4 : Int) := of_decide_eq_true hE
                  have q147 : x82_4 < (l1_1.length : Int) := of_decide_eq_true hE
                  obtain ⟨ad147, e147, hx147_0⟩ := Kd.at_string HR1_1.out x82_4 p147 q147
                  cases e147
                  replace hx147_0 := (HB.out.cell (World.block_lt_of_cell? w _ hx147_0)).trans hx147_0
                  replace p147 := eq_true p147
                  replace q147 := eq_true q147
                  have hnb92 := NB142_135.out
                  have hnc92 := NB135_142.out
                  have hnb93 := NB142_136.out
                  have hnc93 := NB136_142.out
                  have hcz94_0 := cz BK142 0 (.int .i64 ((rd_T77 l0_2 x40_2).f0))
                  have hcz94_1 := cz BK142 1 (.slice A141_1 ((rd_T77 l0_2 x40_2).f1).length c141_1)
                  have hfz94_0 := fz BK142 0
                  have hfz94_1 := fz BK142 1
                  go_wp2_with (first | (go_at_call 43; (with_reducible refine (spec_l3Part.calls k4 ((rd_T77 l0_2 x40_2).f0) _ _ ((rd_T77 l0_2 x40_2).f1) (rdOf ByteArray.empty l1_1 x82_4) t148 _ ?side1 ?side2 A91.out).mono ?_); (case side1 => exact cU (Kd.C_below HR141_1.out HB.out)); (case side2 => exact HC141_1.out); rintro e w95 ⟨rfl, hb⟩; replace HO_6 := Aside0.mk (Kd.R_below (rU HO_6.out) hb); replace BK135 := bB (bV BK135) hb; replace BK136 := bB (bV BK136) hb; replace BK142 := bB (bV BK142) hb; replace HB := bH (lV3 GE135 GE136 GE142) hb; (try clear hb)))
                  repeat (go_quiet (first | (go_at_call 43; (with_reducible refine (spec_l3Part.calls k4 ((rd_T77 l0_2 x40_2).f0) _ _ ((rd_T77 l0_2 x40_2).f1) (rdOf ByteArray.empty l1_1 x82_4) t148 _ ?side1 ?side2 A91.out).mono ?_); (case side1 => exact cU (Kd.C_below HR141_1.out HB.out)); (case side2 => exact HC141_1.out); rintro e w95 ⟨rfl, hb⟩; replace HO_6 := Aside0.mk (Kd.R_below (rU HO_6.out) hb); replace BK135 := bB (bV BK135) hb; replace BK136 := bB (bV BK136) hb; replace BK142 := bB (bV BK142) hb; replace HB := bH (lV3 GE135 GE136 GE142) hb; (try clear hb))); try go_wp2_with (first | (go_at_call 43; (with_reducible refine (spec_l3Part.calls k4 ((rd_T77 l0_2 x40_2).f0) _ _ ((rd_T77 l0_2 x40_2).f1) (rdOf ByteArray.empty l1_1 x82_4) t148 _ ?side1 ?side2 A91.out).mono ?_); (case side1 => exact cU (Kd.C_below HR141_1.out HB.out)); (case side2 => exact HC141_1.out); rintro e w95 ⟨rfl, hb⟩; replace HO_6 := Aside0.mk (Kd.R_below (rU HO_6.out) hb); replace BK135 := bB (bV BK135) hb; replace BK136 := bB (bV BK136) hb; replace BK142 := bB (bV BK142) hb; replace HB := bH (lV3 GE135 GE136 GE142) hb; (try clear hb))))
                  go_roundg k4
                  case measure => have := HJ2.out; have := HK2.out; have := HK3.out; have := HK4.out; omega
                  case rel => exact ⟨(decide (t148 < 0)), (wrap64 (x82_4 + 1)), tE, tE, H', ⟨by have := HJ2.out; have := HK2.out; have := HK3.out; have := HK4.out; omega⟩, ⟨by (with_reducible repeat (first | apply Kd.R_alloc | apply Kd.R_drewN | apply Kd.R_drew)); exact HO_6.out⟩, ⟨by refine bU ?_; exact BK135.out⟩, ⟨by refine bU ?_; exact BK136.out⟩, ⟨by refine bU ?_; exact BK142.out⟩, ⟨by repeat (first | (with_reducible first | exact HB.out | apply below_alloc | apply pw_below_drewN | apply below_drew1 | refine below_set ?_ GE135.out | refine below_set ?_ GE136.out | refine below_set ?_ GE142.out) | exact HB.out)⟩⟩
                 ·replace c90 := Bool.eq_false_iff.mpr c90
                  subst c90
                  have H1 : (spec_QueryWorld.l2 k4 x6_2 false x10_3 l0_2 (l0_2.length : Int) x40_2 l1_1 (l1_1.length : Int) (wrap64 (x82_4 + 1)) l1_0 l1_1 a1_2 ((rd_T77 l0_2 x40_2).f0) ((rd_T77 l0_2 x40_2).f1)) = some (r1, r2) := by rw [if_neg (show ¬ (false = true) by decide)] at H; exact H
                  clear H
                  have H := H1
                  clear H1
                  have H' := Aside0.mk H
                  clear H
                  have p147 : 0 ≤ (x82_4 : Int) := of_decide_eq_true hE
                  have q147 : x82_4 < (l1_1.length : Int) := of_decide_eq_true hE
                  obtain ⟨ad147, e147, hx147_0⟩ := Kd.at_string HR1_1.out x82_4 p147 q147
                  cases e147
                  replace hx147_0 := (HB.out.cell (World.block_lt_of_cell? w _ hx147_0)).trans hx147_0
                  replace p147 := eq_true p147
                  replace q147 := eq_true q147
                  go_wp2
                  repeat (go_quiet (fail); try go_wp2)
                  go_roundg k4
                  case measure => have := HJ2.out; have := HK2.out; have := HK3.out; have := HK4.out; omega
                  case rel => exact ⟨(false), (wrap64 (x82_4 + 1)), tE, tE, H', ⟨by have := HJ2.out; have := HK2.out; have := HK3.out; have := HK4.out; omega⟩, ⟨by (with_reducible repeat (first | apply Kd.R_alloc | apply Kd.R_drewN | apply Kd.R_drew)); exact HO_6.out⟩, ⟨by refine bU ?_; exact BK135.out⟩, ⟨by refine bU ?_; exact BK136.out⟩, ⟨by refine bU ?_; exact BK142.out⟩, ⟨by repeat (first | (with_reducible first | exact HB.out | apply below_alloc | apply pw_below_drewN | apply below_drew1 | refine below_set ?_ GE135.out | refine below_set ?_ GE136.out | refine below_set ?_ GE142.out) | exact HB.out)⟩⟩
                ·rw [if_neg c89] at H
                 exact absurd H (by simp)
               ·rw [if_neg c88] at H
                exact absurd H (by simp)
              ·rw [if_neg c87] at H
               have c87b0 : decide (x82_4 < (l1_1.length : Int)) = false := decide_eq_false c87
               clear c87
               by_cases c96 : x9_4 = true
               ·subst c96
                have H1 : (if x10_3 = true then (if x6_2.length < 17592186044416 then (spec_QueryWorld.l0 k4 (x6_2 ++ [((rd_T77 l0_2 x40_2).f0)]) l0_2 (l0_2.length : Int) (wrap64 (x40_2 + 1)) l1_0 l1_1 a1_2) else (none)) else (spec_QueryWorld.l0 k4 x6_2 l0_2 (l0_2.length : Int) (wrap64 (x40_2 + 1)) l1_0 l1_1 a1_2)) = some (r1, r2) := by rw [if_pos rfl] at H; exact H
                clear H
                have H := H1
                clear H1
                by_cases c97 : x10_3 = true
                ·subst c97
                 have H1 : (if x6_2.length < 17592186044416 then (spec_QueryWorld.l0 k4 (x6_2 ++ [((rd_T77 l0_2 x40_2).f0)]) l0_2 (l0_2.length : Int) (wrap64 (x40_2 + 1)) l1_0 l1_1 a1_2) else (none)) = some (r1, r2) := by rw [if_pos rfl] at H; exact H
                 clear H
                 have H := H1
                 clear H1
                 by_cases c98 : x6_2.length < 17592186044416
                 ·rw [if_pos c98] at H
                  have LMc98 := Aside0.mk c98
                  clear c98
                  obtain ⟨y149, hy149⟩ : ∃ y_ : List Int, y_ = (x6_2 ++ [((rd_T77 l0_2 x40_2).f0)]) := ⟨_, rfl⟩
                  replace H : (spec_QueryWorld.l0 k4 y149 l0_2 (l0_2.length : Int) (wrap64 (x40_2 + 1)) l1_0 l1_1 a1_2) = some (r1, r2) := by first | (rw [hy149]; with_reducible exact H) | (have H2_ := (Option.bind_some _ _).symm.trans H; rw [hy149]; with_reducible exact H2_) | (have H2_ := (Option.bind_some _ _).symm.trans H; with_reducible exact H2_) | with_reducible exact H | (rw [hy149]; exact H) | exact H
                  have Ny149 := Aside0.mk hy149
                  clear hy149
                  have H' := Aside0.mk H
                  clear H
                  have hnb99 := NB142_135.out
                  have hnc99 := NB135_142.out
                  have hnb100 := NB142_136.out
                  have hnc100 := NB136_142.out
                  have hcz101_0 := cz BK142 0 (.int .i64 ((rd_T77 l0_2 x40_2).f0))
                  have hcz101_1 := cz BK142 1 (.slice A141_1 ((rd_T77 l0_2 x40_2).f1).length c141_1)
                  have hfz101_0 := fz BK142 0
                  have hfz101_1 := fz BK142 1
                  go_wp2_with (first | ((with_reducible refine gate_builtin (b := .append) (xs := #[.tmp 98, .tmp 101]) rfl ?_); at_builtin; refine Kd.R_append (Kd.int .i64) (w0 := w) w.heap.size rfl (.tmp 98) (.tmp 101) 45 3 (.int .i64 0) 8 rfl Try.underlying45 info3 rfl (by decide) (by omega) u6 x6_2 ((rd_T77 l0_2 x40_2).f0) [.int .i64 ((rd_T77 l0_2 x40_2).f0)] (fun _ => True) (fun _ => False) rfl rfl ?aP (fun _ hk => hk.elim) ?aF ?aO ?aB ?aS ?aL ?_; (case aP => exact rfl); (case aB => exact (lV3 GE135 GE136 GE142)); (case aF => exact (fun _ _ => trivial)); (case aO => exact (rU HO_6.out)); (case aS => exact (below_size (lV3 GE135 GE136 GE142))); (case aL => have := LMc98.out; omega); intro v150 w102 ho hb hg hat; rw [← Ny149.out] at ho; replace BK135 := Aside0.mk (blk_grown (g := gb135) (o := .cells #[.int .i64 a0_0, .int .i64 a0_1, .slice (some ad141) l0_2.length c0_2] 50 (0, 0)) (bV BK135) hg (Kd.R_ne HO_6.out BK135.out (by decide))); replace BK136 := Aside0.mk (blk_grown (g := gb136) (o := .cells #[.slice A1_0 l1_0.length c1_0, .slice A1_1 l1_1.length c1_1, .int .i64 a1_2] 52 (0, 0)) (bV BK136) hg (Kd.R_ne HO_6.out BK136.out (by decide))); replace BK142 := Aside0.mk (blk_grown (g := gb142) (o := .cells #[.int .i64 ((rd_T77 l0_2 x40_2).f0), .slice A141_1 ((rd_T77 l0_2 x40_2).f1).length c141_1] 77 (0, 0)) (bV BK142) hg (Kd.R_ne HO_6.out BK142.out (by decide))); replace HB := Aside0.mk hb; have HO151 := Aside0.mk ho; clear HO_6; clear ho hb hg hat))
                  repeat (go_quiet (first | ((with_reducible refine gate_builtin (b := .append) (xs := #[.tmp 98, .tmp 101]) rfl ?_); at_builtin; refine Kd.R_append (Kd.int .i64) (w0 := w) w.heap.size rfl (.tmp 98) (.tmp 101) 45 3 (.int .i64 0) 8 rfl Try.underlying45 info3 rfl (by decide) (by omega) u6 x6_2 ((rd_T77 l0_2 x40_2).f0) [.int .i64 ((rd_T77 l0_2 x40_2).f0)] (fun _ => True) (fun _ => False) rfl rfl ?aP (fun _ hk => hk.elim) ?aF ?aO ?aB ?aS ?aL ?_; (case aP => exact rfl); (case aB => exact (lV3 GE135 GE136 GE142)); (case aF => exact (fun _ _ => trivial)); (case aO => exact (rU HO_6.out)); (case aS => exact (below_size (lV3 GE135 GE136 GE142))); (case aL => have := LMc98.out; omega); intro v150 w102 ho hb hg hat; rw [← Ny149.out] at ho; replace BK135 := Aside0.mk (blk_grown (g := gb135) (o := .cells #[.int .i64 a0_0, .int .i64 a0_1, .slice (some ad141) l0_2.length c0_2] 50 (0, 0)) (bV BK135) hg (Kd.R_ne HO_6.out BK135.out (by decide))); replace BK136 := Aside0.mk (blk_grown (g := gb136) (o := .cells #[.slice A1_0 l1_0.length c1_0, .slice A1_1 l1_1.length c1_1, .int .i64 a1_2] 52 (0, 0)) (bV BK136) hg (Kd.R_ne HO_6.out BK136.out (by decide))); replace BK142 := Aside0.mk (blk_grown (g := gb142) (o := .cells #[.int .i64 ((rd_T77 l0_2 x40_2).f0), .slice A141_1 ((rd_T77 l0_2 x40_2).f1).length c141_1] 77 (0, 0)) (bV BK142) hg (Kd.R_ne HO_6.out BK142.out (by decide))); replace HB := Aside0.mk hb; have HO151 := Aside0.mk ho; clear HO_6; clear ho hb hg hat)); try go_wp2_with (first | ((with_reducible refine gate_builtin (b := .append) (xs := #[.tmp 98, .tmp 101]) rfl ?_); at_builtin; refine Kd.R_append (Kd.int .i64) (w0 := w) w.heap.size rfl (.tmp 98) (.tmp 101) 45 3 (.int .i64 0) 8 rfl Try.underlying45 info3 rfl (by decide) (by omega) u6 x6_2 ((rd_T77 l0_2 x40_2).f0) [.int .i64 ((rd_T77 l0_2 x40_2).f0)] (fun _ => True) (fun _ => False) rfl rfl ?aP (fun _ hk => hk.elim) ?aF ?aO ?aB ?aS ?aL ?_; (case aP => exact rfl); (case aB => exact (lV3 GE135 GE136 GE142)); (case aF => exact (fun _ _ => trivial)); (case aO => exact (rU HO_6.out)); (case aS => exact (below_size (lV3 GE135 GE136 GE142))); (case aL => have := LMc98.out; omega); intro v150 w102 ho hb hg hat; rw [← Ny149.out] at ho; replace BK135 := Aside0.mk (blk_grown (g := gb135) (o := .cells #[.int .i64 a0_0, .int .i64 a0_1, .slice (some ad141) l0_2.length c0_2] 50 (0, 0)) (bV BK135) hg (Kd.R_ne HO_6.out BK135.out (by decide))); replace BK136 := Aside0.mk (blk_grown (g := gb136) (o := .cells #[.slice A1_0 l1_0.length c1_0, .slice A1_1 l1_1.length c1_1, .int .i64 a1_2] 52 (0, 0)) (bV BK136) hg (Kd.R_ne HO_6.out BK136.out (by decide))); replace BK142 := Aside0.mk (blk_grown (g := gb142) (o := .cells #[.int .i64 ((rd_T77 l0_2 x40_2).f0), .slice A141_1 ((rd_T77 l0_2 x40_2).f1).length c141_1] 77 (0, 0)) (bV BK142) hg (Kd.R_ne HO_6.out BK142.out (by decide))); replace HB := Aside0.mk hb; have HO151 := Aside0.mk ho; clear HO_6; clear ho hb hg hat)))
                  go_roundg k4
                  case measure => have := HJ2.out; have := HK2.out; have := HK3.out; have := HK4.out; omega
                  case rel => exact ⟨(y149), (wrap64 (x40_2 + 1)), tE, H', ⟨by have := HJ2.out; have := HK2.out; have := HK3.out; have := HK4.out; omega⟩, ⟨by (with_reducible repeat (first | apply Kd.R_alloc | apply Kd.R_drewN | apply Kd.R_drew)); exact HO151.out⟩, ⟨by refine bU ?_; exact BK135.out⟩, ⟨by refine bU ?_; exact BK136.out⟩, ⟨by repeat (first | (with_reducible first | exact HB.out | apply below_alloc | apply pw_below_drewN | apply below_drew1 | refine below_set ?_ GE135.out | refine below_set ?_ GE136.out | refine below_set ?_ GE142.out) | exact HB.out)⟩⟩
                 ·rw [if_neg c98] at H
                  exact absurd H (by simp)
                ·replace c97 := Bool.eq_false_iff.mpr c97
                 subst c97
                 have H1 : (spec_QueryWorld.l0 k4 x6_2 l0_2 (l0_2.length : Int) (wrap64 (x40_2 + 1)) l1_0 l1_1 a1_2) = some (r1, r2) := by rw [if_neg (show ¬ (false = true) by decide)] at H; exact H
                 clear H
                 have H := H1
                 clear H1
                 have H' := Aside0.mk H
                 clear H
                 go_wp2
                 repeat (go_quiet (fail); try go_wp2)
                 go_roundg k4
                 case measure => have := HJ2.out; have := HK2.out; have := HK3.out; have := HK4.out; omega
                 case rel => exact ⟨(x6_2), (wrap64 (x40_2 + 1)), tE, H', ⟨by have := HJ2.out; have := HK2.out; have := HK3.out; have := HK4.out; omega⟩, ⟨by (with_reducible repeat (first | apply Kd.R_alloc | apply Kd.R_drewN | apply Kd.R_drew)); exact HO_6.out⟩, ⟨by refine bU ?_; exact BK135.out⟩, ⟨by refine bU ?_; exact BK136.out⟩, ⟨by repeat (first | (with_reducible first | exact HB.out | apply below_alloc | apply pw_below_drewN | apply below_drew1 | refine below_set ?_ GE135.out | refine below_set ?_ GE136.out | refine below_set ?_ GE142.out) | exact HB.out)⟩⟩
               ·replace c96 := Bool.eq_false_iff.mpr c96
                subst c96
                have H1 : (spec_QueryWorld.l0 k4 x6_2 l0_2 (l0_2.length : Int) (wrap64 (x40_2 + 1)) l1_0 l1_1 a1_2) = some (r1, r2) := by rw [if_neg (show ¬ (false = true) by decide)] at H; exact H
                clear H
                have H := H1
                clear H1
                have H' := Aside0.mk H
                clear H
                go_wp2
                repeat (go_quiet (fail); try go_wp2)
                go_roundg k4
                case measure => have := HJ2.out; have := HK2.out; have := HK3.out; have := HK4.out; omega
                case rel => exact ⟨(x6_2), (wrap64 (x40_2 + 1)), tE, H', ⟨by have := HJ2.out; have := HK2.out; have := HK3.out; have := HK4.out; omega⟩, ⟨by (with_reducible repeat (first | apply Kd.R_alloc | apply Kd.R_drewN | apply Kd.R_drew)); exact HO_6.out⟩, ⟨by refine bU ?_; exact BK135.out⟩, ⟨by refine bU ?_; exact BK136.out⟩, ⟨by repeat (first | (with_reducible first | exact HB.out | apply below_alloc | apply pw_below_drewN | apply below_drew1 | refine below_set ?_ GE135.out | refine below_set ?_ GE136.out | refine below_set ?_ GE142.out) | exact HB.out)⟩⟩
        ·rw [if_neg c33] at H
         exact absurd H (by simp)
       ·rw [if_neg c32] at H
        exact absurd H (by simp)
      ·rw [if_neg c31] at H
       have c31b0 : decide (x40_2 < (l0_2.length : Int)) = false := decide_eq_false c31
       clear c31
       simp only [Option.some.injEq, Prod.mk.injEq] at H
       obtain ⟨rfl, rfl⟩ := H
       go_wp2
       repeat (go_quiet (fail); try go_wp2)
       go_ret2
       exact ⟨_, eE, by (with_reducible repeat (first | apply Kd.R_alloc | apply Kd.R_drewN | apply Kd.R_drew)); exact HO_6.out, lV2 GE135 GE136⟩
end Go.Proofs.Ytcpodjegdpbalaa.PFnExactQueryWorld
namespace Go.Proofs.Ytcpodjegdpbalaa.PFnExactQueryWorld
open Go.RowKit Go.Proofs.YtcpodjegdpbalaaW.PrintWords Go.Proofs.YtcpodjegdpbalaaW.PrintLast Go.Proofs.YtcpodjegdpbalaaW.PrintMore
attribute [local go_sem] max2_int min2_int max_two min_two max_three min_three max_four min_four   -- for this text's walks alone
set_option linter.unusedVariables false
set_option linter.unusedSimpArgs false
def laws_toPart.f (a0_0 : ByteArray) (a0_1 : Int) (a0_2 : Int) : Option (ByteArray × Int × Int) := some (a0_0, a0_1, a0_2)
set_option maxHeartbeats 8000000 in
set_option maxRecDepth 100000 in
theorem laws_toPart.calls (a0_0 : ByteArray) (a0_1 : Int) (a0_2 : Int) (r1 : ByteArray) (r2 : Int) (r3 : Int) (w : World) (h : laws_toPart.f a0_0 a0_1 a0_2 = some (r1, r2, r3)) :
  Calls Try.prog 73 #[.agg #[.string a0_0, .int .i64 a0_1, .int .i64 a0_2]] w fun e w' => e = .returned (.agg #[.string r1, .int .i64 r2, .int .i64 r3]) ∧ Below w.heap.size w w' := by
 have hu109 := Try.underlying109
 have hu80 := Try.underlying80
 have HB := Aside0.mk (Below.refl w.heap.size w)
 have H : (some (a0_0, a0_1, a0_2)) = some (r1, r2, r3) := h
 clear h
 simp only [Option.some.injEq, Prod.mk.injEq] at H
 obtain ⟨rfl, rfl, rfl⟩ := H
 go_enter Try.func73, Try.ntmps73
 go_wp2_with (first | ((with_reducible refine gate_dst (N := 1) rfl ?_); refine box_event rfl (N := 1) rfl (cs := #[.string a0_0, .int .i64 a0_1, .int .i64 a0_2]) (t := 109) sE ?_; intro gb152 hg w2 hbox hb; have BK152 := Aside0.mk hbox; have GW152 := gS w hg (lU); have GE152 := gS w hg (lU); replace HB := bH (lU) hb; clear hb hbox hg) | ((with_reducible refine gate_dst (N := 2) rfl ?_); refine box_event rfl (N := 2) rfl (cs := #[.string (⟨#[]⟩ : ByteArray), .int .i64 0, .int .i64 0]) (t := 80) sE ?_; intro gb153 hg w3 hbox hb; have BK153 := Aside0.mk hbox; have GW153 := gS w hg (lV1 GE152); have GE153 := gS w hg (lV1 GE152); replace HB := bH (lV1 GE152) hb; have NB152_153 := nL hg (bV BK152); have NB153_152 := nG hg (bV BK152); replace BK152 := bB (bV BK152) hb; clear hb hbox hg) | ((with_reducible refine gate_dst (N := 3) rfl ?_); refine box_event rfl (N := 3) rfl (cs := #[.string (⟨#[]⟩ : ByteArray), .int .i64 0, .int .i64 0]) (t := 80) sE ?_; intro gb154 hg w4 hbox hb; have BK154 := Aside0.mk hbox; have GW154 := gS w hg (lV2 GE152 GE153); have GE154 := gS w hg (lV2 GE152 GE153); replace HB := bH (lV2 GE152 GE153) hb; have NB152_154 := nL hg (bV BK152); have NB154_152 := nG hg (bV BK152); replace BK152 := bB (bV BK152) hb; have NB153_154 := nL hg (bV BK153); have NB154_153 := nG hg (bV BK153); replace BK153 := bB (bV BK153) hb; clear hb hbox hg; have hnb5 := NB152_153.out; have hnc5 := NB153_152.out; have hnb6 := NB152_154.out; have hnc6 := NB154_152.out; have hcz7_0 := cz BK152 0 (.string a0_0); have hcz7_1 := cz BK152 1 (.int .i64 a0_1); have hcz7_2 := cz BK152 2 (.int .i64 a0_2); have hfz7_0 := fz BK152 0; have hfz7_1 := fz BK152 1; have hfz7_2 := fz BK152 2; have hnb8 := NB154_153.out; have hnc8 := NB153_154.out; have hcz9_0 := cz BK154 0 (.string (⟨#[]⟩ : ByteArray)); have hcz9_1 := cz BK154 1 (.int .i64 0); have hcz9_2 := cz BK154 2 (.int .i64 0); have hfz9_0 := fz BK154 0; have hfz9_1 := fz BK154 1; have hfz9_2 := fz BK154 2) | ((with_reducible refine gate_store (t := 9) (p := 6) rfl ?_); refine store_event (t := 9) (p := 6) (v := ?vo_w10) (w1 := (w4.setCell ⟨gb154, 0, none⟩ (.string a0_0))) ?hg ?ho ?hn ?hr ?_; (case ho => rfl); (case hg => rfl); (case hn => rfl); (case hr => first | (go_simp; done) | (go_simp; rfl) | (have hq0_ := (blk_cell BK154.out 0).trans (show _ = some _ from rfl); have hf0_ := blk_frozen BK154.out 0; first | (go_simp; done) | (go_simp; rfl))); intro w10 hw; replace BK152 : Aside0 (w10.heap[gb152]? = some (.cells #[.string a0_0, .int .i64 a0_1, .int .i64 a0_2] 109 (0, 0))) := ⟨(by rw [hw]; exact (bG NB152_154 BK152))⟩; replace BK153 : Aside0 (w10.heap[gb153]? = some (.cells #[.string (⟨#[]⟩ : ByteArray), .int .i64 0, .int .i64 0] 80 (0, 0))) := ⟨(by rw [hw]; exact (bG NB153_154 BK153))⟩; replace BK154 : Aside0 (w10.heap[gb154]? = some (.cells #[.string a0_0, .int .i64 0, .int .i64 0] 80 (0, 0))) := ⟨(by rw [hw]; exact (by refine bU ?_; refine blk_put (cs := #[.string (⟨#[]⟩ : ByteArray), .int .i64 0, .int .i64 0]) ?_ 0 _ rfl; refine bU ?_; exact BK154.out))⟩; replace HB : Aside0 (Below w.heap.size w w10) := ⟨(by rw [hw]; exact (lV3 GE152 GE153 GE154))⟩; clear hw; have hcz11_0 := cz BK152 0 (.string a0_0); have hcz11_1 := cz BK152 1 (.int .i64 a0_1); have hcz11_2 := cz BK152 2 (.int .i64 a0_2); have hfz11_0 := fz BK152 0; have hfz11_1 := fz BK152 1; have hfz11_2 := fz BK152 2; have hcz12_0 := cz BK154 0 (.string a0_0); have hcz12_1 := cz BK154 1 (.int .i64 0); have hcz12_2 := cz BK154 2 (.int .i64 0); have hfz12_0 := fz BK154 0; have hfz12_1 := fz BK154 1; have hfz12_2 := fz BK154 2) | ((with_reducible refine gate_store (t := 3) (p := 9) rfl ?_); refine store_event (t := 3) (p := 9) (v := ?vo_w13) (w1 := (w10.setCell ⟨gb154, 1, none⟩ (.int .i64 a0_1))) ?hg ?ho ?hn ?hr ?_; (case ho => rfl); (case hg => rfl); (case hn => rfl); (case hr => first | (go_simp; done) | (go_simp; rfl) | (have hq0_ := (blk_cell BK154.out 1).trans (show _ = some _ from rfl); have hf0_ := blk_frozen BK154.out 1; first | (go_simp; done) | (go_simp; rfl))); intro w13 hw; replace BK152 : Aside0 (w13.heap[gb152]? = some (.cells #[.string a0_0, .int .i64 a0_1, .int .i64 a0_2] 109 (0, 0))) := ⟨(by rw [hw]; exact (bG NB152_154 BK152))⟩; replace BK153 : Aside0 (w13.heap[gb153]? = some (.cells #[.string (⟨#[]⟩ : ByteArray), .int .i64 0, .int .i64 0] 80 (0, 0))) := ⟨(by rw [hw]; exact (bG NB153_154 BK153))⟩; replace BK154 : Aside0 (w13.heap[gb154]? = some (.cells #[.string a0_0, .int .i64 a0_1, .int .i64 0] 80 (0, 0))) := ⟨(by rw [hw]; exact (by refine bU ?_; refine blk_put (cs := #[.string a0_0, .int .i64 0, .int .i64 0]) ?_ 1 _ rfl; refine bU ?_; exact BK154.out))⟩; replace HB : Aside0 (Below w.heap.size w w13) := ⟨(by rw [hw]; exact (lV3 GE152 GE153 GE154))⟩; clear hw; have hcz14_0 := cz BK152 0 (.string a0_0); have hcz14_1 := cz BK152 1 (.int .i64 a0_1); have hcz14_2 := cz BK152 2 (.int .i64 a0_2); have hfz14_0 := fz BK152 0; have hfz14_1 := fz BK152 1; have hfz14_2 := fz BK152 2; have hcz15_0 := cz BK154 0 (.string a0_0); have hcz15_1 := cz BK154 1 (.int .i64 a0_1); have hcz15_2 := cz BK154 2 (.int .i64 0); have hfz15_0 := fz BK154 0; have hfz15_1 := fz BK154 1; have hfz15_2 := fz BK154 2) | ((with_reducible refine gate_store (t := 3) (p := 12) rfl ?_); refine store_event (t := 3) (p := 12) (v := ?vo_w16) (w1 := (w13.setCell ⟨gb154, 2, none⟩ (.int .i64 a0_2))) ?hg ?ho ?hn ?hr ?_; (case ho => rfl); (case hg => rfl); (case hn => rfl); (case hr => first | (go_simp; done) | (go_simp; rfl) | (have hq0_ := (blk_cell BK154.out 2).trans (show _ = some _ from rfl); have hf0_ := blk_frozen BK154.out 2; first | (go_simp; done) | (go_simp; rfl))); intro w16 hw; replace BK152 : Aside0 (w16.heap[gb152]? = some (.cells #[.string a0_0, .int .i64 a0_1, .int .i64 a0_2] 109 (0, 0))) := ⟨(by rw [hw]; exact (bG NB152_154 BK152))⟩; replace BK153 : Aside0 (w16.heap[gb153]? = some (.cells #[.string (⟨#[]⟩ : ByteArray), .int .i64 0, .int .i64 0] 80 (0, 0))) := ⟨(by rw [hw]; exact (bG NB153_154 BK153))⟩; replace BK154 : Aside0 (w16.heap[gb154]? = some (.cells #[.string a0_0, .int .i64 a0_1, .int .i64 a0_2] 80 (0, 0))) := ⟨(by rw [hw]; exact (by refine bU ?_; refine blk_put (cs := #[.string a0_0, .int .i64 a0_1, .int .i64 0]) ?_ 2 _ rfl; refine bU ?_; exact BK154.out))⟩; replace HB : Aside0 (Below w.heap.size w w16) := ⟨(by rw [hw]; exact (lV3 GE152 GE153 GE154))⟩; clear hw; have hcz17_0 := cz BK154 0 (.string a0_0); have hcz17_1 := cz BK154 1 (.int .i64 a0_1); have hcz17_2 := cz BK154 2 (.int .i64 a0_2); have hfz17_0 := fz BK154 0; have hfz17_1 := fz BK154 1; have hfz17_2 := fz BK154 2; have hcz18_0 := cz BK153 0 (.string (⟨#[]⟩ : ByteArray)); have hcz18_1 := cz BK153 1 (.int .i64 0); have hcz18_2 := cz BK153 2 (.int .i64 0); have hfz18_0 := fz BK153 0; have hfz18_1 := fz BK153 1; have hfz18_2 := fz BK153 2) | ((with_reducible refine gate_store (t := 80) (p := 2) rfl ?_); refine store_event (t := 80) (p := 2) (v := ?vo_w19) (w1 := (((w16.setCell ⟨gb153, 0, none⟩ (.string a0_0)).setCell ⟨gb153, 1, none⟩ (.int .i64 a0_1)).setCell ⟨gb153, 2, none⟩ (.int .i64 a0_2))) ?hg ?ho ?hn ?hr ?_; (case ho => rfl); (case hg => rfl); (case hn => rfl); (case hr => first | (go_simp; done) | (go_simp; rfl) | (have hq0_ := (blk_cell BK153.out 0).trans (show _ = some _ from rfl); have hf0_ := blk_frozen BK153.out 0; have hq1_ := (blk_cell BK153.out 1).trans (show _ = some _ from rfl); have hf1_ := blk_frozen BK153.out 1; have hq2_ := (blk_cell BK153.out 2).trans (show _ = some _ from rfl); have hf2_ := blk_frozen BK153.out 2; first | (go_simp; done) | (go_simp; rfl))); intro w19 hw; replace BK152 : Aside0 (w19.heap[gb152]? = some (.cells #[.string a0_0, .int .i64 a0_1, .int .i64 a0_2] 109 (0, 0))) := ⟨(by rw [hw]; exact (bG NB152_153 BK152))⟩; replace BK153 : Aside0 (w19.heap[gb153]? = some (.cells #[.string a0_0, .int .i64 a0_1, .int .i64 a0_2] 80 (0, 0))) := ⟨(by rw [hw]; exact (by refine bU ?_; refine blk_put (cs := #[.string a0_0, .int .i64 a0_1, .int .i64 0]) ?_ 2 _ rfl; refine bU ?_; refine blk_put (cs := #[.string a0_0, .int .i64 0, .int .i64 0]) ?_ 1 _ rfl; refine bU ?_; refine blk_put (cs := #[.string (⟨#[]⟩ : ByteArray), .int .i64 0, .int .i64 0]) ?_ 0 _ rfl; refine bU ?_; exact BK153.out))⟩; replace BK154 : Aside0 (w19.heap[gb154]? = some (.cells #[.string a0_0, .int .i64 a0_1, .int .i64 a0_2] 80 (0, 0))) := ⟨(by rw [hw]; exact (bG NB154_153 BK154))⟩; replace HB : Aside0 (Below w.heap.size w w19) := ⟨(by rw [hw]; exact (lV3 GE152 GE153 GE154))⟩; clear hw))
 refine bodyPost_ret (results_cell_row rfl _ _ gb153 80 #[.string a0_0, .int .i64 a0_1, .int .i64 a0_2] (0, 0) _ rfl (bV BK153) Try.underlying80 rfl (by kernel_rfl)) rfl ?_
 exact ⟨eE, lV3 GE152 GE153 GE154⟩
def laws_toPartS.l0 : Nat → List (S109) → List (S80) → Int → Option ((List (S80)))
 | 0, _, _, _ => none
 | k + 1, x0, x3, x4 => if x4 < (x0.length : Int) then (if 0 ≤ x4 then ((laws_toPart.f ((rd_T109 x0 x4).f0) ((rd_T109 x0 x4).f1) ((rd_T109 x0 x4).f2)).bind fun bt159 => (if x4 < (x3.length : Int) then (laws_toPartS.l0 k x0 (x3.set (x4 : Int).toNat (⟨bt159.1, bt159.2.1, bt159.2.2⟩ : S80)) (wrap64 (x4 + 1))) else (none))) else (none)) else (some x3)
def laws_toPartS.f (k : Nat) (l0 : List (S109)) : Option ((List (S80))) := if 0 ≤ (l0.length : Int) then (if ((l0.length : Int) : Int).toNat ≤ 8796093022208 then (laws_toPartS.l0 k l0 (List.replicate ((l0.length : Int) : Int).toNat z80) 0) else (none)) else (none)
theorem laws_toPartS.mono_l : ∀ k, (∀ y0 y1 y2, LeO (laws_toPartS.l0 k y0 y1 y2) (laws_toPartS.l0 (k + 1) y0 y1 y2))
 | 0 => fun _ _ _ r h => by simp [laws_toPartS.l0] at h
 | k + 1 => by
  have ih0 := laws_toPartS.mono_l k
  ·intro y0 y1 y2
   unfold laws_toPartS.l0
   repeat' first
   | (with_reducible exact ih0 _ _ _)
   | (with_reducible exact LeO.refl _)
   | (with_reducible exact LeO.none _)
   | (with_reducible refine LeO.ite ?_ ?_)
   | (with_reducible refine LeO.bind ?_ (fun _ => ?_))
   | exact ih0 _ _ _
   | exact LeO.none _
   | refine LeO.ite ?_ ?_
   | refine LeO.bind ?_ (fun _ => ?_)
theorem laws_toPartS.mono : ∀ a0 k, LeO (laws_toPartS.f k a0) (laws_toPartS.f (k + 1) a0) := by
 intro a0 k
 have ih0 := laws_toPartS.mono_l k
 unfold laws_toPartS.f
 repeat' first
   | (with_reducible exact ih0 _ _ _)
   | (with_reducible exact LeO.refl _)
   | (with_reducible exact LeO.none _)
   | (with_reducible refine LeO.ite ?_ ?_)
   | (with_reducible refine LeO.bind ?_ (fun _ => ?_))
   | exact ih0 _ _ _
   | exact LeO.none _
   | refine LeO.ite ?_ ?_
   | refine LeO.bind ?_ (fun _ => ?_)
set_option maxHeartbeats 8000000 in
set_option maxRecDepth 100000 in
theorem laws_toPartS.calls (k : Nat) (A0 : Option Addr) (c0 : Nat) (l0 : List (S109)) (r : List (S80)) (w : World) (hr0 : Kd.C k109 w A0 l0.length l0) (hc0 : l0.length ≤ c0) (h : laws_toPartS.f k l0 = some r) :
  Calls Try.prog 66 #[.slice A0 l0.length c0] w fun e w' => ∃ v0_ : Value, e = .returned (v0_) ∧ Kd.R k80 80 w' w.heap.size (fun _ => True) v0_ r ∧ Below w.heap.size w w' := by
 have hu109 := Try.underlying109
 have hu80 := Try.underlying80
 have HR0 := Aside0.mk hr0
 have HC0 := Aside0.mk hc0
 clear hr0 hc0
 have HB := Aside0.mk (Below.refl w.heap.size w)
 have H : (if 0 ≤ (l0.length : Int) then (if ((l0.length : Int) : Int).toNat ≤ 8796093022208 then (laws_toPartS.l0 k l0 (List.replicate ((l0.length : Int) : Int).toNat z80) 0) else (none)) else (none)) = some r := h
 clear h
 by_cases c2 : 0 ≤ (l0.length : Int)
 ·rw [if_pos c2] at H
  have c2b0 := eq_true c2
  have c2b1 : decide (0 ≤ (l0.length : Int)) = true := decide_eq_true c2
  clear c2
  by_cases c3 : ((l0.length : Int) : Int).toNat ≤ 8796093022208
  ·rw [if_pos c3] at H
   have c3b0 := eq_true c3
   have c3b1 : decide (((l0.length : Int) : Int).toNat ≤ 8796093022208) = true := decide_eq_true c3
   clear c3
   obtain ⟨y155, hy155⟩ : ∃ y_ : List (S80), y_ = (List.replicate ((l0.length : Int) : Int).toNat z80) := ⟨_, rfl⟩
   replace H : (laws_toPartS.l0 k l0 y155 0) = some r := by first | (rw [hy155]; with_reducible exact H) | (have H2_ := (Option.bind_some _ _).symm.trans H; rw [hy155]; with_reducible exact H2_) | (have H2_ := (Option.bind_some _ _).symm.trans H; with_reducible exact H2_) | with_reducible exact H | (rw [hy155]; exact H) | exact H
   have Ny155 := Aside0.mk hy155
   clear hy155
   have H' := Aside0.mk H
   clear H
   go_enter Try.func66, Try.ntmps66
   go_wp2_with (first | ((with_reducible refine gate_dst (N := 7) rfl ?_); refine Kd.R_make k80 _ 80 rfl (N := 7) rfl 75 _ _ rfl (l0.length : Int) rfl rfl Try.underlying75 (.agg #[(.string ⟨#[]⟩), (.int .i64 0), (.int .i64 0)]) 32 info80 rfl (by decide) (by omega) z80 (ok := fun _ => True) (okp := fun _ => True) (k80_mkM _ _ _ z80 ) (fun _ hk => hk) trivial (of_decide_eq_true hE) (Nat.le_trans (Nat.mul_le_mul_right _ (of_decide_eq_true hE : (l0.length : Int).toNat ≤ 8796093022208)) (by omega)) (Below.refl _ _) (Nat.le_refl _) ?_; intro v156 w4 ho5 hb hg_ hnew_; clear hg_ hnew_; (first | rw [← Ny155.out] at ho5 | (simp only [Int.reduceToNat] at ho5; rw [← Ny155.out] at ho5)); have HO157 := Aside0.mk (Kd.R_lower ho5 (below_size (lU))); replace HB := bH (lU) hb; clear hb ho5))
   (try simp only [Act.put, List.setIfInBounds_toArray, List.set_cons_zero, List.set_cons_succ])
   go_loopg [4] k (fun kq v4 w' => ∃ (x3_1 : List (S80)) (x4_1 : Int), v4 = .int .i64 x4_1 ∧ Aside0 (laws_toPartS.l0 kq l0 x3_1 x4_1 = some r) ∧ Aside0 (kq ≤ k) ∧ Aside0 (Kd.R k80 80 w' w.heap.size (fun _ => True) v156 x3_1) ∧ Aside0 (Below w.heap.size w w'))
   case atStart => exact ⟨(y155), (0), tE, H', ⟨Nat.le_refl _⟩, ⟨by (with_reducible repeat (first | apply Kd.R_alloc | apply Kd.R_drewN | apply Kd.R_drew)); exact HO157.out⟩, ⟨by repeat (first | (with_reducible first | exact HB.out | apply below_alloc | apply pw_below_drewN | apply below_drew1) | exact HB.out)⟩⟩
   case round =>
    clear H'
    try clear c2
    try clear c2b0
    try clear c2b1
    try clear p2
    try clear c3
    try clear c3b0
    try clear c3b1
    obtain ⟨x3_1, x4_1, rfl, HA, HK1, HO_3, HB⟩ := hrel
    cases gk with
    | zero => exact absurd HA.out (by simp [laws_toPartS.l0])
    | succ k1 =>
     have H := HA.out
     clear HA
     simp only [laws_toPartS.l0] at H
     by_cases c6 : x4_1 < (l0.length : Int)
     ·rw [if_pos c6] at H
      have c6b0 : decide (x4_1 < (l0.length : Int)) = true := decide_eq_true c6
      clear c6
      by_cases c7 : 0 ≤ x4_1
      ·rw [if_pos c7] at H
       have c7b0 : decide (0 ≤ x4_1) = true := decide_eq_true c7
       clear c7
       replace H := Option.bind_eq_some_iff.mp H
       obtain ⟨⟨t159, t160, t161⟩, A80, H⟩ := H
       replace H : (if x4_1 < (x3_1.length : Int) then (laws_toPartS.l0 k1 l0 (x3_1.set (x4_1 : Int).toNat (⟨t159, t160, t161⟩ : S80)) (wrap64 (x4_1 + 1))) else (none)) = some r := H
       have A8 := Aside0.mk A80
       clear A80
       by_cases c9 : x4_1 < (x3_1.length : Int)
       ·rw [if_pos c9] at H
        have c9b0 : decide (x4_1 < (x3_1.length : Int)) = true := decide_eq_true c9
        clear c9
        obtain ⟨y162, hy162⟩ : ∃ y_ : List (S80), y_ = (x3_1.set (x4_1 : Int).toNat (⟨t159, t160, t161⟩ : S80)) := ⟨_, rfl⟩
        replace H : (laws_toPartS.l0 k1 l0 y162 (wrap64 (x4_1 + 1))) = some r := by first | (rw [hy162]; with_reducible exact H) | (have H2_ := (Option.bind_some _ _).symm.trans H; rw [hy162]; with_reducible exact H2_) | (have H2_ := (Option.bind_some _ _).symm.trans H; with_reducible exact H2_) | with_reducible exact H | (rw [hy162]; exact H) | exact H
        have Ny162 := Aside0.mk hy162
        clear hy162
        have H' := Aside0.mk H
        clear H
        have p158 : 0 ≤ (x4_1 : Int) := of_decide_eq_true hE
        have q158 : x4_1 < (l0.length : Int) := of_decide_eq_true hE
        obtain ⟨ad158, e158, hx158_0, hx158_1, hx158_2⟩ := at_T109 HR0.out x4_1 p158 q158
        cases e158
        replace hx158_0 := (HB.out.cell (World.block_lt_of_cell? w _ hx158_0)).trans hx158_0
        replace hx158_1 := (HB.out.cell (World.block_lt_of_cell? w _ hx158_1)).trans hx158_1
        replace hx158_2 := (HB.out.cell (World.block_lt_of_cell? w _ hx158_2)).trans hx158_2
        replace p158 := eq_true p158
        replace q158 := eq_true q158
        go_wp2_with (first | ((with_reducible refine gate_callee (f := 73) rfl ?_); refine goesL_ (some 20) rfl rfl Try.func73 (by kernel_rfl) rfl #[.agg #[.string ((rd_T109 l0 x4_1).f0), .int .i64 ((rd_T109 l0 x4_1).f1), .int .i64 ((rd_T109 l0 x4_1).f2)]] rfl aE ?_; (with_reducible refine (laws_toPart.calls ((rd_T109 l0 x4_1).f0) ((rd_T109 l0 x4_1).f1) ((rd_T109 l0 x4_1).f2) t159 t160 t161 _ A8.out).mono ?_); rintro e w11 ⟨rfl, hb⟩; refine ⟨_, rfl, ?_⟩; replace HO_3 := Aside0.mk (Kd.R_below (rU HO_3.out) hb); replace HB := bH (lU) hb; (try clear hb); have p10 : 0 ≤ (x4_1 : Int) := of_decide_eq_true hE; have q10 : (x4_1 : Int) < ((x3_1.length : Int) : Int) := of_decide_eq_true hE; obtain ⟨go10, co10, eo10, gb10, gl10, cl10, HG10⟩ := Kd.R_form HO_3.out (by omega); (first | cases eo10 | (injection eo10 with ea_ en_ ec_; (first | subst ea_ | (injection ea_ with ea_; subst ea_)); subst ec_; clear en_)); have GB10 := Aside0.mk gb10; have GG10 := Aside0.mk HG10; clear gb10 gl10 HG10; obtain ⟨ce10, hcl10, hM10, hcc10, hfr10⟩ := Kd.R_elem HO_3.out z80 (x4_1 : Int) p10 q10; obtain rfl := k80_openM hM10; have hx10_0 : w11.cell? ⟨go10, (x4_1 : Int).toNat * 3, none⟩ = some (.string ((rd_T80 x3_1 x4_1).f0)) := hcc10 0 _ rfl; have hx10_1 : w11.cell? ⟨go10, (x4_1 : Int).toNat * 3 + 1, none⟩ = some (.int .i64 ((rd_T80 x3_1 x4_1).f1)) := hcc10 1 _ rfl; have hx10_2 : w11.cell? ⟨go10, (x4_1 : Int).toNat * 3 + 2, none⟩ = some (.int .i64 ((rd_T80 x3_1 x4_1).f2)) := hcc10 2 _ rfl; have hf10_0 : w11.frozen? ⟨go10, (x4_1 : Int).toNat * 3, none⟩ = false := hfr10 0; have hf10_1 : w11.frozen? ⟨go10, (x4_1 : Int).toNat * 3 + 1, none⟩ = false := hfr10 1; have hf10_2 : w11.frozen? ⟨go10, (x4_1 : Int).toNat * 3 + 2, none⟩ = false := hfr10 2; (try clear hcl10); (try clear hcc10); (try clear hfr10); (try clear hM10); replace p10 := eq_true p10; replace q10 := eq_true q10; have HX12 := Aside0.mk (show Kd.R k80 80 w11 w.heap.size (fun _ => True) (.slice (some ⟨go10, 0, none⟩) x3_1.length co10) x3_1 from (rU HO_3.out)); obtain ⟨ce12, hcl12, hM12, hcc12, hfr12⟩ := Kd.R_elem HX12.out z80 (x4_1 : Int) (of_decide_eq_true hE) (by have h_ : (x4_1 : Int) < ((x3_1.length : Int) : Int) := of_decide_eq_true hE; first | exact h_ | (have e_ := (Kd.R_reads' HO_3.out).1; omega) | simpa using h_); obtain rfl := k80_openM hM12; have HP12 := Kd.R_seg HX12.out (x4_1 : Int) (of_decide_eq_true hE) (by have h_ : (x4_1 : Int) < ((x3_1.length : Int) : Int) := of_decide_eq_true hE; first | exact h_ | (have e_ := (Kd.R_reads' HO_3.out).1; omega) | simpa using h_) (seg := [.string t159, .int .i64 t160, .int .i64 t161]) (j := 0) hcl12 hcc12 (show 3 ≤ 3 from by decide) (x' := (⟨t159, t160, t161⟩ : S80)) (k80_mkM _ _ _ (⟨t159, t160, t161⟩ : S80) ) (fun _ hk => hk); have hx12_0 := hcc12 0 _ rfl; (try simp only [show (k80).sz = 3 from rfl, Nat.mul_one, Nat.add_zero] at hx12_0); have hf12_0 := hfr12 0; (try simp only [show (k80).sz = 3 from rfl, Nat.mul_one, Nat.add_zero] at hf12_0); have hx12_1 := hcc12 1 _ rfl; (try simp only [show (k80).sz = 3 from rfl, Nat.mul_one, Nat.add_zero] at hx12_1); have hf12_1 := hfr12 1; (try simp only [show (k80).sz = 3 from rfl, Nat.mul_one, Nat.add_zero] at hf12_1); have hx12_2 := hcc12 2 _ rfl; (try simp only [show (k80).sz = 3 from rfl, Nat.mul_one, Nat.add_zero] at hx12_2); have hf12_2 := hfr12 2; (try simp only [show (k80).sz = 3 from rfl, Nat.mul_one, Nat.add_zero] at hf12_2); (try clear hcl12); (try clear hcc12); (try clear hfr12); (try clear hM12)) | ((with_reducible refine gate_store (t := 80) (p := 21) rfl ?_); refine store_event (t := 80) (p := 21) (v := ?vo_w13) (w1 := (((w11.setCell ⟨go10, (x4_1 : Int).toNat * 3, none⟩ (.string t159)).setCell ⟨go10, (x4_1 : Int).toNat * 3 + 1, none⟩ (.int .i64 t160)).setCell ⟨go10, (x4_1 : Int).toNat * 3 + 2, none⟩ (.int .i64 t161))) ?hg ?ho ?hn ?hr ?_; (case ho => rfl); (case hg => rfl); (case hn => rfl); (case hr => exact sE); intro w13 hw; have hg : w11.grownBy w13 (some go10) := (by rw [hw]; exact HP12.2); have hp_ : Kd.R k80 80 w13 w.heap.size (fun _ => True) (.slice (some ⟨go10, 0, none⟩) x3_1.length co10) y162 := (by rw [hw, Ny162.out]; exact HP12.1); clear HP12; replace HO_3 := Aside0.mk hp_; replace HB := Aside0.mk ((by rw [hw]; exact below_set (below_set (below_set (HB.out) GB10.out) GB10.out) GB10.out : Below w.heap.size w w13)); clear hg hw hp_))
        go_roundg k1
        case measure => have := HK1.out; omega
        case rel => exact ⟨(y162), (wrap64 (x4_1 + 1)), tE, H', ⟨by have := HK1.out; omega⟩, ⟨by (with_reducible repeat (first | apply Kd.R_alloc | apply Kd.R_drewN | apply Kd.R_drew)); exact HO_3.out⟩, ⟨by repeat (first | (with_reducible first | exact HB.out | apply below_alloc | apply pw_below_drewN | apply below_drew1) | exact HB.out)⟩⟩
       ·rw [if_neg c9] at H
        exact absurd H (by simp)
      ·rw [if_neg c7] at H
       exact absurd H (by simp)
     ·rw [if_neg c6] at H
      have c6b0 : decide (x4_1 < (l0.length : Int)) = false := decide_eq_false c6
      clear c6
      obtain rfl := Option.some.inj H
      go_wp2
      go_ret
      exact ⟨_, eE, by (with_reducible repeat (first | apply Kd.R_alloc | apply Kd.R_drewN | apply Kd.R_drew)); exact HO_3.out, lU⟩
  ·rw [if_neg c3] at H
   exact absurd H (by simp)
 ·rw [if_neg c2] at H
  exact absurd H (by simp)
def laws_toEntity.f (k : Nat) (a0_0 : Int) (l0_1 : List (S109)) : Option (Int × (List (S80))) := (laws_toPartS.f k l0_1).bind fun t166 => (some (a0_0, t166))
theorem laws_toEntity.mono : ∀ a0 a1 k, LeO (laws_toEntity.f k a0 a1) (laws_toEntity.f (k + 1) a0 a1) := by
 intro a0 a1 k
 unfold laws_toEntity.f
 repeat' first
   | (with_reducible exact laws_toPartS.mono _ _)
   | (with_reducible exact LeO.refl _)
   | (with_reducible exact LeO.none _)
   | (with_reducible refine LeO.ite ?_ ?_)
   | (with_reducible refine LeO.bind ?_ (fun _ => ?_))
   | exact laws_toPartS.mono _ _
   | exact LeO.none _
   | refine LeO.ite ?_ ?_
   | refine LeO.bind ?_ (fun _ => ?_)
set_option maxHeartbeats 8000000 in
set_option maxRecDepth 100000 in
theorem laws_toEntity.calls (k : Nat) (a0_0 : Int) (A0_1 : Option Addr) (c0_1 : Nat) (l0_1 : List (S109)) (r1 : Int) (r2 : List (S80)) (w : World) (hr0_1 : Kd.C k109 w A0_1 l0_1.length l0_1) (hc0_1 : l0_1.length ≤ c0_1) (h : laws_toEntity.f k a0_0 l0_1 = some (r1, r2)) :
  Calls Try.prog 56 #[.agg #[.int .i64 a0_0, .slice A0_1 l0_1.length c0_1]] w fun e w' => ∃ v1_ : Value, e = .returned (.agg #[.int .i64 r1, v1_]) ∧ Kd.R k80 80 w' w.heap.size (fun _ => True) v1_ r2 ∧ Below w.heap.size w w' := by
 have hu91 := Try.underlying91
 have hu77 := Try.underlying77
 have HR0_1 := Aside0.mk hr0_1
 have HC0_1 := Aside0.mk hc0_1
 clear hr0_1 hc0_1
 have HB := Aside0.mk (Below.refl w.heap.size w)
 have H : ((laws_toPartS.f k l0_1).bind fun t166 => (some (a0_0, t166))) = some (r1, r2) := h
 clear h
 replace H := Option.bind_eq_some_iff.mp H
 obtain ⟨t166, A20, H⟩ := H
 replace H : (some (a0_0, t166)) = some (r1, r2) := H
 have A2 := Aside0.mk A20
 clear A20
 simp only [Option.some.injEq, Prod.mk.injEq] at H
 obtain ⟨rfl, rfl⟩ := H
 go_enter Try.func56, Try.ntmps56
 go_wp2_with (first | ((with_reducible refine gate_dst (N := 1) rfl ?_); refine box_event rfl (N := 1) rfl (cs := #[.int .i64 a0_0, .slice A0_1 l0_1.length c0_1]) (t := 91) sE ?_; intro gb163 hg w3 hbox hb; have BK163 := Aside0.mk hbox; have GW163 := gS w hg (lU); have GE163 := gS w hg (lU); replace HB := bH (lU) hb; clear hb hbox hg) | ((with_reducible refine gate_dst (N := 2) rfl ?_); refine box_event rfl (N := 2) rfl (cs := #[.int .i64 0, .slice none 0 0]) (t := 77) sE ?_; intro gb164 hg w4 hbox hb; have BK164 := Aside0.mk hbox; have GW164 := gS w hg (lV1 GE163); have GE164 := gS w hg (lV1 GE163); replace HB := bH (lV1 GE163) hb; have NB163_164 := nL hg (bV BK163); have NB164_163 := nG hg (bV BK163); replace BK163 := bB (bV BK163) hb; clear hb hbox hg) | ((with_reducible refine gate_dst (N := 3) rfl ?_); refine box_event rfl (N := 3) rfl (cs := #[.int .i64 0, .slice none 0 0]) (t := 77) sE ?_; intro gb165 hg w5 hbox hb; have BK165 := Aside0.mk hbox; have GW165 := gS w hg (lV2 GE163 GE164); have GE165 := gS w hg (lV2 GE163 GE164); replace HB := bH (lV2 GE163 GE164) hb; have NB163_165 := nL hg (bV BK163); have NB165_163 := nG hg (bV BK163); replace BK163 := bB (bV BK163) hb; have NB164_165 := nL hg (bV BK164); have NB165_164 := nG hg (bV BK164); replace BK164 := bB (bV BK164) hb; clear hb hbox hg; have hnb6 := NB163_164.out; have hnc6 := NB164_163.out; have hnb7 := NB163_165.out; have hnc7 := NB165_163.out; have hcz8_0 := cz BK163 0 (.int .i64 a0_0); have hcz8_1 := cz BK163 1 (.slice A0_1 l0_1.length c0_1); have hfz8_0 := fz BK163 0; have hfz8_1 := fz BK163 1; have hnb9 := NB165_164.out; have hnc9 := NB164_165.out; have hcz10_0 := cz BK165 0 (.int .i64 0); have hcz10_1 := cz BK165 1 (.slice none 0 0); have hfz10_0 := fz BK165 0; have hfz10_1 := fz BK165 1) | ((with_reducible refine gate_store (t := 3) (p := 6) rfl ?_); refine store_event (t := 3) (p := 6) (v := ?vo_w11) (w1 := (w5.setCell ⟨gb165, 0, none⟩ (.int .i64 a0_0))) ?hg ?ho ?hn ?hr ?_; (case ho => rfl); (case hg => rfl); (case hn => rfl); (case hr => first | (go_simp; done) | (go_simp; rfl) | (have hq0_ := (blk_cell BK165.out 0).trans (show _ = some _ from rfl); have hf0_ := blk_frozen BK165.out 0; first | (go_simp; done) | (go_simp; rfl))); intro w11 hw; replace BK163 : Aside0 (w11.heap[gb163]? = some (.cells #[.int .i64 a0_0, .slice A0_1 l0_1.length c0_1] 91 (0, 0))) := ⟨(by rw [hw]; exact (bG NB163_165 BK163))⟩; replace BK164 : Aside0 (w11.heap[gb164]? = some (.cells #[.int .i64 0, .slice none 0 0] 77 (0, 0))) := ⟨(by rw [hw]; exact (bG NB164_165 BK164))⟩; replace BK165 : Aside0 (w11.heap[gb165]? = some (.cells #[.int .i64 a0_0, .slice none 0 0] 77 (0, 0))) := ⟨(by rw [hw]; exact (by refine bU ?_; refine blk_put (cs := #[.int .i64 0, .slice none 0 0]) ?_ 0 _ rfl; refine bU ?_; exact BK165.out))⟩; replace HB : Aside0 (Below w.heap.size w w11) := ⟨(by rw [hw]; exact (lV3 GE163 GE164 GE165))⟩; clear hw; have hcz12_0 := cz BK163 0 (.int .i64 a0_0); have hcz12_1 := cz BK163 1 (.slice A0_1 l0_1.length c0_1); have hfz12_0 := fz BK163 0; have hfz12_1 := fz BK163 1) | ((with_reducible refine gate_callee (f := 66) rfl ?_); refine goesL_ (some 9) rfl rfl Try.func66 (by kernel_rfl) rfl #[.slice A0_1 l0_1.length c0_1] rfl aE ?_; (with_reducible refine (laws_toPartS.calls k _ _ l0_1 t166 _ ?side1 ?side2 A2.out).mono ?_); (case side1 => exact cU (Kd.C_below HR0_1.out HB.out)); (case side2 => exact HC0_1.out); rintro e w13 ⟨v167, rfl, ho0, hb⟩; refine ⟨_, rfl, ?_⟩; have HO168 := Aside0.mk (Kd.R_lower ho0 (below_size (lV3 GE163 GE164 GE165))); replace BK163 := bB (bV BK163) hb; replace BK164 := bB (bV BK164) hb; replace BK165 := bB (bV BK165) hb; replace HB := bH (lV3 GE163 GE164 GE165) hb; (try clear hb); (try clear ho0); obtain ⟨Ao14, co14, eo14⟩ := Kd.R_slice HO168.out; subst eo14; have hcz15_0 := cz BK165 0 (.int .i64 a0_0); have hcz15_1 := cz BK165 1 (.slice none 0 0); have hfz15_0 := fz BK165 0; have hfz15_1 := fz BK165 1) | ((with_reducible refine gate_store (t := 75) (p := 10) rfl ?_); refine store_event (t := 75) (p := 10) (v := ?vo_w16) (w1 := (w13.setCell ⟨gb165, 1, none⟩ (.slice Ao14 t166.length co14))) ?hg ?ho ?hn ?hr ?_; (case ho => rfl); (case hg => rfl); (case hn => rfl); (case hr => first | (go_simp; done) | (go_simp; rfl) | (have hq0_ := (blk_cell BK165.out 1).trans (show _ = some _ from rfl); have hf0_ := blk_frozen BK165.out 1; first | (go_simp; done) | (go_simp; rfl))); intro w16 hw; replace HO168 : Aside0 (Kd.R k80 80 w16 w.heap.size (fun _ => True) (.slice Ao14 t166.length co14) t166) := ⟨(by rw [hw]; exact (by (with_reducible repeat (first | apply Kd.R_alloc | apply Kd.R_drewN | apply Kd.R_drew)); exact Kd.R_mono (Kd.R_far (p := ⟨gb165, 1, none⟩) (Kd.R_types HO168.out BK165.out (by decide)) (fun _ hk => hk.2) (.slice Ao14 t166.length co14)) (fun _ hk => trivial)))⟩; replace BK163 : Aside0 (w16.heap[gb163]? = some (.cells #[.int .i64 a0_0, .slice A0_1 l0_1.length c0_1] 91 (0, 0))) := ⟨(by rw [hw]; exact (bG NB163_165 BK163))⟩; replace BK164 : Aside0 (w16.heap[gb164]? = some (.cells #[.int .i64 0, .slice none 0 0] 77 (0, 0))) := ⟨(by rw [hw]; exact (bG NB164_165 BK164))⟩; replace BK165 : Aside0 (w16.heap[gb165]? = some (.cells #[.int .i64 a0_0, .slice Ao14 t166.length co14] 77 (0, 0))) := ⟨(by rw [hw]; exact (by refine bU ?_; refine blk_put (cs := #[.int .i64 a0_0, .slice none 0 0]) ?_ 1 _ rfl; refine bU ?_; exact BK165.out))⟩; replace HB : Aside0 (Below w.heap.size w w16) := ⟨(by rw [hw]; exact (lV3 GE163 GE164 GE165))⟩; clear hw; have hcz17_0 := cz BK165 0 (.int .i64 a0_0); have hcz17_1 := cz BK165 1 (.slice Ao14 t166.length co14); have hfz17_0 := fz BK165 0; have hfz17_1 := fz BK165 1; have hcz18_0 := cz BK164 0 (.int .i64 0); have hcz18_1 := cz BK164 1 (.slice none 0 0); have hfz18_0 := fz BK164 0; have hfz18_1 := fz BK164 1) | ((with_reducible refine gate_store (t := 77) (p := 2) rfl ?_); refine store_event (t := 77) (p := 2) (v := ?vo_w19) (w1 := ((w16.setCell ⟨gb164, 0, none⟩ (.int .i64 a0_0)).setCell ⟨gb164, 1, none⟩ (.slice Ao14 t166.length co14))) ?hg ?ho ?hn ?hr ?_; (case ho => rfl); (case hg => rfl); (case hn => rfl); (case hr => first | (go_simp; done) | (go_simp; rfl) | (have hq0_ := (blk_cell BK164.out 0).trans (show _ = some _ from rfl); have hf0_ := blk_frozen BK164.out 0; have hq1_ := (blk_cell BK164.out 1).trans (show _ = some _ from rfl); have hf1_ := blk_frozen BK164.out 1; first | (go_simp; done) | (go_simp; rfl))); intro w19 hw; replace HO168 : Aside0 (Kd.R k80 80 w19 w.heap.size (fun _ => True) (.slice Ao14 t166.length co14) t166) := ⟨(by rw [hw]; exact (by (with_reducible repeat (first | apply Kd.R_alloc | apply Kd.R_drewN | apply Kd.R_drew)); exact Kd.R_mono (Kd.R_far (p := ⟨gb164, 1, none⟩) (Kd.R_far (p := ⟨gb164, 0, none⟩) (Kd.R_types HO168.out BK164.out (by decide)) (fun _ hk => hk.2) (.int .i64 a0_0)) (fun _ hk => hk.2) (.slice Ao14 t166.length co14)) (fun _ hk => trivial)))⟩; replace BK163 : Aside0 (w19.heap[gb163]? = some (.cells #[.int .i64 a0_0, .slice A0_1 l0_1.length c0_1] 91 (0, 0))) := ⟨(by rw [hw]; exact (bG NB163_164 BK163))⟩; replace BK164 : Aside0 (w19.heap[gb164]? = some (.cells #[.int .i64 a0_0, .slice Ao14 t166.length co14] 77 (0, 0))) := ⟨(by rw [hw]; exact (by refine bU ?_; refine blk_put (cs := #[.int .i64 a0_0, .slice none 0 0]) ?_ 1 _ rfl; refine bU ?_; refine blk_put (cs := #[.int .i64 0, .slice none 0 0]) ?_ 0 _ rfl; refine bU ?_; exact BK164.out))⟩; replace BK165 : Aside0 (w19.heap[gb165]? = some (.cells #[.int .i64 a0_0, .slice Ao14 t166.length co14] 77 (0, 0))) := ⟨(by rw [hw]; exact (bG NB165_164 BK165))⟩; replace HB : Aside0 (Below w.heap.size w w19) := ⟨(by rw [hw]; exact (lV3 GE163 GE164 GE165))⟩; clear hw))
 refine bodyPost_ret (results_cell_row rfl _ _ gb164 77 #[.int .i64 a0_0, .slice Ao14 t166.length co14] (0, 0) _ rfl (bV BK164) Try.underlying77 rfl (by kernel_rfl)) rfl ?_
 exact ⟨_, eE, by (with_reducible repeat (first | apply Kd.R_alloc | apply Kd.R_drewN | apply Kd.R_drew)); exact HO168.out, lV3 GE163 GE164 GE165⟩
def laws_toEntityS.l0 : Nat → List (S91) → List (S77) → Int → Option ((List (S77)))
 | 0, _, _, _ => none
 | k + 1, x0, x3, x4 => if x4 < (x0.length : Int) then (if 0 ≤ x4 then ((laws_toEntity.f k ((rd_T91 x0 x4).f0) ((rd_T91 x0 x4).f1)).bind fun bt173 => (if x4 < (x3.length : Int) then (laws_toEntityS.l0 k x0 (x3.set (x4 : Int).toNat (⟨bt173.1, bt173.2⟩ : S77)) (wrap64 (x4 + 1))) else (none))) else (none)) else (some x3)
def laws_toEntityS.f (k : Nat) (l0 : List (S91)) : Option ((List (S77))) := if 0 ≤ (l0.length : Int) then (if ((l0.length : Int) : Int).toNat ≤ 8796093022208 then (laws_toEntityS.l0 k l0 (List.replicate ((l0.length : Int) : Int).toNat z77) 0) else (none)) else (none)
theorem laws_toEntityS.mono_l : ∀ k, (∀ y0 y1 y2, LeO (laws_toEntityS.l0 k y0 y1 y2) (laws_toEntityS.l0 (k + 1) y0 y1 y2))
 | 0 => fun _ _ _ r h => by simp [laws_toEntityS.l0] at h
 | k + 1 => by
  have ih0 := laws_toEntityS.mono_l k
  ·intro y0 y1 y2
   unfold laws_toEntityS.l0
   repeat' first
   | (with_reducible exact ih0 _ _ _)
   | (with_reducible exact laws_toEntity.mono _ _ _)
   | (with_reducible exact LeO.refl _)
   | (with_reducible exact LeO.none _)
   | (with_reducible refine LeO.ite ?_ ?_)
   | (with_reducible refine LeO.bind ?_ (fun _ => ?_))
   | exact ih0 _ _ _
   | exact laws_toEntity.mono _ _ _
   | exact LeO.none _
   | refine LeO.ite ?_ ?_
   | refine LeO.bind ?_ (fun _ => ?_)
theorem laws_toEntityS.mono : ∀ a0 k, LeO (laws_toEntityS.f k a0) (laws_toEntityS.f (k + 1) a0) := by
 intro a0 k
 have ih0 := laws_toEntityS.mono_l k
 unfold laws_toEntityS.f
 repeat' first
   | (with_reducible exact ih0 _ _ _)
   | (with_reducible exact laws_toEntity.mono _ _ _)
   | (with_reducible exact LeO.refl _)
   | (with_reducible exact LeO.none _)
   | (with_reducible refine LeO.ite ?_ ?_)
   | (with_reducible refine LeO.bind ?_ (fun _ => ?_))
   | exact ih0 _ _ _
   | exact laws_toEntity.mono _ _ _
   | exact LeO.none _
   | refine LeO.ite ?_ ?_
   | refine LeO.bind ?_ (fun _ => ?_)
set_option maxHeartbeats 8000000 in
set_option maxRecDepth 100000 in
theorem laws_toEntityS.calls (k : Nat) (A0 : Option Addr) (c0 : Nat) (l0 : List (S91)) (r : List (S77)) (w : World) (hr0 : Kd.C k91 w A0 l0.length l0) (hc0 : l0.length ≤ c0) (h : laws_toEntityS.f k l0 = some r) :
  Calls Try.prog 44 #[.slice A0 l0.length c0] w fun e w' => ∃ v0_ : Value, e = .returned (v0_) ∧ Kd.S k77 77 w' w.heap.size (fun _ => True) v0_ r ∧ Below w.heap.size w w' := by
 have hu91 := Try.underlying91
 have hu77 := Try.underlying77
 have HR0 := Aside0.mk hr0
 have HC0 := Aside0.mk hc0
 clear hr0 hc0
 have HB := Aside0.mk (Below.refl w.heap.size w)
 have H : (if 0 ≤ (l0.length : Int) then (if ((l0.length : Int) : Int).toNat ≤ 8796093022208 then (laws_toEntityS.l0 k l0 (List.replicate ((l0.length : Int) : Int).toNat z77) 0) else (none)) else (none)) = some r := h
 clear h
 by_cases c2 : 0 ≤ (l0.length : Int)
 ·rw [if_pos c2] at H
  have c2b0 := eq_true c2
  have c2b1 : decide (0 ≤ (l0.length : Int)) = true := decide_eq_true c2
  clear c2
  by_cases c3 : ((l0.length : Int) : Int).toNat ≤ 8796093022208
  ·rw [if_pos c3] at H
   have c3b0 := eq_true c3
   have c3b1 : decide (((l0.length : Int) : Int).toNat ≤ 8796093022208) = true := decide_eq_true c3
   clear c3
   obtain ⟨y169, hy169⟩ : ∃ y_ : List (S77), y_ = (List.replicate ((l0.length : Int) : Int).toNat z77) := ⟨_, rfl⟩
   replace H : (laws_toEntityS.l0 k l0 y169 0) = some r := by first | (rw [hy169]; with_reducible exact H) | (have H2_ := (Option.bind_some _ _).symm.trans H; rw [hy169]; with_reducible exact H2_) | (have H2_ := (Option.bind_some _ _).symm.trans H; with_reducible exact H2_) | with_reducible exact H | (rw [hy169]; exact H) | exact H
   have Ny169 := Aside0.mk hy169
   clear hy169
   have H' := Aside0.mk H
   clear H
   go_enter Try.func44, Try.ntmps44
   go_wp2_with (first | ((with_reducible refine gate_dst (N := 7) rfl ?_); refine Kd.S_make k77 _ 77 rfl (N := 7) rfl 48 _ _ rfl (l0.length : Int) rfl rfl Try.underlying48 (.agg #[(.int .i64 0), (.slice none 0 0)]) 32 info77 rfl (by decide) (by omega) z77 (ok := fun _ => True) (okp := fun _ => True) (k77_mkM _ _ _ z77 (Kd.R_nil _ _ _ _ _)) (fun _ hk => hk) trivial (of_decide_eq_true hE) (Nat.le_trans (Nat.mul_le_mul_right _ (of_decide_eq_true hE : (l0.length : Int).toNat ≤ 8796093022208)) (by omega)) (Below.refl _ _) (Nat.le_refl _) ?_; intro v170 w4 ho5 hb hg_ hnew_; clear hg_ hnew_; (first | rw [← Ny169.out] at ho5 | (simp only [Int.reduceToNat] at ho5; rw [← Ny169.out] at ho5)); have HO171 := Aside0.mk (Kd.S_lower ho5 (below_size (lU))); replace HB := bH (lU) hb; clear hb ho5))
   (try simp only [Act.put, List.setIfInBounds_toArray, List.set_cons_zero, List.set_cons_succ])
   go_loopg [4] k (fun kq v4 w' => ∃ (x3_1 : List (S77)) (x4_1 : Int), v4 = .int .i64 x4_1 ∧ Aside0 (laws_toEntityS.l0 kq l0 x3_1 x4_1 = some r) ∧ Aside0 (kq ≤ k) ∧ Aside0 (Kd.S k77 77 w' w.heap.size (fun _ => True) v170 x3_1) ∧ Aside0 (Below w.heap.size w w'))
   case atStart => exact ⟨(y169), (0), tE, H', ⟨Nat.le_refl _⟩, ⟨by (with_reducible repeat (first | apply Kd.S_alloc | apply Kd.S_drewN | apply Kd.S_drew)); exact HO171.out⟩, ⟨by repeat (first | (with_reducible first | exact HB.out | apply below_alloc | apply pw_below_drewN | apply below_drew1) | exact HB.out)⟩⟩
   case round =>
    clear H'
    try clear c2
    try clear c2b0
    try clear c2b1
    try clear p2
    try clear c3
    try clear c3b0
    try clear c3b1
    try clear c4
    obtain ⟨x3_1, x4_1, rfl, HA, HK1, HO_3, HB⟩ := hrel
    cases gk with
    | zero => exact absurd HA.out (by simp [laws_toEntityS.l0])
    | succ k1 =>
     have H := HA.out
     clear HA
     simp only [laws_toEntityS.l0] at H
     by_cases c6 : x4_1 < (l0.length : Int)
     ·rw [if_pos c6] at H
      have c6b0 : decide (x4_1 < (l0.length : Int)) = true := decide_eq_true c6
      clear c6
      by_cases c7 : 0 ≤ x4_1
      ·rw [if_pos c7] at H
       have c7b0 : decide (0 ≤ x4_1) = true := decide_eq_true c7
       clear c7
       replace H := Option.bind_eq_some_iff.mp H
       obtain ⟨⟨t173, t174⟩, A80, H⟩ := H
       replace H : (if x4_1 < (x3_1.length : Int) then (laws_toEntityS.l0 k1 l0 (x3_1.set (x4_1 : Int).toNat (⟨t173, t174⟩ : S77)) (wrap64 (x4_1 + 1))) else (none)) = some r := H
       have A8 := Aside0.mk A80
       clear A80
       by_cases c9 : x4_1 < (x3_1.length : Int)
       ·rw [if_pos c9] at H
        have c9b0 : decide (x4_1 < (x3_1.length : Int)) = true := decide_eq_true c9
        clear c9
        obtain ⟨y177, hy177⟩ : ∃ y_ : List (S77), y_ = (x3_1.set (x4_1 : Int).toNat (⟨t173, t174⟩ : S77)) := ⟨_, rfl⟩
        replace H : (laws_toEntityS.l0 k1 l0 y177 (wrap64 (x4_1 + 1))) = some r := by first | (rw [hy177]; with_reducible exact H) | (have H2_ := (Option.bind_some _ _).symm.trans H; rw [hy177]; with_reducible exact H2_) | (have H2_ := (Option.bind_some _ _).symm.trans H; with_reducible exact H2_) | with_reducible exact H | (rw [hy177]; exact H) | exact H
        have Ny177 := Aside0.mk hy177
        clear hy177
        have H' := Aside0.mk H
        clear H
        have p172 : 0 ≤ (x4_1 : Int) := of_decide_eq_true hE
        have q172 : x4_1 < (l0.length : Int) := of_decide_eq_true hE
        obtain ⟨ad172, A172_1, c172_1, e172, hx172_0, hx172_1, hl172_1, hi172_1⟩ := at_T91 HR0.out x4_1 p172 q172
        cases e172
        replace hx172_0 := (HB.out.cell (World.block_lt_of_cell? w _ hx172_0)).trans hx172_0
        replace hx172_1 := (HB.out.cell (World.block_lt_of_cell? w _ hx172_1)).trans hx172_1
        have HR172_1 := Aside0.mk hi172_1
        have HC172_1 := Aside0.mk hl172_1
        clear hi172_1 hl172_1
        replace p172 := eq_true p172
        replace q172 := eq_true q172
        go_wp2_with (first | ((with_reducible refine gate_callee (f := 56) rfl ?_); refine goesL_ (some 20) rfl rfl Try.func56 (by kernel_rfl) rfl #[.agg #[.int .i64 ((rd_T91 l0 x4_1).f0), .slice A172_1 ((rd_T91 l0 x4_1).f1).length c172_1]] rfl aE ?_; (with_reducible refine (laws_toEntity.calls k1 ((rd_T91 l0 x4_1).f0) _ _ ((rd_T91 l0 x4_1).f1) t173 t174 _ ?side1 ?side2 A8.out).mono ?_); (case side1 => exact cU (Kd.C_below HR172_1.out HB.out)); (case side2 => exact HC172_1.out); rintro e w11 ⟨v175, rfl, ho0, hb⟩; refine ⟨_, rfl, ?_⟩; replace HO_3 := Aside0.mk (Kd.S_elder' (by (with_reducible repeat (first | apply Kd.S_alloc | apply Kd.S_drewN | apply Kd.S_drew)); exact HO_3.out) (Kd.R_base ho0) hb); have HO176 := Aside0.mk (Kd.R_lower ho0 (below_size (lU))); replace HB := bH (lU) hb; (try clear hb); (try clear ho0); have p10 : 0 ≤ (x4_1 : Int) := of_decide_eq_true hE; have q10 : (x4_1 : Int) < ((x3_1.length : Int) : Int) := of_decide_eq_true hE; obtain ⟨go10, co10, eo10, gb10, gl10, cl10, HG10⟩ := Kd.S_form HO_3.out (by omega); (first | cases eo10 | (injection eo10 with ea_ en_ ec_; (first | subst ea_ | (injection ea_ with ea_; subst ea_)); subst ec_; clear en_)); have GB10 := Aside0.mk gb10; have GG10 := Aside0.mk HG10; clear gb10 gl10 HG10; obtain ⟨_, ce10, hcl10, hM10, hcc10, hfr10, _, _⟩ := Kd.S_elem HO_3.out z77 (x4_1 : Int) p10 q10; obtain ⟨ve10_1, rfl, ge10_1⟩ := k77_openM hM10; have hx10_0 : w11.cell? ⟨go10, (x4_1 : Int).toNat * 2, none⟩ = some (.int .i64 ((rd_T77 x3_1 x4_1).f0)) := hcc10 0 _ rfl; have hx10_1 : w11.cell? ⟨go10, (x4_1 : Int).toNat * 2 + 1, none⟩ = some (ve10_1) := hcc10 1 _ rfl; have hf10_0 : w11.frozen? ⟨go10, (x4_1 : Int).toNat * 2, none⟩ = false := hfr10 0; have hf10_1 : w11.frozen? ⟨go10, (x4_1 : Int).toNat * 2 + 1, none⟩ = false := hfr10 1; (try clear hcl10); (try clear hcc10); (try clear hfr10); (try clear hM10); replace p10 := eq_true p10; replace q10 := eq_true q10; obtain ⟨Ao14, co14, eo14⟩ := Kd.R_slice HO176.out; subst eo14; have n_ := Aside0.mk (Kd.S_mono (ok' := (fun k_ => some k_ ≠ (.slice Ao14 t174.length co14 : Value).ownBlock)) HO_3.out (fun k_ hk => hk.2)); clear HO_3; have HO_3 := n_; clear n_; have HX12 := Aside0.mk (show Kd.S k77 77 w11 w.heap.size (fun k_ => ((fun _ => True)) k_ ∧ ¬ ((fun k_ => some k_ = (.slice Ao14 t174.length co14 : Value).ownBlock)) k_) (.slice (some ⟨go10, 0, none⟩) x3_1.length co10) x3_1 from (by (with_reducible repeat (first | apply Kd.S_alloc | apply Kd.S_drewN | apply Kd.S_drew)); exact Kd.S_mono HO_3.out (fun k_ hk => ⟨trivial, fun e_ => hk e_⟩))); obtain ⟨oki12, ce12, hcl12, hM12, hcc12, hfr12, hoki12, hH12⟩ := Kd.S_elem HX12.out z77 (x4_1 : Int) (of_decide_eq_true hE) (by have h_ : (x4_1 : Int) < ((x3_1.length : Int) : Int) := of_decide_eq_true hE; first | exact h_ | (have e_ := (Kd.S_reads' HO_3.out).1; omega) | simpa using h_); obtain ⟨ve12_1, rfl, ge12_1⟩ := k77_openM hM12; have HP12 := Kd.S_seg hH12 (of_decide_eq_true hE) (by have h_ : (x4_1 : Int) < ((x3_1.length : Int) : Int) := of_decide_eq_true hE; first | exact h_ | (have e_ := (Kd.S_reads' HO_3.out).1; omega) | simpa using h_) (seg := [.int .i64 t173, .slice Ao14 t174.length co14]) (j := 0) (show 2 ≤ 2 from by decide) (x' := (⟨t173, t174⟩ : S77)) (k77_mkM _ _ _ (⟨t173, t174⟩ : S77) (Kd.R_mono (Kd.R_tight rfl (Kd.R_mono (ok' := fun k_ => ((fun _ => True)) k_ ∧ k_ ≠ go10) (Kd.R_apart' (HO176.out) (Kd.S_typed HO_3.out) (by decide)) (fun k_ hk => ⟨trivial, fun e_ => (hk.2) (by rw [e_]; rfl)⟩))) (fun _ h_ => Or.inr (h_)))) (fun _ hk => hk) (fun k_ hk_ => ((Kd.R_mono (ok' := fun k_ => ((fun _ => True)) k_ ∧ k_ ≠ go10) (Kd.R_apart' (HO176.out) (Kd.S_typed HO_3.out) (by decide)) (fun k_ hk => ⟨trivial, fun e_ => (hk.2) (by rw [e_]; rfl)⟩))).1 k_ hk_.symm); have hx12_0 := hcc12 0 _ rfl; (try simp only [show (k77).sz = 2 from rfl, Nat.mul_one, Nat.add_zero] at hx12_0); have hf12_0 := hfr12 0; (try simp only [show (k77).sz = 2 from rfl, Nat.mul_one, Nat.add_zero] at hf12_0); have hx12_1 := hcc12 1 _ rfl; (try simp only [show (k77).sz = 2 from rfl, Nat.mul_one, Nat.add_zero] at hx12_1); have hf12_1 := hfr12 1; (try simp only [show (k77).sz = 2 from rfl, Nat.mul_one, Nat.add_zero] at hf12_1); (try clear hcl12); (try clear hcc12); (try clear hfr12); (try clear hM12); (try clear hoki12); (try clear hH12)) | ((with_reducible refine gate_store (t := 77) (p := 21) rfl ?_); refine store_event (t := 77) (p := 21) (v := ?vo_w13) (w1 := ((w11.setCell ⟨go10, (x4_1 : Int).toNat * 2, none⟩ (.int .i64 t173)).setCell ⟨go10, (x4_1 : Int).toNat * 2 + 1, none⟩ (.slice Ao14 t174.length co14))) ?hg ?ho ?hn ?hr ?_; (case ho => rfl); (case hg => rfl); (case hn => rfl); (case hr => exact sE); intro w13 hw; have hg : w11.grownBy w13 (some go10) := (by rw [hw]; exact HP12.2); have hp_ : Kd.S k77 77 w13 w.heap.size (fun _ => True) (.slice (some ⟨go10, 0, none⟩) x3_1.length co10) y177 := (by rw [hw, Ny177.out]; exact HP12.1); clear HP12; replace HO_3 := Aside0.mk hp_; replace HB := Aside0.mk ((by rw [hw]; exact below_set (below_set (HB.out) GB10.out) GB10.out : Below w.heap.size w w13)); clear HO176; clear hg hw hp_))
        go_roundg k1
        case measure => have := HK1.out; omega
        case rel => exact ⟨(y177), (wrap64 (x4_1 + 1)), tE, H', ⟨by have := HK1.out; omega⟩, ⟨by (with_reducible repeat (first | apply Kd.S_alloc | apply Kd.S_drewN | apply Kd.S_drew)); exact HO_3.out⟩, ⟨by repeat (first | (with_reducible first | exact HB.out | apply below_alloc | apply pw_below_drewN | apply below_drew1) | exact HB.out)⟩⟩
       ·rw [if_neg c9] at H
        exact absurd H (by simp)
      ·rw [if_neg c7] at H
       exact absurd H (by simp)
     ·rw [if_neg c6] at H
      have c6b0 : decide (x4_1 < (l0.length : Int)) = false := decide_eq_false c6
      clear c6
      obtain rfl := Option.some.inj H
      go_wp2
      go_ret
      exact ⟨_, eE, by (with_reducible repeat (first | apply Kd.S_alloc | apply Kd.S_drewN | apply Kd.S_drew)); exact HO_3.out, lU⟩
  ·rw [if_neg c3] at H
   exact absurd H (by simp)
 ·rw [if_neg c2] at H
  exact absurd H (by simp)
def laws_toWorld.f (k : Nat) (a0_0 : Int) (a0_1 : Int) (l0_2 : List (S91)) : Option (Int × Int × (List (S77))) := (laws_toEntityS.f k l0_2).bind fun t181 => (some (a0_0, a0_1, t181))
theorem laws_toWorld.mono : ∀ a0 a1 a2 k, LeO (laws_toWorld.f k a0 a1 a2) (laws_toWorld.f (k + 1) a0 a1 a2) := by
 intro a0 a1 a2 k
 unfold laws_toWorld.f
 repeat' first
   | (with_reducible exact laws_toEntityS.mono _ _)
   | (with_reducible exact LeO.refl _)
   | (with_reducible exact LeO.none _)
   | (with_reducible refine LeO.ite ?_ ?_)
   | (with_reducible refine LeO.bind ?_ (fun _ => ?_))
   | exact laws_toEntityS.mono _ _
   | exact LeO.none _
   | refine LeO.ite ?_ ?_
   | refine LeO.bind ?_ (fun _ => ?_)
set_option maxHeartbeats 8000000 in
set_option maxRecDepth 100000 in
theorem laws_toWorld.calls (k : Nat) (a0_0 : Int) (a0_1 : Int) (A0_2 : Option Addr) (c0_2 : Nat) (l0_2 : List (S91)) (r1 : Int) (r2 : Int) (r3 : List (S77)) (w : World) (hr0_2 : Kd.C k91 w A0_2 l0_2.length l0_2) (hc0_2 : l0_2.length ≤ c0_2) (h : laws_toWorld.f k a0_0 a0_1 l0_2 = some (r1, r2, r3)) :
  Calls Try.prog 22 #[.agg #[.int .i64 a0_0, .int .i64 a0_1, .slice A0_2 l0_2.length c0_2]] w fun e w' => ∃ v2_ : Value, e = .returned (.agg #[.int .i64 r1, .int .i64 r2, v2_]) ∧ Kd.S k77 77 w' w.heap.size (fun _ => True) v2_ r3 ∧ Below w.heap.size w w' := by
 have hu39 := Try.underlying39
 have hu50 := Try.underlying50
 have HR0_2 := Aside0.mk hr0_2
 have HC0_2 := Aside0.mk hc0_2
 clear hr0_2 hc0_2
 have HB := Aside0.mk (Below.refl w.heap.size w)
 have H : ((laws_toEntityS.f k l0_2).bind fun t181 => (some (a0_0, a0_1, t181))) = some (r1, r2, r3) := h
 clear h
 replace H := Option.bind_eq_some_iff.mp H
 obtain ⟨t181, A20, H⟩ := H
 replace H : (some (a0_0, a0_1, t181)) = some (r1, r2, r3) := H
 have A2 := Aside0.mk A20
 clear A20
 simp only [Option.some.injEq, Prod.mk.injEq] at H
 obtain ⟨rfl, rfl, rfl⟩ := H
 go_enter Try.func22, Try.ntmps22
 go_wp2_with (first | ((with_reducible refine gate_dst (N := 1) rfl ?_); refine box_event rfl (N := 1) rfl (cs := #[.int .i64 a0_0, .int .i64 a0_1, .slice A0_2 l0_2.length c0_2]) (t := 39) sE ?_; intro gb178 hg w3 hbox hb; have BK178 := Aside0.mk hbox; have GW178 := gS w hg (lU); have GE178 := gS w hg (lU); replace HB := bH (lU) hb; clear hb hbox hg) | ((with_reducible refine gate_dst (N := 2) rfl ?_); refine box_event rfl (N := 2) rfl (cs := #[.int .i64 0, .int .i64 0, .slice none 0 0]) (t := 50) sE ?_; intro gb179 hg w4 hbox hb; have BK179 := Aside0.mk hbox; have GW179 := gS w hg (lV1 GE178); have GE179 := gS w hg (lV1 GE178); replace HB := bH (lV1 GE178) hb; have NB178_179 := nL hg (bV BK178); have NB179_178 := nG hg (bV BK178); replace BK178 := bB (bV BK178) hb; clear hb hbox hg) | ((with_reducible refine gate_dst (N := 3) rfl ?_); refine box_event rfl (N := 3) rfl (cs := #[.int .i64 0, .int .i64 0, .slice none 0 0]) (t := 50) sE ?_; intro gb180 hg w5 hbox hb; have BK180 := Aside0.mk hbox; have GW180 := gS w hg (lV2 GE178 GE179); have GE180 := gS w hg (lV2 GE178 GE179); replace HB := bH (lV2 GE178 GE179) hb; have NB178_180 := nL hg (bV BK178); have NB180_178 := nG hg (bV BK178); replace BK178 := bB (bV BK178) hb; have NB179_180 := nL hg (bV BK179); have NB180_179 := nG hg (bV BK179); replace BK179 := bB (bV BK179) hb; clear hb hbox hg; have hnb6 := NB178_179.out; have hnc6 := NB179_178.out; have hnb7 := NB178_180.out; have hnc7 := NB180_178.out; have hcz8_0 := cz BK178 0 (.int .i64 a0_0); have hcz8_1 := cz BK178 1 (.int .i64 a0_1); have hcz8_2 := cz BK178 2 (.slice A0_2 l0_2.length c0_2); have hfz8_0 := fz BK178 0; have hfz8_1 := fz BK178 1; have hfz8_2 := fz BK178 2; have hnb9 := NB180_179.out; have hnc9 := NB179_180.out; have hcz10_0 := cz BK180 0 (.int .i64 0); have hcz10_1 := cz BK180 1 (.int .i64 0); have hcz10_2 := cz BK180 2 (.slice none 0 0); have hfz10_0 := fz BK180 0; have hfz10_1 := fz BK180 1; have hfz10_2 := fz BK180 2) | ((with_reducible refine gate_store (t := 3) (p := 6) rfl ?_); refine store_event (t := 3) (p := 6) (v := ?vo_w11) (w1 := (w5.setCell ⟨gb180, 0, none⟩ (.int .i64 a0_0))) ?hg ?ho ?hn ?hr ?_; (case ho => rfl); (case hg => rfl); (case hn => rfl); (case hr => first | (go_simp; done) | (go_simp; rfl) | (have hq0_ := (blk_cell BK180.out 0).trans (show _ = some _ from rfl); have hf0_ := blk_frozen BK180.out 0; first | (go_simp; done) | (go_simp; rfl))); intro w11 hw; replace BK178 : Aside0 (w11.heap[gb178]? = some (.cells #[.int .i64 a0_0, .int .i64 a0_1, .slice A0_2 l0_2.length c0_2] 39 (0, 0))) := ⟨(by rw [hw]; exact (bG NB178_180 BK178))⟩; replace BK179 : Aside0 (w11.heap[gb179]? = some (.cells #[.int .i64 0, .int .i64 0, .slice none 0 0] 50 (0, 0))) := ⟨(by rw [hw]; exact (bG NB179_180 BK179))⟩; replace BK180 : Aside0 (w11.heap[gb180]? = some (.cells #[.int .i64 a0_0, .int .i64 0, .slice none 0 0] 50 (0, 0))) := ⟨(by rw [hw]; exact (by refine bU ?_; refine blk_put (cs := #[.int .i64 0, .int .i64 0, .slice none 0 0]) ?_ 0 _ rfl; refine bU ?_; exact BK180.out))⟩; replace HB : Aside0 (Below w.heap.size w w11) := ⟨(by rw [hw]; exact (lV3 GE178 GE179 GE180))⟩; clear hw; have hcz12_0 := cz BK178 0 (.int .i64 a0_0); have hcz12_1 := cz BK178 1 (.int .i64 a0_1); have hcz12_2 := cz BK178 2 (.slice A0_2 l0_2.length c0_2); have hfz12_0 := fz BK178 0; have hfz12_1 := fz BK178 1; have hfz12_2 := fz BK178 2; have hcz13_0 := cz BK180 0 (.int .i64 a0_0); have hcz13_1 := cz BK180 1 (.int .i64 0); have hcz13_2 := cz BK180 2 (.slice none 0 0); have hfz13_0 := fz BK180 0; have hfz13_1 := fz BK180 1; have hfz13_2 := fz BK180 2) | ((with_reducible refine gate_store (t := 3) (p := 9) rfl ?_); refine store_event (t := 3) (p := 9) (v := ?vo_w14) (w1 := (w11.setCell ⟨gb180, 1, none⟩ (.int .i64 a0_1))) ?hg ?ho ?hn ?hr ?_; (case ho => rfl); (case hg => rfl); (case hn => rfl); (case hr => first | (go_simp; done) | (go_simp; rfl) | (have hq0_ := (blk_cell BK180.out 1).trans (show _ = some _ from rfl); have hf0_ := blk_frozen BK180.out 1; first | (go_simp; done) | (go_simp; rfl))); intro w14 hw; replace BK178 : Aside0 (w14.heap[gb178]? = some (.cells #[.int .i64 a0_0, .int .i64 a0_1, .slice A0_2 l0_2.length c0_2] 39 (0, 0))) := ⟨(by rw [hw]; exact (bG NB178_180 BK178))⟩; replace BK179 : Aside0 (w14.heap[gb179]? = some (.cells #[.int .i64 0, .int .i64 0, .slice none 0 0] 50 (0, 0))) := ⟨(by rw [hw]; exact (bG NB179_180 BK179))⟩; replace BK180 : Aside0 (w14.heap[gb180]? = some (.cells #[.int .i64 a0_0, .int .i64 a0_1, .slice none 0 0] 50 (0, 0))) := ⟨(by rw [hw]; exact (by refine bU ?_; refine blk_put (cs := #[.int .i64 a0_0, .int .i64 0, .slice none 0 0]) ?_ 1 _ rfl; refine bU ?_; exact BK180.out))⟩; replace HB : Aside0 (Below w.heap.size w w14) := ⟨(by rw [hw]; exact (lV3 GE178 GE179 GE180))⟩; clear hw; have hcz15_0 := cz BK178 0 (.int .i64 a0_0); have hcz15_1 := cz BK178 1 (.int .i64 a0_1); have hcz15_2 := cz BK178 2 (.slice A0_2 l0_2.length c0_2); have hfz15_0 := fz BK178 0; have hfz15_1 := fz BK178 1; have hfz15_2 := fz BK178 2) | ((with_reducible refine gate_callee (f := 44) rfl ?_); refine goesL_ (some 12) rfl rfl Try.func44 (by kernel_rfl) rfl #[.slice A0_2 l0_2.length c0_2] rfl aE ?_; (with_reducible refine (laws_toEntityS.calls k _ _ l0_2 t181 _ ?side1 ?side2 A2.out).mono ?_); (case side1 => exact cU (Kd.C_below HR0_2.out HB.out)); (case side2 => exact HC0_2.out); rintro e w16 ⟨v182, rfl, ho0, hb⟩; refine ⟨_, rfl, ?_⟩; have HO183 := Aside0.mk (Kd.S_lower ho0 (below_size (lV3 GE178 GE179 GE180))); replace BK178 := bB (bV BK178) hb; replace BK179 := bB (bV BK179) hb; replace BK180 := bB (bV BK180) hb; replace HB := bH (lV3 GE178 GE179 GE180) hb; (try clear hb); (try clear ho0); obtain ⟨Ao17, co17, eo17⟩ := Kd.S_slice HO183.out; subst eo17; have hcz18_0 := cz BK180 0 (.int .i64 a0_0); have hcz18_1 := cz BK180 1 (.int .i64 a0_1); have hcz18_2 := cz BK180 2 (.slice none 0 0); have hfz18_0 := fz BK180 0; have hfz18_1 := fz BK180 1; have hfz18_2 := fz BK180 2) | ((with_reducible refine gate_store (t := 48) (p := 13) rfl ?_); refine store_event (t := 48) (p := 13) (v := ?vo_w19) (w1 := (w16.setCell ⟨gb180, 2, none⟩ (.slice Ao17 t181.length co17))) ?hg ?ho ?hn ?hr ?_; (case ho => rfl); (case hg => rfl); (case hn => rfl); (case hr => first | (go_simp; done) | (go_simp; rfl) | (have hq0_ := (blk_cell BK180.out 2).trans (show _ = some _ from rfl); have hf0_ := blk_frozen BK180.out 2; first | (go_simp; done) | (go_simp; rfl))); intro w19 hw; replace HO183 : Aside0 (Kd.S k77 77 w19 w.heap.size (fun _ => True) (.slice Ao17 t181.length co17) t181) := ⟨(by rw [hw]; exact (by (with_reducible repeat (first | apply Kd.S_alloc | apply Kd.S_drewN | apply Kd.S_drew)); exact Kd.S_mono (Kd.S_far (p := ⟨gb180, 2, none⟩) (Kd.S_types HO183.out BK180.out (by decide)) (fun _ hk => hk.2) (.slice Ao17 t181.length co17)) (fun _ hk => trivial)))⟩; replace BK178 : Aside0 (w19.heap[gb178]? = some (.cells #[.int .i64 a0_0, .int .i64 a0_1, .slice A0_2 l0_2.length c0_2] 39 (0, 0))) := ⟨(by rw [hw]; exact (bG NB178_180 BK178))⟩; replace BK179 : Aside0 (w19.heap[gb179]? = some (.cells #[.int .i64 0, .int .i64 0, .slice none 0 0] 50 (0, 0))) := ⟨(by rw [hw]; exact (bG NB179_180 BK179))⟩; replace BK180 : Aside0 (w19.heap[gb180]? = some (.cells #[.int .i64 a0_0, .int .i64 a0_1, .slice Ao17 t181.length co17] 50 (0, 0))) := ⟨(by rw [hw]; exact (by refine bU ?_; refine blk_put (cs := #[.int .i64 a0_0, .int .i64 a0_1, .slice none 0 0]) ?_ 2 _ rfl; refine bU ?_; exact BK180.out))⟩; replace HB : Aside0 (Below w.heap.size w w19) := ⟨(by rw [hw]; exact (lV3 GE178 GE179 GE180))⟩; clear hw; have hcz20_0 := cz BK180 0 (.int .i64 a0_0); have hcz20_1 := cz BK180 1 (.int .i64 a0_1); have hcz20_2 := cz BK180 2 (.slice Ao17 t181.length co17); have hfz20_0 := fz BK180 0; have hfz20_1 := fz BK180 1; have hfz20_2 := fz BK180 2; have hcz21_0 := cz BK179 0 (.int .i64 0); have hcz21_1 := cz BK179 1 (.int .i64 0); have hcz21_2 := cz BK179 2 (.slice none 0 0); have hfz21_0 := fz BK179 0; have hfz21_1 := fz BK179 1; have hfz21_2 := fz BK179 2) | ((with_reducible refine gate_store (t := 50) (p := 2) rfl ?_); refine store_event (t := 50) (p := 2) (v := ?vo_w22) (w1 := (((w19.setCell ⟨gb179, 0, none⟩ (.int .i64 a0_0)).setCell ⟨gb179, 1, none⟩ (.int .i64 a0_1)).setCell ⟨gb179, 2, none⟩ (.slice Ao17 t181.length co17))) ?hg ?ho ?hn ?hr ?_; (case ho => rfl); (case hg => rfl); (case hn => rfl); (case hr => first | (go_simp; done) | (go_simp; rfl) | (have hq0_ := (blk_cell BK179.out 0).trans (show _ = some _ from rfl); have hf0_ := blk_frozen BK179.out 0; have hq1_ := (blk_cell BK179.out 1).trans (show _ = some _ from rfl); have hf1_ := blk_frozen BK179.out 1; have hq2_ := (blk_cell BK179.out 2).trans (show _ = some _ from rfl); have hf2_ := blk_frozen BK179.out 2; first | (go_simp; done) | (go_simp; rfl))); intro w22 hw; replace HO183 : Aside0 (Kd.S k77 77 w22 w.heap.size (fun _ => True) (.slice Ao17 t181.length co17) t181) := ⟨(by rw [hw]; exact (by (with_reducible repeat (first | apply Kd.S_alloc | apply Kd.S_drewN | apply Kd.S_drew)); exact Kd.S_mono (Kd.S_far (p := ⟨gb179, 2, none⟩) (Kd.S_far (p := ⟨gb179, 1, none⟩) (Kd.S_far (p := ⟨gb179, 0, none⟩) (Kd.S_types HO183.out BK179.out (by decide)) (fun _ hk => hk.2) (.int .i64 a0_0)) (fun _ hk => hk.2) (.int .i64 a0_1)) (fun _ hk => hk.2) (.slice Ao17 t181.length co17)) (fun _ hk => trivial)))⟩; replace BK178 : Aside0 (w22.heap[gb178]? = some (.cells #[.int .i64 a0_0, .int .i64 a0_1, .slice A0_2 l0_2.length c0_2] 39 (0, 0))) := ⟨(by rw [hw]; exact (bG NB178_179 BK178))⟩; replace BK179 : Aside0 (w22.heap[gb179]? = some (.cells #[.int .i64 a0_0, .int .i64 a0_1, .slice Ao17 t181.length co17] 50 (0, 0))) := ⟨(by rw [hw]; exact (by refine bU ?_; refine blk_put (cs := #[.int .i64 a0_0, .int .i64 a0_1, .slice none 0 0]) ?_ 2 _ rfl; refine bU ?_; refine blk_put (cs := #[.int .i64 a0_0, .int .i64 0, .slice none 0 0]) ?_ 1 _ rfl; refine bU ?_; refine blk_put (cs := #[.int .i64 0, .int .i64 0, .slice none 0 0]) ?_ 0 _ rfl; refine bU ?_; exact BK179.out))⟩; replace BK180 : Aside0 (w22.heap[gb180]? = some (.cells #[.int .i64 a0_0, .int .i64 a0_1, .slice Ao17 t181.length co17] 50 (0, 0))) := ⟨(by rw [hw]; exact (bG NB180_179 BK180))⟩; replace HB : Aside0 (Below w.heap.size w w22) := ⟨(by rw [hw]; exact (lV3 GE178 GE179 GE180))⟩; clear hw))
 refine bodyPost_ret (results_cell_row rfl _ _ gb179 50 #[.int .i64 a0_0, .int .i64 a0_1, .slice Ao17 t181.length co17] (0, 0) _ rfl (bV BK179) Try.underlying50 rfl (by kernel_rfl)) rfl ?_
 exact ⟨_, eE, by (with_reducible repeat (first | apply Kd.S_alloc | apply Kd.S_drewN | apply Kd.S_drew)); exact HO183.out, lV3 GE178 GE179 GE180⟩
def laws_toStringS.l0 : Nat → List ByteArray → List ByteArray → Int → Option (List ByteArray)
 | 0, _, _, _ => none
 | k + 1, x0, x3, x4 => if x4 < (x0.length : Int) then (if 0 ≤ x4 then (if x4 < (x3.length : Int) then (laws_toStringS.l0 k x0 (x3.set (x4 : Int).toNat (rdOf ByteArray.empty x0 x4)) (wrap64 (x4 + 1))) else (none)) else (none)) else (some x3)
def laws_toStringS.f (k : Nat) (l0 : List ByteArray) : Option (List ByteArray) := if 0 ≤ (l0.length : Int) then (if ((l0.length : Int) : Int).toNat ≤ 17592186044416 then (laws_toStringS.l0 k l0 (List.replicate ((l0.length : Int) : Int).toNat (⟨#[]⟩ : ByteArray)) 0) else (none)) else (none)
theorem laws_toStringS.mono_l : ∀ k, (∀ y0 y1 y2, LeO (laws_toStringS.l0 k y0 y1 y2) (laws_toStringS.l0 (k + 1) y0 y1 y2))
 | 0 => fun _ _ _ r h => by simp [laws_toStringS.l0] at h
 | k + 1 => by
  have ih0 := laws_toStringS.mono_l k
  ·intro y0 y1 y2
   unfold laws_toStringS.l0
   repeat' first
   | (with_reducible exact ih0 _ _ _)
   | (with_reducible exact LeO.refl _)
   | (with_reducible exact LeO.none _)
   | (with_reducible refine LeO.ite ?_ ?_)
   | (with_reducible refine LeO.bind ?_ (fun _ => ?_))
   | exact ih0 _ _ _
   | exact LeO.none _
   | refine LeO.ite ?_ ?_
   | refine LeO.bind ?_ (fun _ => ?_)
theorem laws_toStringS.mono : ∀ a0 k, LeO (laws_toStringS.f k a0) (laws_toStringS.f (k + 1) a0) := by
 intro a0 k
 have ih0 := laws_toStringS.mono_l k
 unfold laws_toStringS.f
 repeat' first
   | (with_reducible exact ih0 _ _ _)
   | (with_reducible exact LeO.refl _)
   | (with_reducible exact LeO.none _)
   | (with_reducible refine LeO.ite ?_ ?_)
   | (with_reducible refine LeO.bind ?_ (fun _ => ?_))
   | exact ih0 _ _ _
   | exact LeO.none _
   | refine LeO.ite ?_ ?_
   | refine LeO.bind ?_ (fun _ => ?_)
set_option maxHeartbeats 8000000 in
set_option maxRecDepth 100000 in
theorem laws_toStringS.calls (k : Nat) (A0 : Option Addr) (c0 : Nat) (l0 : List ByteArray) (r : List ByteArray) (w : World) (hr0 : Kd.C Kd.string w A0 l0.length l0) (hc0 : l0.length ≤ c0) (h : laws_toStringS.f k l0 = some r) :
  Calls Try.prog 45 #[.slice A0 l0.length c0] w fun e w' => ∃ v0_ : Value, e = .returned (v0_) ∧ Kd.R Kd.string 9 w' w.heap.size (fun _ => True) v0_ r ∧ Below w.heap.size w w' := by
 have HR0 := Aside0.mk hr0
 have HC0 := Aside0.mk hc0
 clear hr0 hc0
 have HB := Aside0.mk (Below.refl w.heap.size w)
 have H : (if 0 ≤ (l0.length : Int) then (if ((l0.length : Int) : Int).toNat ≤ 17592186044416 then (laws_toStringS.l0 k l0 (List.replicate ((l0.length : Int) : Int).toNat (⟨#[]⟩ : ByteArray)) 0) else (none)) else (none)) = some r := h
 clear h
 by_cases c2 : 0 ≤ (l0.length : Int)
 ·rw [if_pos c2] at H
  have c2b0 := eq_true c2
  have c2b1 : decide (0 ≤ (l0.length : Int)) = true := decide_eq_true c2
  clear c2
  by_cases c3 : ((l0.length : Int) : Int).toNat ≤ 17592186044416
  ·rw [if_pos c3] at H
   have c3b0 := eq_true c3
   have c3b1 : decide (((l0.length : Int) : Int).toNat ≤ 17592186044416) = true := decide_eq_true c3
   clear c3
   obtain ⟨y184, hy184⟩ : ∃ y_ : List ByteArray, y_ = (List.replicate ((l0.length : Int) : Int).toNat (⟨#[]⟩ : ByteArray)) := ⟨_, rfl⟩
   replace H : (laws_toStringS.l0 k l0 y184 0) = some r := by first | (rw [hy184]; with_reducible exact H) | (have H2_ := (Option.bind_some _ _).symm.trans H; rw [hy184]; with_reducible exact H2_) | (have H2_ := (Option.bind_some _ _).symm.trans H; with_reducible exact H2_) | with_reducible exact H | (rw [hy184]; exact H) | exact H
   have Ny184 := Aside0.mk hy184
   clear hy184
   have H' := Aside0.mk H
   clear H
   go_enter Try.func45, Try.ntmps45
   go_wp2_with (first | ((with_reducible refine gate_dst (N := 7) rfl ?_); refine Kd.R_make Kd.string _ 9 rfl (N := 7) rfl 40 _ _ rfl (l0.length : Int) rfl rfl Try.underlying40 (.string ⟨#[]⟩) 16 info9 rfl (by decide) (by omega) (⟨#[]⟩ : ByteArray) (ok := fun _ => True) (okp := fun _ => True) rfl (fun _ hk => hk) trivial (of_decide_eq_true hE) (Nat.le_trans (Nat.mul_le_mul_right _ (of_decide_eq_true hE : (l0.length : Int).toNat ≤ 17592186044416)) (by omega)) (Below.refl _ _) (Nat.le_refl _) ?_; intro v185 w4 ho5 hb hg_ hnew_; clear hg_ hnew_; (first | rw [← Ny184.out] at ho5 | (simp only [Int.reduceToNat] at ho5; rw [← Ny184.out] at ho5)); have HO186 := Aside0.mk (Kd.R_lower ho5 (below_size (lU))); replace HB := bH (lU) hb; clear hb ho5))
   (try simp only [Act.put, List.setIfInBounds_toArray, List.set_cons_zero, List.set_cons_succ])
   go_loopg [4] k (fun kq v4 w' => ∃ (x3_1 : List ByteArray) (x4_1 : Int), v4 = .int .i64 x4_1 ∧ Aside0 (laws_toStringS.l0 kq l0 x3_1 x4_1 = some r) ∧ Aside0 (kq ≤ k) ∧ Aside0 (Kd.R Kd.string 9 w' w.heap.size (fun _ => True) v185 x3_1) ∧ Aside0 (Below w.heap.size w w'))
   case atStart => exact ⟨(y184), (0), tE, H', ⟨Nat.le_refl _⟩, ⟨by (with_reducible repeat (first | apply Kd.R_alloc | apply Kd.R_drewN | apply Kd.R_drew)); exact HO186.out⟩, ⟨by repeat (first | (with_reducible first | exact HB.out | apply below_alloc | apply pw_below_drewN | apply below_drew1) | exact HB.out)⟩⟩
   case round =>
    clear H'
    try clear c2
    try clear c2b0
    try clear c2b1
    try clear p2
    try clear c3
    try clear c3b0
    try clear c3b1
    try clear c4
    obtain ⟨x3_1, x4_1, rfl, HA, HK1, HO_3, HB⟩ := hrel
    cases gk with
    | zero => exact absurd HA.out (by simp [laws_toStringS.l0])
    | succ k1 =>
     have H := HA.out
     clear HA
     simp only [laws_toStringS.l0] at H
     by_cases c6 : x4_1 < (l0.length : Int)
     ·rw [if_pos c6] at H
      have c6b0 : decide (x4_1 < (l0.length : Int)) = true := decide_eq_true c6
      clear c6
      by_cases c7 : 0 ≤ x4_1
      ·rw [if_pos c7] at H
       have c7b0 : decide (0 ≤ x4_1) = true := decide_eq_true c7
       clear c7
       by_cases c8 : x4_1 < (x3_1.length : Int)
       ·rw [if_pos c8] at H
        have c8b0 : decide (x4_1 < (x3_1.length : Int)) = true := decide_eq_true c8
        clear c8
        obtain ⟨y188, hy188⟩ : ∃ y_ : List ByteArray, y_ = (x3_1.set (x4_1 : Int).toNat (rdOf ByteArray.empty l0 x4_1)) := ⟨_, rfl⟩
        replace H : (laws_toStringS.l0 k1 l0 y188 (wrap64 (x4_1 + 1))) = some r := by first | (rw [hy188]; with_reducible exact H) | (have H2_ := (Option.bind_some _ _).symm.trans H; rw [hy188]; with_reducible exact H2_) | (have H2_ := (Option.bind_some _ _).symm.trans H; with_reducible exact H2_) | with_reducible exact H | (rw [hy188]; exact H) | exact H
        have Ny188 := Aside0.mk hy188
        clear hy188
        have H' := Aside0.mk H
        clear H
        have p187 : 0 ≤ (x4_1 : Int) := of_decide_eq_true hE
        have q187 : x4_1 < (l0.length : Int) := of_decide_eq_true hE
        obtain ⟨ad187, e187, hx187_0⟩ := Kd.at_string HR0.out x4_1 p187 q187
        cases e187
        replace hx187_0 := (HB.out.cell (World.block_lt_of_cell? w _ hx187_0)).trans hx187_0
        replace p187 := eq_true p187
        replace q187 := eq_true q187
        have p9 : 0 ≤ (x4_1 : Int) := of_decide_eq_true hE
        have q9 : (x4_1 : Int) < ((x3_1.length : Int) : Int) := of_decide_eq_true hE
        obtain ⟨go9, co9, eo9, gb9, gl9, cl9, HG9⟩ := Kd.R_form HO_3.out (by omega)
        (first | cases eo9 | (injection eo9 with ea_ en_ ec_; (first | subst ea_ | (injection ea_ with ea_; subst ea_)); subst ec_; clear en_))
        have GB9 := Aside0.mk gb9
        have GG9 := Aside0.mk HG9
        clear gb9 gl9 HG9
        obtain ⟨hx9_0, hf9_0⟩ := Kd.R_celln (⟨#[]⟩ : ByteArray) HO_3.out (x4_1 : Int) p9 q9
        replace p9 := eq_true p9
        replace q9 := eq_true q9
        have HP10 := Kd.R_putg HO_3.out (x4_1 : Int) (rdOf ByteArray.empty l0 x4_1)
        go_wp2_with (first | ((with_reducible refine gate_store (t := 9) (p := 20) rfl ?_); refine store_event (t := 9) (p := 20) (v := ?vo_w11) (w1 := (wr.setCell ⟨go9, (x4_1 : Int).toNat, none⟩ (.string (rdOf ByteArray.empty l0 x4_1)))) ?hg ?ho ?hn ?hr ?_; (case ho => rfl); (case hg => rfl); (case hn => rfl); (case hr => exact sE); intro w11 hw; have hg : wr.grownBy w11 (some go9) := (by rw [hw]; exact HP10.2); have hp_ : Kd.R Kd.string 9 w11 w.heap.size (fun _ => True) (.slice (some ⟨go9, 0, none⟩) x3_1.length co9) y188 := (by rw [hw, Ny188.out]; exact HP10.1); clear HP10; replace HO_3 := Aside0.mk hp_; replace HB := Aside0.mk ((by rw [hw]; exact below_set (HB.out) GB9.out : Below w.heap.size w w11)); clear hg hw hp_))
        go_roundg k1
        case measure => have := HK1.out; omega
        case rel => exact ⟨(y188), (wrap64 (x4_1 + 1)), tE, H', ⟨by have := HK1.out; omega⟩, ⟨by (with_reducible repeat (first | apply Kd.R_alloc | apply Kd.R_drewN | apply Kd.R_drew)); exact HO_3.out⟩, ⟨by repeat (first | (with_reducible first | exact HB.out | apply below_alloc | apply pw_below_drewN | apply below_drew1) | exact HB.out)⟩⟩
       ·rw [if_neg c8] at H
        exact absurd H (by simp)
      ·rw [if_neg c7] at H
       exact absurd H (by simp)
     ·rw [if_neg c6] at H
      have c6b0 : decide (x4_1 < (l0.length : Int)) = false := decide_eq_false c6
      clear c6
      obtain rfl := Option.some.inj H
      go_wp2
      go_ret
      exact ⟨_, eE, by (with_reducible repeat (first | apply Kd.R_alloc | apply Kd.R_drewN | apply Kd.R_drew)); exact HO_3.out, lU⟩
  ·rw [if_neg c3] at H
   exact absurd H (by simp)
 ·rw [if_neg c2] at H
  exact absurd H (by simp)
def laws_toQuery.f (k : Nat) (l0_0 : List ByteArray) (l0_1 : List ByteArray) (a0_2 : Int) : Option (List ByteArray × List ByteArray × Int) := (laws_toStringS.f k l0_0).bind fun t192 => ((laws_toStringS.f k l0_1).bind fun t195 => (some (t192, t195, a0_2)))
theorem laws_toQuery.mono : ∀ a0 a1 a2 k, LeO (laws_toQuery.f k a0 a1 a2) (laws_toQuery.f (k + 1) a0 a1 a2) := by
 intro a0 a1 a2 k
 unfold laws_toQuery.f
 repeat' first
   | (with_reducible exact laws_toStringS.mono _ _)
   | (with_reducible exact LeO.refl _)
   | (with_reducible exact LeO.none _)
   | (with_reducible refine LeO.ite ?_ ?_)
   | (with_reducible refine LeO.bind ?_ (fun _ => ?_))
   | exact laws_toStringS.mono _ _
   | exact LeO.none _
   | refine LeO.ite ?_ ?_
   | refine LeO.bind ?_ (fun _ => ?_)
set_option maxHeartbeats 8000000 in
set_option maxRecDepth 100000 in
theorem laws_toQuery.calls (k : Nat) (A0_0 : Option Addr) (c0_0 : Nat) (l0_0 : List ByteArray) (A0_1 : Option Addr) (c0_1 : Nat) (l0_1 : List ByteArray) (a0_2 : Int) (r1 : List ByteArray) (r2 : List ByteArray) (r3 : Int) (w : World) (hr0_0 : Kd.C Kd.string w A0_0 l0_0.length l0_0) (hc0_0 : l0_0.length ≤ c0_0) (hr0_1 : Kd.C Kd.string w A0_1 l0_1.length l0_1) (hc0_1 : l0_1.length ≤ c0_1) (h : laws_toQuery.f k l0_0 l0_1 a0_2 = some (r1, r2, r3)) :
  Calls Try.prog 23 #[.agg #[.slice A0_0 l0_0.length c0_0, .slice A0_1 l0_1.length c0_1, .int .i64 a0_2]] w fun e w' => ∃ v0_ v1_ : Value, e = .returned (.agg #[v0_, v1_, .int .i64 r3]) ∧ Kd.R Kd.string 9 w' w.heap.size (fun k_ => some k_ ≠ (v1_ : Value).ownBlock) v0_ r1 ∧ Kd.R Kd.string 9 w' w.heap.size (fun k_ => some k_ ≠ (v0_ : Value).ownBlock) v1_ r2 ∧ Below w.heap.size w w' := by
 have hu42 := Try.underlying42
 have hu52 := Try.underlying52
 have HR0_0 := Aside0.mk hr0_0
 have HC0_0 := Aside0.mk hc0_0
 clear hr0_0 hc0_0
 have HR0_1 := Aside0.mk hr0_1
 have HC0_1 := Aside0.mk hc0_1
 clear hr0_1 hc0_1
 have HB := Aside0.mk (Below.refl w.heap.size w)
 have H : ((laws_toStringS.f k l0_0).bind fun t192 => ((laws_toStringS.f k l0_1).bind fun t195 => (some (t192, t195, a0_2)))) = some (r1, r2, r3) := h
 clear h
 replace H := Option.bind_eq_some_iff.mp H
 obtain ⟨t192, A20, H⟩ := H
 replace H : ((laws_toStringS.f k l0_1).bind fun t195 => (some (t192, t195, a0_2))) = some (r1, r2, r3) := H
 have A2 := Aside0.mk A20
 clear A20
 replace H := Option.bind_eq_some_iff.mp H
 obtain ⟨t195, A30, H⟩ := H
 replace H : (some (t192, t195, a0_2)) = some (r1, r2, r3) := H
 have A3 := Aside0.mk A30
 clear A30
 simp only [Option.some.injEq, Prod.mk.injEq] at H
 obtain ⟨rfl, rfl, rfl⟩ := H
 go_enter Try.func23, Try.ntmps23
 go_wp2_with (first | ((with_reducible refine gate_dst (N := 1) rfl ?_); refine box_event rfl (N := 1) rfl (cs := #[.slice A0_0 l0_0.length c0_0, .slice A0_1 l0_1.length c0_1, .int .i64 a0_2]) (t := 42) sE ?_; intro gb189 hg w4 hbox hb; have BK189 := Aside0.mk hbox; have GW189 := gS w hg (lU); have GE189 := gS w hg (lU); replace HB := bH (lU) hb; clear hb hbox hg) | ((with_reducible refine gate_dst (N := 2) rfl ?_); refine box_event rfl (N := 2) rfl (cs := #[.slice none 0 0, .slice none 0 0, .int .i64 0]) (t := 52) sE ?_; intro gb190 hg w5 hbox hb; have BK190 := Aside0.mk hbox; have GW190 := gS w hg (lV1 GE189); have GE190 := gS w hg (lV1 GE189); replace HB := bH (lV1 GE189) hb; have NB189_190 := nL hg (bV BK189); have NB190_189 := nG hg (bV BK189); replace BK189 := bB (bV BK189) hb; clear hb hbox hg) | ((with_reducible refine gate_dst (N := 3) rfl ?_); refine box_event rfl (N := 3) rfl (cs := #[.slice none 0 0, .slice none 0 0, .int .i64 0]) (t := 52) sE ?_; intro gb191 hg w6 hbox hb; have BK191 := Aside0.mk hbox; have GW191 := gS w hg (lV2 GE189 GE190); have GE191 := gS w hg (lV2 GE189 GE190); replace HB := bH (lV2 GE189 GE190) hb; have NB189_191 := nL hg (bV BK189); have NB191_189 := nG hg (bV BK189); replace BK189 := bB (bV BK189) hb; have NB190_191 := nL hg (bV BK190); have NB191_190 := nG hg (bV BK190); replace BK190 := bB (bV BK190) hb; clear hb hbox hg; have hnb7 := NB189_190.out; have hnc7 := NB190_189.out; have hnb8 := NB189_191.out; have hnc8 := NB191_189.out; have hcz9_0 := cz BK189 0 (.slice A0_0 l0_0.length c0_0); have hcz9_1 := cz BK189 1 (.slice A0_1 l0_1.length c0_1); have hcz9_2 := cz BK189 2 (.int .i64 a0_2); have hfz9_0 := fz BK189 0; have hfz9_1 := fz BK189 1; have hfz9_2 := fz BK189 2) | ((with_reducible refine gate_callee (f := 45) rfl ?_); refine goesL_ (some 6) rfl rfl Try.func45 (by kernel_rfl) rfl #[.slice A0_0 l0_0.length c0_0] rfl aE ?_; (with_reducible refine (laws_toStringS.calls k _ _ l0_0 t192 _ ?side1 ?side2 A2.out).mono ?_); (case side1 => exact cU (Kd.C_below HR0_0.out HB.out)); (case side2 => exact HC0_0.out); rintro e w10 ⟨v193, rfl, ho0, hb⟩; refine ⟨_, rfl, ?_⟩; have HO194 := Aside0.mk (Kd.R_lower ho0 (below_size (lV3 GE189 GE190 GE191))); replace BK189 := bB (bV BK189) hb; replace BK190 := bB (bV BK190) hb; replace BK191 := bB (bV BK191) hb; replace HB := bH (lV3 GE189 GE190 GE191) hb; (try clear hb); (try clear ho0); obtain ⟨Ao11, co11, eo11⟩ := Kd.R_slice HO194.out; subst eo11; have hnb12 := NB191_190.out; have hnc12 := NB190_191.out; have hcz13_0 := cz BK191 0 (.slice none 0 0); have hcz13_1 := cz BK191 1 (.slice none 0 0); have hcz13_2 := cz BK191 2 (.int .i64 0); have hfz13_0 := fz BK191 0; have hfz13_1 := fz BK191 1; have hfz13_2 := fz BK191 2) | ((with_reducible refine gate_store (t := 40) (p := 7) rfl ?_); refine store_event (t := 40) (p := 7) (v := ?vo_w14) (w1 := (w10.setCell ⟨gb191, 0, none⟩ (.slice Ao11 t192.length co11))) ?hg ?ho ?hn ?hr ?_; (case ho => rfl); (case hg => rfl); (case hn => rfl); (case hr => first | (go_simp; done) | (go_simp; rfl) | (have hq0_ := (blk_cell BK191.out 0).trans (show _ = some _ from rfl); have hf0_ := blk_frozen BK191.out 0; first | (go_simp; done) | (go_simp; rfl))); intro w14 hw; replace HO194 : Aside0 (Kd.R Kd.string 9 w14 w.heap.size (fun _ => True) (.slice Ao11 t192.length co11) t192) := ⟨(by rw [hw]; exact (by (with_reducible repeat (first | apply Kd.R_alloc | apply Kd.R_drewN | apply Kd.R_drew)); exact Kd.R_mono (Kd.R_far (p := ⟨gb191, 0, none⟩) (Kd.R_types HO194.out BK191.out (by decide)) (fun _ hk => hk.2) (.slice Ao11 t192.length co11)) (fun _ hk => trivial)))⟩; replace BK189 : Aside0 (w14.heap[gb189]? = some (.cells #[.slice A0_0 l0_0.length c0_0, .slice A0_1 l0_1.length c0_1, .int .i64 a0_2] 42 (0, 0))) := ⟨(by rw [hw]; exact (bG NB189_191 BK189))⟩; replace BK190 : Aside0 (w14.heap[gb190]? = some (.cells #[.slice none 0 0, .slice none 0 0, .int .i64 0] 52 (0, 0))) := ⟨(by rw [hw]; exact (bG NB190_191 BK190))⟩; replace BK191 : Aside0 (w14.heap[gb191]? = some (.cells #[.slice Ao11 t192.length co11, .slice none 0 0, .int .i64 0] 52 (0, 0))) := ⟨(by rw [hw]; exact (by refine bU ?_; refine blk_put (cs := #[.slice none 0 0, .slice none 0 0, .int .i64 0]) ?_ 0 _ rfl; refine bU ?_; exact BK191.out))⟩; replace HB : Aside0 (Below w.heap.size w w14) := ⟨(by rw [hw]; exact (lV3 GE189 GE190 GE191))⟩; clear hw; have hcz15_0 := cz BK189 0 (.slice A0_0 l0_0.length c0_0); have hcz15_1 := cz BK189 1 (.slice A0_1 l0_1.length c0_1); have hcz15_2 := cz BK189 2 (.int .i64 a0_2); have hfz15_0 := fz BK189 0; have hfz15_1 := fz BK189 1; have hfz15_2 := fz BK189 2) | ((with_reducible refine gate_callee (f := 45) rfl ?_); refine goesL_ (some 10) rfl rfl Try.func45 (by kernel_rfl) rfl #[.slice A0_1 l0_1.length c0_1] rfl aE ?_; (with_reducible refine (laws_toStringS.calls k _ _ l0_1 t195 _ ?side1 ?side2 A3.out).mono ?_); (case side1 => exact cU (Kd.C_below HR0_1.out HB.out)); (case side2 => exact HC0_1.out); rintro e w16 ⟨v196, rfl, ho0, hb⟩; refine ⟨_, rfl, ?_⟩; have HO197 := Aside0.mk (Kd.R_lower (Kd.R_new' ho0 (Kd.R_lt (rU HO194.out))) (below_size (lV3 GE189 GE190 GE191))); replace HO194 := Aside0.mk (Kd.R_elder' (rU HO194.out) (Kd.R_base ho0) hb); replace BK189 := bB (bV BK189) hb; replace BK190 := bB (bV BK190) hb; replace BK191 := bB (bV BK191) hb; replace HB := bH (lV3 GE189 GE190 GE191) hb; (try clear hb); (try clear ho0); obtain ⟨Ao17, co17, eo17⟩ := Kd.R_slice HO197.out; subst eo17; have hcz18_0 := cz BK191 0 (.slice Ao11 t192.length co11); have hcz18_1 := cz BK191 1 (.slice none 0 0); have hcz18_2 := cz BK191 2 (.int .i64 0); have hfz18_0 := fz BK191 0; have hfz18_1 := fz BK191 1; have hfz18_2 := fz BK191 2) | ((with_reducible refine gate_store (t := 40) (p := 11) rfl ?_); refine store_event (t := 40) (p := 11) (v := ?vo_w19) (w1 := (w16.setCell ⟨gb191, 1, none⟩ (.slice Ao17 t195.length co17))) ?hg ?ho ?hn ?hr ?_; (case ho => rfl); (case hg => rfl); (case hn => rfl); (case hr => first | (go_simp; done) | (go_simp; rfl) | (have hq0_ := (blk_cell BK191.out 1).trans (show _ = some _ from rfl); have hf0_ := blk_frozen BK191.out 1; first | (go_simp; done) | (go_simp; rfl))); intro w19 hw; replace HO194 : Aside0 (Kd.R Kd.string 9 w19 w.heap.size (fun k_ => some k_ ≠ (.slice Ao17 t195.length co17 : Value).ownBlock) (.slice Ao11 t192.length co11) t192) := ⟨(by rw [hw]; exact (by (with_reducible repeat (first | apply Kd.R_alloc | apply Kd.R_drewN | apply Kd.R_drew)); exact Kd.R_mono (Kd.R_far (p := ⟨gb191, 1, none⟩) (Kd.R_types HO194.out BK191.out (by decide)) (fun _ hk => hk.2) (.slice Ao17 t195.length co17)) (fun _ hk => hk.1.2)))⟩; replace HO197 : Aside0 (Kd.R Kd.string 9 w19 w.heap.size (fun k_ => some k_ ≠ (.slice Ao11 t192.length co11 : Value).ownBlock) (.slice Ao17 t195.length co17) t195) := ⟨(by rw [hw]; exact (by (with_reducible repeat (first | apply Kd.R_alloc | apply Kd.R_drewN | apply Kd.R_drew)); exact Kd.R_mono (Kd.R_far (p := ⟨gb191, 1, none⟩) (Kd.R_types HO197.out BK191.out (by decide)) (fun _ hk => hk.2) (.slice Ao17 t195.length co17)) (fun _ hk => hk.1.2)))⟩; replace BK189 : Aside0 (w19.heap[gb189]? = some (.cells #[.slice A0_0 l0_0.length c0_0, .slice A0_1 l0_1.length c0_1, .int .i64 a0_2] 42 (0, 0))) := ⟨(by rw [hw]; exact (bG NB189_191 BK189))⟩; replace BK190 : Aside0 (w19.heap[gb190]? = some (.cells #[.slice none 0 0, .slice none 0 0, .int .i64 0] 52 (0, 0))) := ⟨(by rw [hw]; exact (bG NB190_191 BK190))⟩; replace BK191 : Aside0 (w19.heap[gb191]? = some (.cells #[.slice Ao11 t192.length co11, .slice Ao17 t195.length co17, .int .i64 0] 52 (0, 0))) := ⟨(by rw [hw]; exact (by refine bU ?_; refine blk_put (cs := #[.slice Ao11 t192.length co11, .slice none 0 0, .int .i64 0]) ?_ 1 _ rfl; refine bU ?_; exact BK191.out))⟩; replace HB : Aside0 (Below w.heap.size w w19) := ⟨(by rw [hw]; exact (lV3 GE189 GE190 GE191))⟩; clear hw; have hcz20_0 := cz BK189 0 (.slice A0_0 l0_0.length c0_0); have hcz20_1 := cz BK189 1 (.slice A0_1 l0_1.length c0_1); have hcz20_2 := cz BK189 2 (.int .i64 a0_2); have hfz20_0 := fz BK189 0; have hfz20_1 := fz BK189 1; have hfz20_2 := fz BK189 2; have hcz21_0 := cz BK191 0 (.slice Ao11 t192.length co11); have hcz21_1 := cz BK191 1 (.slice Ao17 t195.length co17); have hcz21_2 := cz BK191 2 (.int .i64 0); have hfz21_0 := fz BK191 0; have hfz21_1 := fz BK191 1; have hfz21_2 := fz BK191 2) | ((with_reducible refine gate_store (t := 3) (p := 14) rfl ?_); refine store_event (t := 3) (p := 14) (v := ?vo_w22) (w1 := (w19.setCell ⟨gb191, 2, none⟩ (.int .i64 a0_2))) ?hg ?ho ?hn ?hr ?_; (case ho => rfl); (case hg => rfl); (case hn => rfl); (case hr => first | (go_simp; done) | (go_simp; rfl) | (have hq0_ := (blk_cell BK191.out 2).trans (show _ = some _ from rfl); have hf0_ := blk_frozen BK191.out 2; first | (go_simp; done) | (go_simp; rfl))); intro w22 hw; replace HO194 : Aside0 (Kd.R Kd.string 9 w22 w.heap.size (fun k_ => some k_ ≠ (.slice Ao17 t195.length co17 : Value).ownBlock) (.slice Ao11 t192.length co11) t192) := ⟨(by rw [hw]; exact (by (with_reducible repeat (first | apply Kd.R_alloc | apply Kd.R_drewN | apply Kd.R_drew)); exact Kd.R_mono (Kd.R_far (p := ⟨gb191, 2, none⟩) (Kd.R_types HO194.out BK191.out (by decide)) (fun _ hk => hk.2) (.int .i64 a0_2)) (fun _ hk => hk.1)))⟩; replace HO197 : Aside0 (Kd.R Kd.string 9 w22 w.heap.size (fun k_ => some k_ ≠ (.slice Ao11 t192.length co11 : Value).ownBlock) (.slice Ao17 t195.length co17) t195) := ⟨(by rw [hw]; exact (by (with_reducible repeat (first | apply Kd.R_alloc | apply Kd.R_drewN | apply Kd.R_drew)); exact Kd.R_mono (Kd.R_far (p := ⟨gb191, 2, none⟩) (Kd.R_types HO197.out BK191.out (by decide)) (fun _ hk => hk.2) (.int .i64 a0_2)) (fun _ hk => hk.1)))⟩; replace BK189 : Aside0 (w22.heap[gb189]? = some (.cells #[.slice A0_0 l0_0.length c0_0, .slice A0_1 l0_1.length c0_1, .int .i64 a0_2] 42 (0, 0))) := ⟨(by rw [hw]; exact (bG NB189_191 BK189))⟩; replace BK190 : Aside0 (w22.heap[gb190]? = some (.cells #[.slice none 0 0, .slice none 0 0, .int .i64 0] 52 (0, 0))) := ⟨(by rw [hw]; exact (bG NB190_191 BK190))⟩; replace BK191 : Aside0 (w22.heap[gb191]? = some (.cells #[.slice Ao11 t192.length co11, .slice Ao17 t195.length co17, .int .i64 a0_2] 52 (0, 0))) := ⟨(by rw [hw]; exact (by refine bU ?_; refine blk_put (cs := #[.slice Ao11 t192.length co11, .slice Ao17 t195.length co17, .int .i64 0]) ?_ 2 _ rfl; refine bU ?_; exact BK191.out))⟩; replace HB : Aside0 (Below w.heap.size w w22) := ⟨(by rw [hw]; exact (lV3 GE189 GE190 GE191))⟩; clear hw; have hcz23_0 := cz BK191 0 (.slice Ao11 t192.length co11); have hcz23_1 := cz BK191 1 (.slice Ao17 t195.length co17); have hcz23_2 := cz BK191 2 (.int .i64 a0_2); have hfz23_0 := fz BK191 0; have hfz23_1 := fz BK191 1; have hfz23_2 := fz BK191 2; have hcz24_0 := cz BK190 0 (.slice none 0 0); have hcz24_1 := cz BK190 1 (.slice none 0 0); have hcz24_2 := cz BK190 2 (.int .i64 0); have hfz24_0 := fz BK190 0; have hfz24_1 := fz BK190 1; have hfz24_2 := fz BK190 2) | ((with_reducible refine gate_store (t := 52) (p := 2) rfl ?_); refine store_event (t := 52) (p := 2) (v := ?vo_w25) (w1 := (((w22.setCell ⟨gb190, 0, none⟩ (.slice Ao11 t192.length co11)).setCell ⟨gb190, 1, none⟩ (.slice Ao17 t195.length co17)).setCell ⟨gb190, 2, none⟩ (.int .i64 a0_2))) ?hg ?ho ?hn ?hr ?_; (case ho => rfl); (case hg => rfl); (case hn => rfl); (case hr => first | (go_simp; done) | (go_simp; rfl) | (have hq0_ := (blk_cell BK190.out 0).trans (show _ = some _ from rfl); have hf0_ := blk_frozen BK190.out 0; have hq1_ := (blk_cell BK190.out 1).trans (show _ = some _ from rfl); have hf1_ := blk_frozen BK190.out 1; have hq2_ := (blk_cell BK190.out 2).trans (show _ = some _ from rfl); have hf2_ := blk_frozen BK190.out 2; first | (go_simp; done) | (go_simp; rfl))); intro w25 hw; replace HO194 : Aside0 (Kd.R Kd.string 9 w25 w.heap.size (fun k_ => some k_ ≠ (.slice Ao17 t195.length co17 : Value).ownBlock) (.slice Ao11 t192.length co11) t192) := ⟨(by rw [hw]; exact (by (with_reducible repeat (first | apply Kd.R_alloc | apply Kd.R_drewN | apply Kd.R_drew)); exact Kd.R_mono (Kd.R_far (p := ⟨gb190, 2, none⟩) (Kd.R_far (p := ⟨gb190, 1, none⟩) (Kd.R_far (p := ⟨gb190, 0, none⟩) (Kd.R_types HO194.out BK190.out (by decide)) (fun _ hk => hk.2) (.slice Ao11 t192.length co11)) (fun _ hk => hk.2) (.slice Ao17 t195.length co17)) (fun _ hk => hk.2) (.int .i64 a0_2)) (fun _ hk => hk.1)))⟩; replace HO197 : Aside0 (Kd.R Kd.string 9 w25 w.heap.size (fun k_ => some k_ ≠ (.slice Ao11 t192.length co11 : Value).ownBlock) (.slice Ao17 t195.length co17) t195) := ⟨(by rw [hw]; exact (by (with_reducible repeat (first | apply Kd.R_alloc | apply Kd.R_drewN | apply Kd.R_drew)); exact Kd.R_mono (Kd.R_far (p := ⟨gb190, 2, none⟩) (Kd.R_far (p := ⟨gb190, 1, none⟩) (Kd.R_far (p := ⟨gb190, 0, none⟩) (Kd.R_types HO197.out BK190.out (by decide)) (fun _ hk => hk.2) (.slice Ao11 t192.length co11)) (fun _ hk => hk.2) (.slice Ao17 t195.length co17)) (fun _ hk => hk.2) (.int .i64 a0_2)) (fun _ hk => hk.1)))⟩; replace BK189 : Aside0 (w25.heap[gb189]? = some (.cells #[.slice A0_0 l0_0.length c0_0, .slice A0_1 l0_1.length c0_1, .int .i64 a0_2] 42 (0, 0))) := ⟨(by rw [hw]; exact (bG NB189_190 BK189))⟩; replace BK190 : Aside0 (w25.heap[gb190]? = some (.cells #[.slice Ao11 t192.length co11, .slice Ao17 t195.length co17, .int .i64 a0_2] 52 (0, 0))) := ⟨(by rw [hw]; exact (by refine bU ?_; refine blk_put (cs := #[.slice Ao11 t192.length co11, .slice Ao17 t195.length co17, .int .i64 0]) ?_ 2 _ rfl; refine bU ?_; refine blk_put (cs := #[.slice Ao11 t192.length co11, .slice none 0 0, .int .i64 0]) ?_ 1 _ rfl; refine bU ?_; refine blk_put (cs := #[.slice none 0 0, .slice none 0 0, .int .i64 0]) ?_ 0 _ rfl; refine bU ?_; exact BK190.out))⟩; replace BK191 : Aside0 (w25.heap[gb191]? = some (.cells #[.slice Ao11 t192.length co11, .slice Ao17 t195.length co17, .int .i64 a0_2] 52 (0, 0))) := ⟨(by rw [hw]; exact (bG NB191_190 BK191))⟩; replace HB : Aside0 (Below w.heap.size w w25) := ⟨(by rw [hw]; exact (lV3 GE189 GE190 GE191))⟩; clear hw))
 refine bodyPost_ret (results_cell_row rfl _ _ gb190 52 #[.slice Ao11 t192.length co11, .slice Ao17 t195.length co17, .int .i64 a0_2] (0, 0) _ rfl (bV BK190) Try.underlying52 rfl (by kernel_rfl)) rfl ?_
 exact ⟨_, _, eE, by (with_reducible repeat (first | apply Kd.R_alloc | apply Kd.R_drewN | apply Kd.R_drew)); exact HO194.out, by (with_reducible repeat (first | apply Kd.R_alloc | apply Kd.R_drewN | apply Kd.R_drew)); exact HO197.out, lV3 GE189 GE190 GE191⟩
def impl_inRange.f (a0 : Int) (a1 : Int) (a2 : Int) : Option (Bool) := if a1 ≤ a0 then (some (decide (a0 ≤ a2))) else (some false)
set_option maxHeartbeats 8000000 in
set_option maxRecDepth 100000 in
theorem impl_inRange.calls (a0 : Int) (a1 : Int) (a2 : Int) (r : Bool) (w : World) (h : impl_inRange.f a0 a1 a2 = some r) :
  Calls Try.prog 36 #[.int .i64 a0, .int .i64 a1, .int .i64 a2] w fun e w' => e = .returned (.bool r) ∧ Drawn0 w w' := by
 have H : (if a1 ≤ a0 then (some (decide (a0 ≤ a2))) else (some false)) = some r := h
 clear h
 by_cases c4 : a1 ≤ a0
 ·rw [if_pos c4] at H
  have c4b0 : decide (a1 ≤ a0) = true := decide_eq_true c4
  clear c4
  obtain rfl := Option.some.inj H
  go_enter Try.func36, Try.ntmps36
  go_wp2
  go_ret
  exact ⟨by first | rfl | (simp; done) | (simp [*]; done) | exact not_isEmpty _ | exact (not_isEmpty _).symm | exact is_empty _ | exact (is_empty _).symm, by repeat (first | exact Drawn0.refl _ | apply Drawn0.step)⟩
 ·rw [if_neg c4] at H
  have c4b0 : decide (a1 ≤ a0) = false := decide_eq_false c4
  clear c4
  obtain rfl := Option.some.inj H
  go_enter Try.func36, Try.ntmps36
  go_wp2
  go_ret
  exact ⟨by first | rfl | (simp; done) | (simp [*]; done) | exact not_isEmpty _ | exact (not_isEmpty _).symm | exact is_empty _ | exact (is_empty _).symm, by repeat (first | exact Drawn0.refl _ | apply Drawn0.step)⟩
def impl_isLetter.f (a0 : Int) : Option (Bool) := if a0 ≥ 97 then (if a0 ≤ 122 then (some true) else (if a0 ≥ 65 then (some (decide (a0 ≤ 90))) else (some false))) else (if a0 ≥ 65 then (some (decide (a0 ≤ 90))) else (some false))
set_option maxHeartbeats 8000000 in
set_option maxRecDepth 100000 in
theorem impl_isLetter.calls (a0 : Int) (r : Bool) (w : World) (h : impl_isLetter.f a0 = some r) :
  Calls Try.prog 74 #[.int .u8 a0] w fun e w' => e = .returned (.bool r) ∧ Drawn0 w w' := by
 have H : (if a0 ≥ 97 then (if a0 ≤ 122 then (some true) else (if a0 ≥ 65 then (some (decide (a0 ≤ 90))) else (some false))) else (if a0 ≥ 65 then (some (decide (a0 ≤ 90))) else (some false))) = some r := h
 clear h
 by_cases c2 : a0 ≥ 97
 ·rw [if_pos c2] at H
  have c2b0 : decide (97 ≤ a0) = true := decide_eq_true c2
  clear c2
  by_cases c3 : a0 ≤ 122
  ·rw [if_pos c3] at H
   have c3b0 : decide (a0 ≤ 122) = true := decide_eq_true c3
   clear c3
   obtain rfl := Option.some.inj H
   go_enter Try.func74, Try.ntmps74
   go_wp2
   go_ret
   exact ⟨by first | rfl | (simp; done) | (simp [*]; done) | exact not_isEmpty _ | exact (not_isEmpty _).symm | exact is_empty _ | exact (is_empty _).symm, by repeat (first | exact Drawn0.refl _ | apply Drawn0.step)⟩
  ·rw [if_neg c3] at H
   have c3b0 : decide (a0 ≤ 122) = false := decide_eq_false c3
   clear c3
   by_cases c4 : a0 ≥ 65
   ·rw [if_pos c4] at H
    have c4b0 : decide (65 ≤ a0) = true := decide_eq_true c4
    clear c4
    obtain rfl := Option.some.inj H
    go_enter Try.func74, Try.ntmps74
    go_wp2
    go_ret
    exact ⟨by first | rfl | (simp; done) | (simp [*]; done) | exact not_isEmpty _ | exact (not_isEmpty _).symm | exact is_empty _ | exact (is_empty _).symm, by repeat (first | exact Drawn0.refl _ | apply Drawn0.step)⟩
   ·rw [if_neg c4] at H
    have c4b0 : decide (65 ≤ a0) = false := decide_eq_false c4
    clear c4
    obtain rfl := Option.some.inj H
    go_enter Try.func74, Try.ntmps74
    go_wp2
    go_ret
    exact ⟨by first | rfl | (simp; done) | (simp [*]; done) | exact not_isEmpty _ | exact (not_isEmpty _).symm | exact is_empty _ | exact (is_empty _).symm, by repeat (first | exact Drawn0.refl _ | apply Drawn0.step)⟩
 ·rw [if_neg c2] at H
  have c2b0 : decide (97 ≤ a0) = false := decide_eq_false c2
  clear c2
  by_cases c5 : a0 ≥ 65
  ·rw [if_pos c5] at H
   have c5b0 : decide (65 ≤ a0) = true := decide_eq_true c5
   clear c5
   obtain rfl := Option.some.inj H
   go_enter Try.func74, Try.ntmps74
   go_wp2
   go_ret
   exact ⟨by first | rfl | (simp; done) | (simp [*]; done) | exact not_isEmpty _ | exact (not_isEmpty _).symm | exact is_empty _ | exact (is_empty _).symm, by repeat (first | exact Drawn0.refl _ | apply Drawn0.step)⟩
  ·rw [if_neg c5] at H
   have c5b0 : decide (65 ≤ a0) = false := decide_eq_false c5
   clear c5
   obtain rfl := Option.some.inj H
   go_enter Try.func74, Try.ntmps74
   go_wp2
   go_ret
   exact ⟨by first | rfl | (simp; done) | (simp [*]; done) | exact not_isEmpty _ | exact (not_isEmpty _).symm | exact is_empty _ | exact (is_empty _).symm, by repeat (first | exact Drawn0.refl _ | apply Drawn0.step)⟩
def impl_isDigit.f (a0 : Int) : Option (Bool) := if a0 ≥ 48 then (some (decide (a0 ≤ 57))) else (some false)
set_option maxHeartbeats 8000000 in
set_option maxRecDepth 100000 in
theorem impl_isDigit.calls (a0 : Int) (r : Bool) (w : World) (h : impl_isDigit.f a0 = some r) :
  Calls Try.prog 75 #[.int .u8 a0] w fun e w' => e = .returned (.bool r) ∧ Drawn0 w w' := by
 have H : (if a0 ≥ 48 then (some (decide (a0 ≤ 57))) else (some false)) = some r := h
 clear h
 by_cases c2 : a0 ≥ 48
 ·rw [if_pos c2] at H
  have c2b0 : decide (48 ≤ a0) = true := decide_eq_true c2
  clear c2
  obtain rfl := Option.some.inj H
  go_enter Try.func75, Try.ntmps75
  go_wp2
  go_ret
  exact ⟨by first | rfl | (simp; done) | (simp [*]; done) | exact not_isEmpty _ | exact (not_isEmpty _).symm | exact is_empty _ | exact (is_empty _).symm, by repeat (first | exact Drawn0.refl _ | apply Drawn0.step)⟩
 ·rw [if_neg c2] at H
  have c2b0 : decide (48 ≤ a0) = false := decide_eq_false c2
  clear c2
  obtain rfl := Option.some.inj H
  go_enter Try.func75, Try.ntmps75
  go_wp2
  go_ret
  exact ⟨by first | rfl | (simp; done) | (simp [*]; done) | exact not_isEmpty _ | exact (not_isEmpty _).symm | exact is_empty _ | exact (is_empty _).symm, by repeat (first | exact Drawn0.refl _ | apply Drawn0.step)⟩
def impl_GoodName.l0 : Nat → ByteArray → Int → Int → Option (Bool)
 | 0, _, _, _ => none
 | k + 1, x0, x5, x6 => if x6 < x5 then (if 0 ≤ x6 then (if x6 < (x0.size : Int) then ((impl_isLetter.f (bt x0 x6)).bind fun t199 => (if t199 = true then (impl_GoodName.l0 k x0 x5 (wrap64 (x6 + 1))) else (if (bt x0 x6) = 95 then (impl_GoodName.l0 k x0 x5 (wrap64 (x6 + 1))) else (if x6 = 0 then (some false) else ((impl_isDigit.f (bt x0 x6)).bind fun t200 => (if t200 = true then (impl_GoodName.l0 k x0 x5 (wrap64 (x6 + 1))) else (some false))))))) else (none)) else (none)) else ((impl_inRange.f (x0.size : Int) 1 20).bind fun t198 => (some t198))
def impl_GoodName.f (k : Nat) (a0 : ByteArray) : Option (Bool) := impl_GoodName.l0 k a0 (a0.size : Int) 0
theorem impl_GoodName.mono_l : ∀ k, (∀ y0 y1 y2, LeO (impl_GoodName.l0 k y0 y1 y2) (impl_GoodName.l0 (k + 1) y0 y1 y2))
 | 0 => fun _ _ _ r h => by simp [impl_GoodName.l0] at h
 | k + 1 => by
  have ih0 := impl_GoodName.mono_l k
  ·intro y0 y1 y2
   unfold impl_GoodName.l0
   repeat' first
   | (with_reducible exact ih0 _ _ _)
   | (with_reducible exact LeO.refl _)
   | (with_reducible exact LeO.none _)
   | (with_reducible refine LeO.ite ?_ ?_)
   | (with_reducible refine LeO.bind ?_ (fun _ => ?_))
   | exact ih0 _ _ _
   | exact LeO.none _
   | refine LeO.ite ?_ ?_
   | refine LeO.bind ?_ (fun _ => ?_)
theorem impl_GoodName.mono : ∀ a0 k, LeO (impl_GoodName.f k a0) (impl_GoodName.f (k + 1) a0) := by
 intro a0 k
 have ih0 := impl_GoodName.mono_l k
 unfold impl_GoodName.f
 repeat' first
   | (with_reducible exact ih0 _ _ _)
   | (with_reducible exact LeO.refl _)
   | (with_reducible exact LeO.none _)
   | (with_reducible refine LeO.ite ?_ ?_)
   | (with_reducible refine LeO.bind ?_ (fun _ => ?_))
   | exact ih0 _ _ _
   | exact LeO.none _
   | refine LeO.ite ?_ ?_
   | refine LeO.bind ?_ (fun _ => ?_)
set_option maxHeartbeats 8000000 in
set_option maxRecDepth 100000 in
theorem impl_GoodName.calls (k : Nat) (a0 : ByteArray) (r : Bool) (w : World) (h : impl_GoodName.f k a0 = some r) :
  Calls Try.prog 67 #[.string a0] w fun e w' => e = .returned (.bool r) ∧ Drawn0 w w' := by
 have H : (impl_GoodName.l0 k a0 (a0.size : Int) 0) = some r := h
 clear h
 have H' := Aside0.mk H
 clear H
 go_enter Try.func67, Try.ntmps67
 go_wp2
 go_loopg [6] k (fun kq v6 w' => ∃ (x6_1 : Int), v6 = .int .i64 x6_1 ∧ Aside0 (impl_GoodName.l0 kq a0 (a0.size : Int) x6_1 = some r) ∧ Aside0 (kq ≤ k) ∧ Drawn0 w w')
 case atStart => exact ⟨(0), tE, H', ⟨Nat.le_refl _⟩, by repeat (first | exact Drawn0.refl _ | apply Drawn0.step)⟩
 case round =>
  clear H'
  obtain ⟨x6_1, rfl, HA, HK1, ⟨m1, rfl⟩⟩ := hrel
  cases gk with
  | zero => exact absurd HA.out (by simp [impl_GoodName.l0])
  | succ k1 =>
   have H := HA.out
   clear HA
   simp only [impl_GoodName.l0] at H
   by_cases c2 : x6_1 < (a0.size : Int)
   ·rw [if_pos c2] at H
    have c2b0 : decide (x6_1 < (a0.size : Int)) = true := decide_eq_true c2
    clear c2
    by_cases c3 : 0 ≤ x6_1
    ·rw [if_pos c3] at H
     have c3b0 : decide (0 ≤ x6_1) = true := decide_eq_true c3
     clear c3
     by_cases c4 : x6_1 < (a0.size : Int)
     ·rw [if_pos c4] at H
      have c4b0 : decide (x6_1 < (a0.size : Int)) = true := decide_eq_true c4
      clear c4
      replace H := Option.bind_eq_some_iff.mp H
      obtain ⟨t199, A60, H⟩ := H
      replace H : (if t199 = true then (impl_GoodName.l0 k1 a0 (a0.size : Int) (wrap64 (x6_1 + 1))) else (if (bt a0 x6_1) = 95 then (impl_GoodName.l0 k1 a0 (a0.size : Int) (wrap64 (x6_1 + 1))) else (if x6_1 = 0 then (some false) else ((impl_isDigit.f (bt a0 x6_1)).bind fun t200 => (if t200 = true then (impl_GoodName.l0 k1 a0 (a0.size : Int) (wrap64 (x6_1 + 1))) else (some false)))))) = some r := H
      have A6 := Aside0.mk A60
      clear A60
      by_cases c7 : t199 = true
      ·subst c7
       have H1 : (impl_GoodName.l0 k1 a0 (a0.size : Int) (wrap64 (x6_1 + 1))) = some r := by rw [if_pos rfl] at H; exact H
       clear H
       have H := H1
       clear H1
       have H' := Aside0.mk H
       clear H
       have p5 : 0 ≤ (x6_1 : Int) := of_decide_eq_true hE
       have q5 : x6_1 < (a0.size : Int) := of_decide_eq_true hE
       have hx5 := bt_at a0 x6_1
       replace p5 := eq_true p5
       replace q5 := eq_true q5
       go_wp2_with (first | ((with_reducible refine gate_callee (f := 74) rfl ?_); refine goesL_ (some 12) rfl rfl Try.func74 (by kernel_rfl) rfl #[.int .u8 (bt a0 x6_1)] rfl aE ?_; (with_reducible refine (impl_isLetter.calls (bt a0 x6_1) true _ A6.out).mono ?_); rintro e w' ⟨rfl, ⟨nd, rfl⟩⟩; refine ⟨_, rfl, ?_⟩))
       go_roundg k1
       case measure => have := HK1.out; omega
       case rel => exact ⟨(wrap64 (x6_1 + 1)), tE, H', ⟨by have := HK1.out; omega⟩, by repeat (first | exact Drawn0.refl _ | apply Drawn0.step)⟩
      ·replace c7 := Bool.eq_false_iff.mpr c7
       subst c7
       have H1 : (if (bt a0 x6_1) = 95 then (impl_GoodName.l0 k1 a0 (a0.size : Int) (wrap64 (x6_1 + 1))) else (if x6_1 = 0 then (some false) else ((impl_isDigit.f (bt a0 x6_1)).bind fun t200 => (if t200 = true then (impl_GoodName.l0 k1 a0 (a0.size : Int) (wrap64 (x6_1 + 1))) else (some false))))) = some r := by rw [if_neg (show ¬ (false = true) by decide)] at H; exact H
       clear H
       have H := H1
       clear H1
       by_cases c9 : (bt a0 x6_1) = 95
       ·rw [if_pos c9] at H
        have c9b0 : ((bt a0 x6_1) == 95) = true := beq_iff_eq.mpr c9
        have c9b1 : ((bt a0 x6_1) != 95) = false := bne_eq_false_iff_eq.mpr c9
        clear c9
        have H' := Aside0.mk H
        clear H
        have p5 : 0 ≤ (x6_1 : Int) := of_decide_eq_true hE
        have q5 : x6_1 < (a0.size : Int) := of_decide_eq_true hE
        have hx5 := bt_at a0 x6_1
        replace p5 := eq_true p5
        replace q5 := eq_true q5
        go_wp2_with (first | ((with_reducible refine gate_callee (f := 74) rfl ?_); refine goesL_ (some 12) rfl rfl Try.func74 (by kernel_rfl) rfl #[.int .u8 (bt a0 x6_1)] rfl aE ?_; (with_reducible refine (impl_isLetter.calls (bt a0 x6_1) false _ A6.out).mono ?_); rintro e w' ⟨rfl, ⟨nd, rfl⟩⟩; refine ⟨_, rfl, ?_⟩; have p8 : 0 ≤ (x6_1 : Int) := of_decide_eq_true hE; have q8 : x6_1 < (a0.size : Int) := of_decide_eq_true hE; have hx8 := bt_at a0 x6_1; replace p8 := eq_true p8; replace q8 := eq_true q8))
        go_roundg k1
        case measure => have := HK1.out; omega
        case rel => exact ⟨(wrap64 (x6_1 + 1)), tE, H', ⟨by have := HK1.out; omega⟩, by repeat (first | exact Drawn0.refl _ | apply Drawn0.step)⟩
       ·rw [if_neg c9] at H
        have c9b0 : ((bt a0 x6_1) == 95) = false := beq_eq_false_iff_ne.mpr c9
        have c9b1 : ((bt a0 x6_1) != 95) = true := bne_iff_ne.mpr c9
        by_cases c10 : x6_1 = 0
        ·rw [if_pos c10] at H
         have c10b0 : (x6_1 == 0) = true := beq_iff_eq.mpr c10
         have c10b1 : (x6_1 != 0) = false := bne_eq_false_iff_eq.mpr c10
         clear c10
         obtain rfl := Option.some.inj H
         have p5 : 0 ≤ (x6_1 : Int) := of_decide_eq_true hE
         have q5 : x6_1 < (a0.size : Int) := of_decide_eq_true hE
         have hx5 := bt_at a0 x6_1
         replace p5 := eq_true p5
         replace q5 := eq_true q5
         go_wp2_with (first | ((with_reducible refine gate_callee (f := 74) rfl ?_); refine goesL_ (some 12) rfl rfl Try.func74 (by kernel_rfl) rfl #[.int .u8 (bt a0 x6_1)] rfl aE ?_; (with_reducible refine (impl_isLetter.calls (bt a0 x6_1) false _ A6.out).mono ?_); rintro e w' ⟨rfl, ⟨nd, rfl⟩⟩; refine ⟨_, rfl, ?_⟩; have p8 : 0 ≤ (x6_1 : Int) := of_decide_eq_true hE; have q8 : x6_1 < (a0.size : Int) := of_decide_eq_true hE; have hx8 := bt_at a0 x6_1; replace p8 := eq_true p8; replace q8 := eq_true q8))
         go_ret
         exact ⟨by first | rfl | (simp; done) | (simp [*]; done) | exact not_isEmpty _ | exact (not_isEmpty _).symm | exact is_empty _ | exact (is_empty _).symm, by repeat (first | exact Drawn0.refl _ | apply Drawn0.step)⟩
        ·rw [if_neg c10] at H
         have c10b0 : (x6_1 == 0) = false := beq_eq_false_iff_ne.mpr c10
         have c10b1 : (x6_1 != 0) = true := bne_iff_ne.mpr c10
         replace H := Option.bind_eq_some_iff.mp H
         obtain ⟨t200, A120, H⟩ := H
         replace H : (if t200 = true then (impl_GoodName.l0 k1 a0 (a0.size : Int) (wrap64 (x6_1 + 1))) else (some false)) = some r := H
         have A12 := Aside0.mk A120
         clear A120
         by_cases c13 : t200 = true
         ·subst c13
          have H1 : (impl_GoodName.l0 k1 a0 (a0.size : Int) (wrap64 (x6_1 + 1))) = some r := by rw [if_pos rfl] at H; exact H
          clear H
          have H := H1
          clear H1
          have H' := Aside0.mk H
          clear H
          have p5 : 0 ≤ (x6_1 : Int) := of_decide_eq_true hE
          have q5 : x6_1 < (a0.size : Int) := of_decide_eq_true hE
          have hx5 := bt_at a0 x6_1
          replace p5 := eq_true p5
          replace q5 := eq_true q5
          go_wp2_with (first | ((with_reducible refine gate_callee (f := 74) rfl ?_); refine goesL_ (some 12) rfl rfl Try.func74 (by kernel_rfl) rfl #[.int .u8 (bt a0 x6_1)] rfl aE ?_; (with_reducible refine (impl_isLetter.calls (bt a0 x6_1) false _ A6.out).mono ?_); rintro e w' ⟨rfl, ⟨nd, rfl⟩⟩; refine ⟨_, rfl, ?_⟩; have p8 : 0 ≤ (x6_1 : Int) := of_decide_eq_true hE; have q8 : x6_1 < (a0.size : Int) := of_decide_eq_true hE; have hx8 := bt_at a0 x6_1; replace p8 := eq_true p8; replace q8 := eq_true q8; have p11 : 0 ≤ (x6_1 : Int) := of_decide_eq_true hE; have q11 : x6_1 < (a0.size : Int) := of_decide_eq_true hE; have hx11 := bt_at a0 x6_1; replace p11 := eq_true p11; replace q11 := eq_true q11) | (go_at_call 75; (with_reducible refine (impl_isDigit.calls (bt a0 x6_1) true _ A12.out).mono ?_); rintro e w' ⟨rfl, ⟨nd, rfl⟩⟩))
          go_roundg k1
          case measure => have := HK1.out; omega
          case rel => exact ⟨(wrap64 (x6_1 + 1)), tE, H', ⟨by have := HK1.out; omega⟩, by repeat (first | exact Drawn0.refl _ | apply Drawn0.step)⟩
         ·replace c13 := Bool.eq_false_iff.mpr c13
          subst c13
          have H1 : (some false) = some r := by rw [if_neg (show ¬ (false = true) by decide)] at H; exact H
          clear H
          have H := H1
          clear H1
          obtain rfl := Option.some.inj H
          have p5 : 0 ≤ (x6_1 : Int) := of_decide_eq_true hE
          have q5 : x6_1 < (a0.size : Int) := of_decide_eq_true hE
          have hx5 := bt_at a0 x6_1
          replace p5 := eq_true p5
          replace q5 := eq_true q5
          go_wp2_with (first | ((with_reducible refine gate_callee (f := 74) rfl ?_); refine goesL_ (some 12) rfl rfl Try.func74 (by kernel_rfl) rfl #[.int .u8 (bt a0 x6_1)] rfl aE ?_; (with_reducible refine (impl_isLetter.calls (bt a0 x6_1) false _ A6.out).mono ?_); rintro e w' ⟨rfl, ⟨nd, rfl⟩⟩; refine ⟨_, rfl, ?_⟩; have p8 : 0 ≤ (x6_1 : Int) := of_decide_eq_true hE; have q8 : x6_1 < (a0.size : Int) := of_decide_eq_true hE; have hx8 := bt_at a0 x6_1; replace p8 := eq_true p8; replace q8 := eq_true q8; have p11 : 0 ≤ (x6_1 : Int) := of_decide_eq_true hE; have q11 : x6_1 < (a0.size : Int) := of_decide_eq_true hE; have hx11 := bt_at a0 x6_1; replace p11 := eq_true p11; replace q11 := eq_true q11) | (go_at_call 75; (with_reducible refine (impl_isDigit.calls (bt a0 x6_1) false _ A12.out).mono ?_); rintro e w' ⟨rfl, ⟨nd, rfl⟩⟩))
          go_ret
          exact ⟨by first | rfl | (simp; done) | (simp [*]; done) | exact not_isEmpty _ | exact (not_isEmpty _).symm | exact is_empty _ | exact (is_empty _).symm, by repeat (first | exact Drawn0.refl _ | apply Drawn0.step)⟩
     ·rw [if_neg c4] at H
      exact absurd H (by simp)
    ·rw [if_neg c3] at H
     exact absurd H (by simp)
   ·rw [if_neg c2] at H
    have c2b0 : decide (x6_1 < (a0.size : Int)) = false := decide_eq_false c2
    clear c2
    replace H := Option.bind_eq_some_iff.mp H
    obtain ⟨t198, A140, H⟩ := H
    replace H : (some t198) = some r := H
    have A14 := Aside0.mk A140
    clear A140
    obtain rfl := Option.some.inj H
    go_wp2_with (first | ((with_reducible refine gate_callee (f := 36) rfl ?_); refine goesL_ (some 34) rfl rfl Try.func36 (by kernel_rfl) rfl #[.int .i64 (a0.size : Int), .int .i64 1, .int .i64 20] rfl aE ?_; (with_reducible refine (impl_inRange.calls (a0.size : Int) 1 20 t198 _ A14.out).mono ?_); rintro e w' ⟨rfl, ⟨nd, rfl⟩⟩; refine ⟨_, rfl, ?_⟩))
    go_ret
    exact ⟨by first | rfl | (simp; done) | (simp [*]; done) | exact not_isEmpty _ | exact (not_isEmpty _).symm | exact is_empty _ | exact (is_empty _).symm, by repeat (first | exact Drawn0.refl _ | apply Drawn0.step)⟩
end Go.Proofs.Ytcpodjegdpbalaa.PFnExactQueryWorld
