/- Texts of a row. -/
import Derived.Test.YtmmgmbmjlbdpnaaZFnPlaced3
import Derived.Test.YtmmgmbmjlbdpnaaZFnPlaced4
namespace Go.Proofs.Ytmmgmbmjlbdpnaa.PFnPlaced
open Go.RowKit Go.Proofs.YtmmgmbmjlbdpnaaW.PrintWords Go.Proofs.YtmmgmbmjlbdpnaaW.PrintLast Go.Proofs.YtmmgmbmjlbdpnaaW.PrintMore
attribute [local go_sem] max2_int min2_int max_two min_two max_three min_three max_four min_four   -- for this text's walks alone
set_option linter.unusedVariables false
set_option linter.unusedSimpArgs false
mutual
def spec_l1Cur_scene.j0 : Nat → List (S36) → Int → List Int → Int → Int → Option ((List (S36)) × Int × Int)
 | 0, _, _, _, _, _ => none
 | k + 1, x3, x4, x1000, x1001, x1002 => spec_l1Cur_scene.l0 k x3 x4 0 x1000 x1001 x1002
def spec_l1Cur_scene.l0 : Nat → List (S36) → Int → Int → List Int → Int → Int → Option ((List (S36)) × Int × Int)
 | 0, _, _, _, _, _, _ => none
 | k + 1, x3, x4, x5, x1000, x1001, x1002 => if x5 < x4 then ((spec_l1Cur_spot.f x1000 x1001 x1002).bind fun bt216 => ((spec_l4Good.f bt216.1 bt216.2.1 bt216.2.2.1 bt216.2.2.2.1).bind fun t223 => (if t223 = true then (spec_l1Cur_scene.j2 k x3 x4 x5 false x1000 bt216.2.2.2.2.1 bt216.2.2.2.2.2 bt216.1 bt216.2.1 bt216.2.2.1 bt216.2.2.2.1) else ((spec_l1Cur_one.f x1000 bt216.2.2.2.2.1 bt216.2.2.2.2.2 4).bind fun bt224 => (spec_l1Cur_scene.j2 k x3 x4 x5 (!bt224.1) x1000 bt224.2.1 bt224.2.2 bt216.1 bt216.2.1 bt216.2.2.1 bt216.2.2.2.1))))) else (some (x3, x1001, x1002))
def spec_l1Cur_scene.j2 : Nat → List (S36) → Int → Int → Bool → List Int → Int → Int → Int → Int → Int → Bool → Option ((List (S36)) × Int × Int)
 | 0, _, _, _, _, _, _, _, _, _, _, _ => none
 | k + 1, x3, x4, x5, x30, x1000, x1001, x1002, x223000, x223001, x223002, x223003 => if x30 = true then (spec_l1Cur_scene.j3 k x3 x4 x5 x1000 x1001 x1002 1 0 0 false) else (spec_l1Cur_scene.j3 k x3 x4 x5 x1000 x1001 x1002 x223000 x223001 x223002 x223003)
def spec_l1Cur_scene.j3 : Nat → List (S36) → Int → Int → List Int → Int → Int → Int → Int → Int → Bool → Option ((List (S36)) × Int × Int)
 | 0, _, _, _, _, _, _, _, _, _, _ => none
 | k + 1, x3, x4, x5, x1000, x1001, x1002, x223000, x223001, x223002, x223003 => (spec_l1Cur_of.f x1000 x1001 x1002 (([(⟨#[97]⟩ : ByteArray), (⟨#[98]⟩ : ByteArray), (⟨#[99]⟩ : ByteArray), (⟨#[100]⟩ : ByteArray)] : List ByteArray))).bind fun bt230 => ((spec_l1Num.f k x5).bind fun t233 => (if bt230.1.size + t233.size ≤ 9223372036854775807 then ((spec_l1Cur_pick.f x1000 bt230.2.1 bt230.2.2 (wrap64 (x5 + 1))).bind fun bt234 => ((spec_l1Cur_one.f x1000 bt234.2.1 bt234.2.2 80).bind fun bt238 => (if bt238.1 = true then ((spec_l1Cur_of.f x1000 bt238.2.1 bt238.2.2 (([(⟨#[]⟩ : ByteArray), (⟨#[97, 48]⟩ : ByteArray), (⟨#[98, 49]⟩ : ByteArray)] : List ByteArray))).bind fun bt244 => (spec_l1Cur_scene.j4 k x3 x4 x5 x1000 bt244.2.1 bt244.2.2 bt244.1 (wrap64 (bt234.1 - 1)) x223000 x223001 x223002 x223003)) else (spec_l1Cur_scene.j4 k x3 x4 x5 x1000 bt238.2.1 bt238.2.2 (bt230.1 ++ t233) (wrap64 (bt234.1 - 1)) x223000 x223001 x223002 x223003)))) else (none)))
def spec_l1Cur_scene.j4 : Nat → List (S36) → Int → Int → List Int → Int → Int → ByteArray → Int → Int → Int → Int → Bool → Option ((List (S36)) × Int × Int)
 | 0, _, _, _, _, _, _, _, _, _, _, _, _ => none
 | k + 1, x3, x4, x5, x1000, x1001, x1002, x238000, x238001, x238002, x238003, x238004, x238005 => (spec_l1Cur_one.f x1000 x1001 x1002 80).bind fun bt247 => (if bt247.1 = true then ((spec_l1Cur_among.f x1000 bt247.2.1 bt247.2.2 (([(-2), x5] : List Int))).bind fun bt253 => (if x3.length < 2513169434916 then (spec_l1Cur_scene.l0 k (x3 ++ [(⟨x238000, bt253.1, x238002, x238003, x238004, x238005⟩ : S36)]) x4 (wrap64 (x5 + 1)) x1000 bt253.2.1 bt253.2.2) else (none))) else (if x3.length < 2513169434916 then (spec_l1Cur_scene.l0 k (x3 ++ [(⟨x238000, x238001, x238002, x238003, x238004, x238005⟩ : S36)]) x4 (wrap64 (x5 + 1)) x1000 bt247.2.1 bt247.2.2) else (none)))
end
def spec_l1Cur_scene.f (k : Nat) (s0_0 : List Int) (s0_1 : Int) (s0_2 : Int) : Option ((List (S36)) × Int × Int) := (spec_l1Cur_pick.f s0_0 s0_1 s0_2 7).bind fun bt207 => ((spec_l1Cur_one.f s0_0 bt207.2.1 bt207.2.2 16).bind fun bt210 => (if bt210.1 = true then ((spec_l1Cur_pick.f s0_0 bt210.2.1 bt210.2.2 3).bind fun bt213 => (spec_l1Cur_scene.j0 k ([] : List (S36)) (wrap64 (39 + bt213.1)) s0_0 bt213.2.1 bt213.2.2)) else (spec_l1Cur_scene.j0 k ([] : List (S36)) (wrap64 (1 + bt207.1)) s0_0 bt210.2.1 bt210.2.2)))
theorem spec_l1Cur_scene.mono_l : ∀ k, (∀ y0 y1 y2 y3 y4, LeO (spec_l1Cur_scene.j0 k y0 y1 y2 y3 y4) (spec_l1Cur_scene.j0 (k + 1) y0 y1 y2 y3 y4)) ∧ (∀ y0 y1 y2 y3 y4 y5, LeO (spec_l1Cur_scene.l0 k y0 y1 y2 y3 y4 y5) (spec_l1Cur_scene.l0 (k + 1) y0 y1 y2 y3 y4 y5)) ∧ (∀ y0 y1 y2 y3 y4 y5 y6 y7 y8 y9 y10, LeO (spec_l1Cur_scene.j2 k y0 y1 y2 y3 y4 y5 y6 y7 y8 y9 y10) (spec_l1Cur_scene.j2 (k + 1) y0 y1 y2 y3 y4 y5 y6 y7 y8 y9 y10)) ∧ (∀ y0 y1 y2 y3 y4 y5 y6 y7 y8 y9, LeO (spec_l1Cur_scene.j3 k y0 y1 y2 y3 y4 y5 y6 y7 y8 y9) (spec_l1Cur_scene.j3 (k + 1) y0 y1 y2 y3 y4 y5 y6 y7 y8 y9)) ∧ (∀ y0 y1 y2 y3 y4 y5 y6 y7 y8 y9 y10 y11, LeO (spec_l1Cur_scene.j4 k y0 y1 y2 y3 y4 y5 y6 y7 y8 y9 y10 y11) (spec_l1Cur_scene.j4 (k + 1) y0 y1 y2 y3 y4 y5 y6 y7 y8 y9 y10 y11))
 | 0 => ⟨fun _ _ _ _ _ r h => by simp [spec_l1Cur_scene.j0] at h, fun _ _ _ _ _ _ r h => by simp [spec_l1Cur_scene.l0] at h, fun _ _ _ _ _ _ _ _ _ _ _ r h => by simp [spec_l1Cur_scene.j2] at h, fun _ _ _ _ _ _ _ _ _ _ r h => by simp [spec_l1Cur_scene.j3] at h, fun _ _ _ _ _ _ _ _ _ _ _ _ r h => by simp [spec_l1Cur_scene.j4] at h⟩
 | k + 1 => by
  obtain ⟨ih0, ih1, ih2, ih3, ih4⟩ := spec_l1Cur_scene.mono_l k
  refine ⟨?_, ?_, ?_, ?_, ?_⟩
  ·intro y0 y1 y2 y3 y4
   unfold spec_l1Cur_scene.j0
   repeat' first
   | (with_reducible exact ih0 _ _ _ _ _)
   | (with_reducible exact ih1 _ _ _ _ _ _)
   | (with_reducible exact ih2 _ _ _ _ _ _ _ _ _ _ _)
   | (with_reducible exact ih3 _ _ _ _ _ _ _ _ _ _)
   | (with_reducible exact ih4 _ _ _ _ _ _ _ _ _ _ _ _)
   | (with_reducible exact spec_l1Num.mono _ _)
   | (with_reducible first | exact LeO.refl _ | exact LeO.none _ | refine LeO.ite ?_ ?_ | refine LeO.bind ?_ (fun _ => ?_))
   | exact ih0 _ _ _ _ _
   | exact ih1 _ _ _ _ _ _
   | exact ih2 _ _ _ _ _ _ _ _ _ _ _
   | exact ih3 _ _ _ _ _ _ _ _ _ _
   | exact ih4 _ _ _ _ _ _ _ _ _ _ _ _
   | exact spec_l1Num.mono _ _ | exact LeO.none _ | refine LeO.ite ?_ ?_ | refine LeO.bind ?_ (fun _ => ?_)
  ·intro y0 y1 y2 y3 y4 y5
   unfold spec_l1Cur_scene.l0
   repeat' first
   | (with_reducible exact ih0 _ _ _ _ _)
   | (with_reducible exact ih1 _ _ _ _ _ _)
   | (with_reducible exact ih2 _ _ _ _ _ _ _ _ _ _ _)
   | (with_reducible exact ih3 _ _ _ _ _ _ _ _ _ _)
   | (with_reducible exact ih4 _ _ _ _ _ _ _ _ _ _ _ _)
   | (with_reducible exact spec_l1Num.mono _ _)
   | (with_reducible first | exact LeO.refl _ | exact LeO.none _ | refine LeO.ite ?_ ?_ | refine LeO.bind ?_ (fun _ => ?_))
   | exact ih0 _ _ _ _ _
   | exact ih1 _ _ _ _ _ _
   | exact ih2 _ _ _ _ _ _ _ _ _ _ _
   | exact ih3 _ _ _ _ _ _ _ _ _ _
   | exact ih4 _ _ _ _ _ _ _ _ _ _ _ _
   | exact spec_l1Num.mono _ _ | exact LeO.none _ | refine LeO.ite ?_ ?_ | refine LeO.bind ?_ (fun _ => ?_)
  ·intro y0 y1 y2 y3 y4 y5 y6 y7 y8 y9 y10
   unfold spec_l1Cur_scene.j2
   repeat' first
   | (with_reducible exact ih0 _ _ _ _ _)
   | (with_reducible exact ih1 _ _ _ _ _ _)
   | (with_reducible exact ih2 _ _ _ _ _ _ _ _ _ _ _)
   | (with_reducible exact ih3 _ _ _ _ _ _ _ _ _ _)
   | (with_reducible exact ih4 _ _ _ _ _ _ _ _ _ _ _ _)
   | (with_reducible exact spec_l1Num.mono _ _)
   | (with_reducible first | exact LeO.refl _ | exact LeO.none _ | refine LeO.ite ?_ ?_ | refine LeO.bind ?_ (fun _ => ?_))
   | exact ih0 _ _ _ _ _
   | exact ih1 _ _ _ _ _ _
   | exact ih2 _ _ _ _ _ _ _ _ _ _ _
   | exact ih3 _ _ _ _ _ _ _ _ _ _
   | exact ih4 _ _ _ _ _ _ _ _ _ _ _ _
   | exact spec_l1Num.mono _ _ | exact LeO.none _ | refine LeO.ite ?_ ?_ | refine LeO.bind ?_ (fun _ => ?_)
  ·intro y0 y1 y2 y3 y4 y5 y6 y7 y8 y9
   unfold spec_l1Cur_scene.j3
   repeat' first
   | (with_reducible exact ih0 _ _ _ _ _)
   | (with_reducible exact ih1 _ _ _ _ _ _)
   | (with_reducible exact ih2 _ _ _ _ _ _ _ _ _ _ _)
   | (with_reducible exact ih3 _ _ _ _ _ _ _ _ _ _)
   | (with_reducible exact ih4 _ _ _ _ _ _ _ _ _ _ _ _)
   | (with_reducible exact spec_l1Num.mono _ _)
   | (with_reducible first | exact LeO.refl _ | exact LeO.none _ | refine LeO.ite ?_ ?_ | refine LeO.bind ?_ (fun _ => ?_))
   | exact ih0 _ _ _ _ _
   | exact ih1 _ _ _ _ _ _
   | exact ih2 _ _ _ _ _ _ _ _ _ _ _
   | exact ih3 _ _ _ _ _ _ _ _ _ _
   | exact ih4 _ _ _ _ _ _ _ _ _ _ _ _
   | exact spec_l1Num.mono _ _ | exact LeO.none _ | refine LeO.ite ?_ ?_ | refine LeO.bind ?_ (fun _ => ?_)
  ·intro y0 y1 y2 y3 y4 y5 y6 y7 y8 y9 y10 y11
   unfold spec_l1Cur_scene.j4
   repeat' first
   | (with_reducible exact ih0 _ _ _ _ _)
   | (with_reducible exact ih1 _ _ _ _ _ _)
   | (with_reducible exact ih2 _ _ _ _ _ _ _ _ _ _ _)
   | (with_reducible exact ih3 _ _ _ _ _ _ _ _ _ _)
   | (with_reducible exact ih4 _ _ _ _ _ _ _ _ _ _ _ _)
   | (with_reducible exact spec_l1Num.mono _ _)
   | (with_reducible first | exact LeO.refl _ | exact LeO.none _ | refine LeO.ite ?_ ?_ | refine LeO.bind ?_ (fun _ => ?_))
   | exact ih0 _ _ _ _ _
   | exact ih1 _ _ _ _ _ _
   | exact ih2 _ _ _ _ _ _ _ _ _ _ _
   | exact ih3 _ _ _ _ _ _ _ _ _ _
   | exact ih4 _ _ _ _ _ _ _ _ _ _ _ _
   | exact spec_l1Num.mono _ _ | exact LeO.none _ | refine LeO.ite ?_ ?_ | refine LeO.bind ?_ (fun _ => ?_)
theorem spec_l1Cur_scene.mono : ∀ a0 a1 a2 k, LeO (spec_l1Cur_scene.f k a0 a1 a2) (spec_l1Cur_scene.f (k + 1) a0 a1 a2) := by
 intro a0 a1 a2 k
 obtain ⟨ih0, ih1, ih2, ih3, ih4⟩ := spec_l1Cur_scene.mono_l k
 unfold spec_l1Cur_scene.f
 repeat' first
   | (with_reducible exact ih0 _ _ _ _ _)
   | (with_reducible exact ih1 _ _ _ _ _ _)
   | (with_reducible exact ih2 _ _ _ _ _ _ _ _ _ _ _)
   | (with_reducible exact ih3 _ _ _ _ _ _ _ _ _ _)
   | (with_reducible exact ih4 _ _ _ _ _ _ _ _ _ _ _ _)
   | (with_reducible exact spec_l1Num.mono _ _)
   | (with_reducible first | exact LeO.refl _ | exact LeO.none _ | refine LeO.ite ?_ ?_ | refine LeO.bind ?_ (fun _ => ?_))
   | exact ih0 _ _ _ _ _
   | exact ih1 _ _ _ _ _ _
   | exact ih2 _ _ _ _ _ _ _ _ _ _ _
   | exact ih3 _ _ _ _ _ _ _ _ _ _
   | exact ih4 _ _ _ _ _ _ _ _ _ _ _ _
   | exact spec_l1Num.mono _ _ | exact LeO.none _ | refine LeO.ite ?_ ?_ | refine LeO.bind ?_ (fun _ => ?_)
def spec_l1Cur_scene.T11 : Bool × List (List Nat × List Nat) := (true, [([], []), ([], []), ([0, 1], [0, 1]), ([], []), ([3, 2], [3]), ([2, 4], [2, 4]), ([], []), ([], []), ([7], [7]), ([6, 8, 4], [6, 8]), ([9], [9]), ([], []), ([11], [11]), ([], []), ([13], [13]), ([], []), ([15], [15]), ([], []), ([17], [17]), ([5, 10, 12, 14, 16, 18], [5, 10, 12, 14, 16, 18]), ([], []), ([20, 19, 9, 0, 1, 2, 3, 4, 5, 6, 7, 8, 9, 10, 11, 12, 13, 14, 15, 16, 17, 18, 19, 20], [19, 20])])
def spec_l1Cur_scene.B11 : List Nat := [0, 0, 3, 0, 15, 31, 0, 0, 128, 479, 991, 0, 2048, 0, 8192, 0, 32768, 0, 131072, 524287, 0, 2097151]
theorem spec_l1Cur_scene.tab11 : rtab .any (opsOf Try.f33 11) = spec_l1Cur_scene.T11 := by kernel_rfl
theorem spec_l1Cur_scene.bits11 : waitsOk spec_l1Cur_scene.T11.2 spec_l1Cur_scene.B11 = true := by kernel_rfl
set_option maxHeartbeats 8000000 in
set_option maxRecDepth 100000 in
theorem spec_l1Cur_scene.calls (k : Nat) (g : Nat) (s0_0 : List Int) (s0_1 : Int) (s0_2 : Int) (r1 : List (S36)) (r2 : Int) (r3 : Int) (w0 w : World) (hI : IsS41 w0 w g s0_0 s0_1 s0_2) (hB : Below w0.heap.size w0 w) (h : spec_l1Cur_scene.f k s0_0 s0_1 s0_2 = some (r1, r2, r3)) :
  Calls Try.prog 33 #[.pointer (some ⟨g, 0, none⟩)] w fun e w' => ∃ v0_ : Value, e = .returned (v0_) ∧ Kd.R k36 36 w' w.heap.size (fun _ => True) v0_ r1 ∧ IsS41 w0 w' g s0_0 r2 r3 ∧ Below w0.heap.size w0 w' ∧ KeepBut w w' g none := by
 have hu24 := Try.underlying24
 have hu36 := Try.underlying36
 have HI0 := Aside0.mk hI
 have HK := Aside0.mk (KeepBut.refl w g none)
 have HL := Aside0.mk hB.size
 clear hI
 have HW0 := Aside0.mk hB.size
 have HB := Aside0.mk hB
 clear hB
 have H : ((spec_l1Cur_pick.f s0_0 s0_1 s0_2 7).bind fun bt207 => ((spec_l1Cur_one.f s0_0 bt207.2.1 bt207.2.2 16).bind fun bt210 => (if bt210.1 = true then ((spec_l1Cur_pick.f s0_0 bt210.2.1 bt210.2.2 3).bind fun bt213 => (spec_l1Cur_scene.j0 k ([] : List (S36)) (wrap64 (39 + bt213.1)) s0_0 bt213.2.1 bt213.2.2)) else (spec_l1Cur_scene.j0 k ([] : List (S36)) (wrap64 (1 + bt207.1)) s0_0 bt210.2.1 bt210.2.2)))) = some (r1, r2, r3) := h
 clear h
 replace H := Option.bind_eq_some_iff.mp H
 obtain ⟨⟨t207, t208, t209⟩, A20, H⟩ := H
 replace H : ((spec_l1Cur_one.f s0_0 t208 t209 16).bind fun bt210 => (if bt210.1 = true then ((spec_l1Cur_pick.f s0_0 bt210.2.1 bt210.2.2 3).bind fun bt213 => (spec_l1Cur_scene.j0 k ([] : List (S36)) (wrap64 (39 + bt213.1)) s0_0 bt213.2.1 bt213.2.2)) else (spec_l1Cur_scene.j0 k ([] : List (S36)) (wrap64 (1 + t207)) s0_0 bt210.2.1 bt210.2.2))) = some (r1, r2, r3) := H
 have A2 := Aside0.mk A20
 clear A20
 replace H := Option.bind_eq_some_iff.mp H
 obtain ⟨⟨t210, t211, t212⟩, A30, H⟩ := H
 replace H : (if t210 = true then ((spec_l1Cur_pick.f s0_0 t211 t212 3).bind fun bt213 => (spec_l1Cur_scene.j0 k ([] : List (S36)) (wrap64 (39 + bt213.1)) s0_0 bt213.2.1 bt213.2.2)) else (spec_l1Cur_scene.j0 k ([] : List (S36)) (wrap64 (1 + t207)) s0_0 t211 t212)) = some (r1, r2, r3) := H
 have A3 := Aside0.mk A30
 clear A30
 have HC4 := Aside0.mk H
 clear H
 go_enter Try.func33, Try.ntmps33
 go_upto_if 12 with (first | ((with_reducible refine gate_callee (f := 18) rfl ?_); refine goesL_ (some 9) rfl rfl Try.func18 (by kernel_rfl) rfl #[.pointer (some ⟨g, 0, none⟩), .int .i64 7] rfl aE ?_; (with_reducible refine (spec_l1Cur_pick.calls g s0_0 s0_1 s0_2 7 t207 t208 t209 w0 _ ?side1 ?side2 A2.out).mono ?_); (case side1 => repeat (first | (with_reducible first | exact HI0.out | apply IsS41.alloc | apply IsS41.drewN | apply IsS41.drew | apply IsS41.set_1 | apply IsS41.set_2) | exact HI0.out)); (case side2 => repeat (first | (with_reducible first | exact HB.out | apply below_alloc | apply pw_below_drewN | apply below_drew1 | refine below_set ?_ (IsS41.ge HI0.out)) | exact HB.out)); rintro e w5 ⟨rfl, hi, hb, hk⟩; refine ⟨_, rfl, ?_⟩; replace HK := Aside0.mk (KeepBut.trans (by repeat (first | (with_reducible first | exact HK.out | apply KeepBut.set_ | apply keep_drewN | apply keep_drew | apply keep_alloc) | exact HK.out)) hk (.inl rfl)); replace HB := Aside0.mk hb; replace HI0 := Aside0.mk hi; (try clear hb); (try clear hk); (try clear hi)) | ((with_reducible refine gate_callee (f := 30) rfl ?_); refine goesL_ (some 12) rfl rfl Try.func30 (by kernel_rfl) rfl #[.pointer (some ⟨g, 0, none⟩), .int .i64 16] rfl aE ?_; (with_reducible refine (spec_l1Cur_one.calls g s0_0 t208 t209 16 t210 t211 t212 w0 _ ?side1 ?side2 A3.out).mono ?_); (case side1 => repeat (first | (with_reducible first | exact HI0.out | apply IsS41.alloc | apply IsS41.drewN | apply IsS41.drew | apply IsS41.set_1 | apply IsS41.set_2) | exact HI0.out)); (case side2 => repeat (first | (with_reducible first | exact HB.out | apply below_alloc | apply pw_below_drewN | apply below_drew1 | refine below_set ?_ (IsS41.ge HI0.out)) | exact HB.out)); rintro e w6 ⟨rfl, hi, hb, hk⟩; refine ⟨_, rfl, ?_⟩; replace HK := Aside0.mk (KeepBut.trans (by repeat (first | (with_reducible first | exact HK.out | apply KeepBut.set_ | apply keep_drewN | apply keep_drew | apply keep_alloc) | exact HK.out)) hk (.inl rfl)); replace HB := Aside0.mk hb; replace HI0 := Aside0.mk hi; (try clear hb); (try clear hk); (try clear hi)))
 (try simp only [Act.put, List.setIfInBounds_toArray, List.set_cons_zero, List.set_cons_succ])
 go_cut [4] (fun v4 wc => ∃ (kq : Nat) (x4_3 : Int) (x1001_3 : Int) (x1002_3 : Int), v4 = .int .i64 x4_3 ∧ Aside0 (spec_l1Cur_scene.j0 kq ([] : List (S36)) x4_3 s0_0 x1001_3 x1002_3 = some (r1, r2, r3)) ∧ Aside0 (kq ≤ k) ∧ Aside0 (Kd.R k36 36 wc w.heap.size (fun _ => True) (.slice none 0 0) ([] : List (S36))) ∧ Aside0 (IsS41 w0 wc g s0_0 x1001_3 x1002_3) ∧ Aside0 (KeepBut w wc g none) ∧ Aside0 (Below w0.heap.size w0 wc))
 case first =>
  have H := HC4.out
  clear HC4
  by_cases c7 : t210 = true
  ·subst c7
   have H1 : ((spec_l1Cur_pick.f s0_0 t211 t212 3).bind fun bt213 => (spec_l1Cur_scene.j0 k ([] : List (S36)) (wrap64 (39 + bt213.1)) s0_0 bt213.2.1 bt213.2.2)) = some (r1, r2, r3) := by rw [if_pos rfl] at H; exact H
   clear H
   have H := H1
   clear H1
   replace H := Option.bind_eq_some_iff.mp H
   obtain ⟨⟨t213, t214, t215⟩, A80, H⟩ := H
   replace H : (spec_l1Cur_scene.j0 k ([] : List (S36)) (wrap64 (39 + t213)) s0_0 t214 t215) = some (r1, r2, r3) := H
   have A8 := Aside0.mk A80
   clear A80
   have H' := Aside0.mk H
   clear H
   go_wp2_with (first | ((with_reducible refine gate_callee (f := 18) rfl ?_); refine goesL_ (some 14) rfl rfl Try.func18 (by kernel_rfl) rfl #[.pointer (some ⟨g, 0, none⟩), .int .i64 3] rfl aE ?_; (with_reducible refine (spec_l1Cur_pick.calls g s0_0 t211 t212 3 t213 t214 t215 w0 _ ?side1 ?side2 A8.out).mono ?_); (case side1 => repeat (first | (with_reducible first | exact HI0.out | apply IsS41.alloc | apply IsS41.drewN | apply IsS41.drew | apply IsS41.set_1 | apply IsS41.set_2) | exact HI0.out)); (case side2 => repeat (first | (with_reducible first | exact HB.out | apply below_alloc | apply pw_below_drewN | apply below_drew1 | refine below_set ?_ (IsS41.ge HI0.out)) | exact HB.out)); rintro e w9 ⟨rfl, hi, hb, hk⟩; refine ⟨_, rfl, ?_⟩; replace HK := Aside0.mk (KeepBut.trans (by repeat (first | (with_reducible first | exact HK.out | apply KeepBut.set_ | apply keep_drewN | apply keep_drew | apply keep_alloc) | exact HK.out)) hk (.inl rfl)); replace HB := Aside0.mk hb; replace HI0 := Aside0.mk hi; (try clear hb); (try clear hk); (try clear hi)))
   go_meet
   case rel => exact ⟨_, (wrap64 (39 + t213)), (t214), (t215), tE, H', ⟨by first | omega | exact Nat.le_refl _⟩, ⟨by first | exact Kd.R_nil _ _ _ _ _ | exact Kd.N_nil _ _ _ _ _ | exact Kd.V_nil _ _ _ _ _ | exact Kd.Q_nil _ _ _ _ _ | exact Kd.S_nil _ _ _ _ _⟩, ⟨by repeat (first | (with_reducible first | exact HI0.out | apply IsS41.alloc | apply IsS41.drewN | apply IsS41.drew | apply IsS41.set_1 | apply IsS41.set_2) | exact HI0.out)⟩, ⟨by repeat (first | (with_reducible first | exact HK.out | apply KeepBut.set_ | apply keep_drewN | apply keep_drew | apply keep_alloc) | exact HK.out)⟩, ⟨by repeat (first | (with_reducible first | exact HB.out | apply below_alloc | apply pw_below_drewN | apply below_drew1 | refine below_set ?_ (IsS41.ge HI0.out)) | exact HB.out)⟩⟩
  ·replace c7 := Bool.eq_false_iff.mpr c7
   subst c7
   have H1 : (spec_l1Cur_scene.j0 k ([] : List (S36)) (wrap64 (1 + t207)) s0_0 t211 t212) = some (r1, r2, r3) := by rw [if_neg (show ¬ (false = true) by decide)] at H; exact H
   clear H
   have H := H1
   clear H1
   have H' := Aside0.mk H
   clear H
   go_wp2
   go_meet
   case rel => exact ⟨_, (wrap64 (1 + t207)), (t211), (t212), tE, H', ⟨by first | omega | exact Nat.le_refl _⟩, ⟨by first | exact Kd.R_nil _ _ _ _ _ | exact Kd.N_nil _ _ _ _ _ | exact Kd.V_nil _ _ _ _ _ | exact Kd.Q_nil _ _ _ _ _ | exact Kd.S_nil _ _ _ _ _⟩, ⟨by repeat (first | (with_reducible first | exact HI0.out | apply IsS41.alloc | apply IsS41.drewN | apply IsS41.drew | apply IsS41.set_1 | apply IsS41.set_2) | exact HI0.out)⟩, ⟨by repeat (first | (with_reducible first | exact HK.out | apply KeepBut.set_ | apply keep_drewN | apply keep_drew | apply keep_alloc) | exact HK.out)⟩, ⟨by repeat (first | (with_reducible first | exact HB.out | apply below_alloc | apply pw_below_drewN | apply below_drew1 | refine below_set ?_ (IsS41.ge HI0.out)) | exact HB.out)⟩⟩
 case rest =>
  clear HC4
  try clear c1
  try clear p2
  try clear c3
  try clear p6
  try clear c7
  obtain ⟨kq, x4_3, x1001_3, x1002_3, rfl, HA, HJ3, HO_3, HI0, HK, HB⟩ := hcut
  cases kq with
  | zero => exact absurd HA.out (by simp [spec_l1Cur_scene.j0])
  | succ kj3 =>
   have H := HA.out
   clear HA
   simp only [spec_l1Cur_scene.j0] at H
   have H' := Aside0.mk H
   clear H
   go_wp2
   go_loopg [3, 5] kj3 (fun kq v3 v5 w' => ∃ (x3_2 : List (S36)) (x5_2 : Int) (x1001_2 : Int) (x1002_2 : Int), v5 = .int .i64 x5_2 ∧ Aside0 (spec_l1Cur_scene.l0 kq x3_2 x4_3 x5_2 s0_0 x1001_2 x1002_2 = some (r1, r2, r3)) ∧ Aside0 (kq ≤ kj3) ∧ Aside0 (Kd.R k36 36 w' w.heap.size (fun _ => True) v3 x3_2) ∧ Aside0 (IsS41 w0 w' g s0_0 x1001_2 x1002_2) ∧ Aside0 (KeepBut w w' g none) ∧ Aside0 (Below w0.heap.size w0 w'))
   case atStart => exact ⟨(([] : List (S36))), (0), (x1001_3), (x1002_3), tE, H', ⟨Nat.le_refl _⟩, ⟨by (with_reducible repeat (first | apply Kd.R_alloc | apply Kd.R_drewN | apply Kd.R_drew)); exact HO_3.out⟩, ⟨by repeat (first | (with_reducible first | exact HI0.out | apply IsS41.alloc | apply IsS41.drewN | apply IsS41.drew | apply IsS41.set_1 | apply IsS41.set_2) | exact HI0.out)⟩, ⟨by repeat (first | (with_reducible first | exact HK.out | apply KeepBut.set_ | apply keep_drewN | apply keep_drew | apply keep_alloc) | exact HK.out)⟩, ⟨by repeat (first | (with_reducible first | exact HB.out | apply below_alloc | apply pw_below_drewN | apply below_drew1 | refine below_set ?_ (IsS41.ge HI0.out)) | exact HB.out)⟩⟩
   case round =>
    clear H'
    try clear c1
    try clear p2
    try clear c3
    try clear p6
    try clear c7
    try clear p2
    try clear p6
    obtain ⟨x3_2, x5_2, x1001_2, x1002_2, rfl, HA, HK2, HO_3, HI0, HK, HB⟩ := hrel
    cases gk with
    | zero => exact absurd HA.out (by simp [spec_l1Cur_scene.l0])
    | succ k2 =>
     have H := HA.out
     clear HA
     simp only [spec_l1Cur_scene.l0] at H
     by_cases c10 : x5_2 < x4_3
     ·rw [if_pos c10] at H
      have c10b0 : decide (x5_2 < x4_3) = true := decide_eq_true c10
      clear c10
      replace H := Option.bind_eq_some_iff.mp H
      obtain ⟨⟨t216, t217, t218, t219, t220, t221⟩, A110, H⟩ := H
      replace H : ((spec_l4Good.f t216 t217 t218 t219).bind fun t223 => (if t223 = true then (spec_l1Cur_scene.j2 k2 x3_2 x4_3 x5_2 false s0_0 t220 t221 t216 t217 t218 t219) else ((spec_l1Cur_one.f s0_0 t220 t221 4).bind fun bt224 => (spec_l1Cur_scene.j2 k2 x3_2 x4_3 x5_2 (!bt224.1) s0_0 bt224.2.1 bt224.2.2 t216 t217 t218 t219)))) = some (r1, r2, r3) := H
      have A11 := Aside0.mk A110
      clear A110
      have HC12 := Aside0.mk H
      clear H
      go_upto_region 9 with (first | ((with_reducible refine gate_callee (f := 12) rfl ?_); refine goesL_ (some 22) rfl rfl Try.func12 (by kernel_rfl) rfl #[.pointer (some ⟨g, 0, none⟩)] rfl aE ?_; (with_reducible refine (spec_l1Cur_spot.calls g s0_0 x1001_2 x1002_2 t216 t217 t218 t219 t220 t221 w0 _ ?side1 ?side2 A11.out).mono ?_); (case side1 => repeat (first | (with_reducible first | exact HI0.out | apply IsS41.alloc | apply IsS41.drewN | apply IsS41.drew | apply IsS41.set_1 | apply IsS41.set_2) | exact HI0.out)); (case side2 => repeat (first | (with_reducible first | exact HB.out | apply below_alloc | apply pw_below_drewN | apply below_drew1 | refine below_set ?_ (IsS41.ge HI0.out)) | exact HB.out)); rintro e w13 ⟨rfl, hi, hb, hk⟩; refine ⟨_, rfl, ?_⟩; replace HO_3 := Aside0.mk (Kd.R_mono (Kd.R_keep (IsS41.apart (show IsS41 w0 _ g s0_0 x1001_2 x1002_2 from by repeat (first | (with_reducible first | exact HI0.out | apply IsS41.alloc | apply IsS41.drewN | apply IsS41.drew | apply IsS41.set_1 | apply IsS41.set_2) | exact HI0.out)) (rU HO_3.out) (by decide)) hk (fun _ h => h.2)) (fun _ h => h.1)); replace HK := Aside0.mk (KeepBut.trans (by repeat (first | (with_reducible first | exact HK.out | apply KeepBut.set_ | apply keep_drewN | apply keep_drew | apply keep_alloc) | exact HK.out)) hk (.inl rfl)); replace HB := Aside0.mk hb; replace HI0 := Aside0.mk hi; (try clear hb); (try clear hk); (try clear hi)) | ((with_reducible refine gate_dst (N := 6) rfl ?_); refine box_event rfl (N := 6) rfl (cs := #[.int .i64 0, .int .i64 0, .int .i64 0, .bool false]) (t := 24) sE ?_; intro gb222 hg w14 hbox hb; replace HO_3 := Aside0.mk (Kd.R_below (rU HO_3.out) hb); replace HB := Aside0.mk (below_step (by repeat (first | (with_reducible first | exact HB.out | apply below_alloc | apply pw_below_drewN | apply below_drew1 | refine below_set ?_ (IsS41.ge HI0.out)) | exact HB.out)) hb); have BK222 := Aside0.mk hbox; have GW222 := Aside0.mk ((by rw [hg]; exact (keep_size (w := w) (g := g) (row := none) (by repeat (first | (with_reducible first | exact HK.out | apply KeepBut.set_ | apply keep_drewN | apply keep_drew | apply keep_alloc) | exact HK.out))) : w.heap.size ≤ gb222)); have GE222 := Aside0.mk ((Nat.le_trans HW0.out (by rw [hg]; exact (keep_size (w := w) (g := g) (row := none) (by repeat (first | (with_reducible first | exact HK.out | apply KeepBut.set_ | apply keep_drewN | apply keep_drew | apply keep_alloc) | exact HK.out))) : w.heap.size ≤ gb222) : w0.heap.size ≤ gb222)); replace HK := Aside0.mk (KeepBut.trans (by repeat (first | (with_reducible first | exact HK.out | apply KeepBut.set_ | apply keep_drewN | apply keep_drew | apply keep_alloc) | exact HK.out)) (KeepBut.of_below hb g none) (.inl rfl)); have NB0_222 := Aside0.mk ((by rw [hg]; exact Nat.ne_of_lt (IsS41.lt (show IsS41 w0 _ g s0_0 t220 t221 from by repeat (first | (with_reducible first | exact HI0.out | apply IsS41.alloc | apply IsS41.drewN | apply IsS41.drew | apply IsS41.set_1 | apply IsS41.set_2) | exact HI0.out))) : g ≠ gb222)); have NB222_0 := Aside0.mk ((by rw [hg]; exact Nat.ne_of_gt (IsS41.lt (show IsS41 w0 _ g s0_0 t220 t221 from by repeat (first | (with_reducible first | exact HI0.out | apply IsS41.alloc | apply IsS41.drewN | apply IsS41.drew | apply IsS41.set_1 | apply IsS41.set_2) | exact HI0.out))) : gb222 ≠ g)); replace HI0 := Aside0.mk (IsS41.below (by repeat (first | (with_reducible first | exact HI0.out | apply IsS41.alloc | apply IsS41.drewN | apply IsS41.drew | apply IsS41.set_1 | apply IsS41.set_2) | exact HI0.out)) hb); clear hb hbox hg; have hnb15 := NB222_0.out; have hnc15 := NB0_222.out; have hcz16_0 := cz BK222 0 (.int .i64 0); have hcz16_1 := cz BK222 1 (.int .i64 0); have hcz16_2 := cz BK222 2 (.int .i64 0); have hcz16_3 := cz BK222 3 (.bool false); have hfz16_0 := fz BK222 0; have hfz16_1 := fz BK222 1; have hfz16_2 := fz BK222 2; have hfz16_3 := fz BK222 3) | ((with_reducible refine gate_store (t := 24) (p := 6) rfl ?_); refine store_event (t := 24) (p := 6) (v := ?vo_w17) (w1 := ((((w14.setCell ⟨gb222, 0, none⟩ (.int .i64 t216)).setCell ⟨gb222, 1, none⟩ (.int .i64 t217)).setCell ⟨gb222, 2, none⟩ (.int .i64 t218)).setCell ⟨gb222, 3, none⟩ (.bool t219))) ?hg ?ho ?hn ?hr ?_; (case ho => rfl); (case hg => rfl); (case hn => rfl); (case hr => first | (go_simp; done) | (go_simp; rfl) | (have hq0_ := (blk_cell BK222.out 0).trans (show _ = some _ from rfl); have hf0_ := blk_frozen BK222.out 0; have hq1_ := (blk_cell BK222.out 1).trans (show _ = some _ from rfl); have hf1_ := blk_frozen BK222.out 1; have hq2_ := (blk_cell BK222.out 2).trans (show _ = some _ from rfl); have hf2_ := blk_frozen BK222.out 2; have hq3_ := (blk_cell BK222.out 3).trans (show _ = some _ from rfl); have hf3_ := blk_frozen BK222.out 3; first | (go_simp; done) | (go_simp; rfl))); intro w17 hw; replace HO_3 : Aside0 (Kd.R k36 36 w17 w.heap.size (fun _ => True) u3 x3_2) := ⟨(by rw [hw]; exact (by (with_reducible repeat (first | apply Kd.R_alloc | apply Kd.R_drewN | apply Kd.R_drew)); exact Kd.R_mono (Kd.R_far (p := ⟨gb222, 3, none⟩) (Kd.R_far (p := ⟨gb222, 2, none⟩) (Kd.R_far (p := ⟨gb222, 1, none⟩) (Kd.R_far (p := ⟨gb222, 0, none⟩) (Kd.R_types HO_3.out BK222.out (by decide)) (fun _ hk => hk.2) (.int .i64 t216)) (fun _ hk => hk.2) (.int .i64 t217)) (fun _ hk => hk.2) (.int .i64 t218)) (fun _ hk => hk.2) (.bool t219)) (fun _ hk => trivial)))⟩; replace BK222 : Aside0 (w17.heap[gb222]? = some (.cells #[.int .i64 t216, .int .i64 t217, .int .i64 t218, .bool t219] 24 (0, 0))) := ⟨(by rw [hw]; exact (by refine bU ?_; refine blk_put (cs := #[.int .i64 t216, .int .i64 t217, .int .i64 t218, .bool false]) ?_ 3 _ rfl; refine bU ?_; refine blk_put (cs := #[.int .i64 t216, .int .i64 t217, .int .i64 0, .bool false]) ?_ 2 _ rfl; refine bU ?_; refine blk_put (cs := #[.int .i64 t216, .int .i64 0, .int .i64 0, .bool false]) ?_ 1 _ rfl; refine bU ?_; refine blk_put (cs := #[.int .i64 0, .int .i64 0, .int .i64 0, .bool false]) ?_ 0 _ rfl; refine bU ?_; exact BK222.out))⟩; replace HK : Aside0 (KeepBut w w17 g none) := ⟨(by rw [hw]; exact (by repeat (first | (with_reducible first | exact HK.out | apply KeepBut.set_ | apply keep_drewN | apply keep_drew | apply keep_alloc | refine keep_far ?_ GW222.out _) | exact HK.out)))⟩; replace HB : Aside0 (Below w0.heap.size w0 w17) := ⟨(by rw [hw]; exact (by repeat (first | (with_reducible first | exact HB.out | apply below_alloc | apply pw_below_drewN | apply below_drew1 | refine below_set ?_ (IsS41.ge HI0.out) | refine below_set ?_ GE222.out) | exact HB.out)))⟩; replace HI0 : Aside0 (IsS41 w0 w17 g s0_0 t220 t221) := ⟨(by rw [hw]; exact (by repeat (first | (with_reducible first | exact HI0.out | apply IsS41.alloc | apply IsS41.drewN | apply IsS41.drew | apply IsS41.set_1 | apply IsS41.set_2 | refine IsS41.far ?_ NB0_222.out _) | exact HI0.out)))⟩; clear hw))
      (try simp only [Act.put, List.setIfInBounds_toArray, List.set_cons_zero, List.set_cons_succ])
      go_cut [30] (fun v30 wc => ∃ (kq : Nat) (x30_11 : Bool) (x1001_11 : Int) (x1002_11 : Int), v30 = .bool x30_11 ∧ Aside0 (spec_l1Cur_scene.j2 kq x3_2 x4_3 x5_2 x30_11 s0_0 x1001_11 x1002_11 t216 t217 t218 t219 = some (r1, r2, r3)) ∧ Aside0 (kq ≤ k2) ∧ Aside0 (Kd.R k36 36 wc w.heap.size (fun _ => True) u3 x3_2) ∧ Aside0 (wc.heap[gb222]? = some (.cells #[.int .i64 t216, .int .i64 t217, .int .i64 t218, .bool t219] 24 (0, 0))) ∧ Aside0 (IsS41 w0 wc g s0_0 x1001_11 x1002_11) ∧ Aside0 (KeepBut w wc g none) ∧ Aside0 (Below w0.heap.size w0 wc))
      case first =>
       have H := HC12.out
       clear HC12
       replace H := Option.bind_eq_some_iff.mp H
       obtain ⟨t223, A180, H⟩ := H
       replace H : (if t223 = true then (spec_l1Cur_scene.j2 k2 x3_2 x4_3 x5_2 false s0_0 t220 t221 t216 t217 t218 t219) else ((spec_l1Cur_one.f s0_0 t220 t221 4).bind fun bt224 => (spec_l1Cur_scene.j2 k2 x3_2 x4_3 x5_2 (!bt224.1) s0_0 bt224.2.1 bt224.2.2 t216 t217 t218 t219))) = some (r1, r2, r3) := H
       have A18 := Aside0.mk A180
       clear A180
       by_cases c19 : t223 = true
       ·subst c19
        have H1 : (spec_l1Cur_scene.j2 k2 x3_2 x4_3 x5_2 false s0_0 t220 t221 t216 t217 t218 t219) = some (r1, r2, r3) := by rw [if_pos rfl] at H; exact H
        clear H
        have H := H1
        clear H1
        have H' := Aside0.mk H
        clear H
        have hnb20 := NB222_0.out
        have hnc20 := NB0_222.out
        have hcz21_0 := cz BK222 0 (.int .i64 t216)
        have hcz21_1 := cz BK222 1 (.int .i64 t217)
        have hcz21_2 := cz BK222 2 (.int .i64 t218)
        have hcz21_3 := cz BK222 3 (.bool t219)
        have hfz21_0 := fz BK222 0
        have hfz21_1 := fz BK222 1
        have hfz21_2 := fz BK222 2
        have hfz21_3 := fz BK222 3
        go_wp2_with (first | ((with_reducible refine gate_callee (f := 15) rfl ?_); refine goesL_ (some 24) rfl rfl Try.func15 (by kernel_rfl) rfl #[.agg #[.int .i64 t216, .int .i64 t217, .int .i64 t218, .bool t219]] rfl aE ?_; (with_reducible refine (spec_l4Good.calls t216 t217 t218 t219 true _ A18.out).mono ?_); rintro e w22 ⟨rfl, hb⟩; refine ⟨_, rfl, ?_⟩; replace HO_3 := Aside0.mk (Kd.R_below (rU HO_3.out) hb); replace BK222 := bB (bV BK222) hb; replace HK := Aside0.mk (KeepBut.trans (by repeat (first | (with_reducible first | exact HK.out | apply KeepBut.set_ | apply keep_drewN | apply keep_drew | apply keep_alloc | refine keep_far ?_ GW222.out _) | exact HK.out)) (KeepBut.of_below hb g none) (.inl rfl)); replace HB := Aside0.mk (below_step (by repeat (first | (with_reducible first | exact HB.out | apply below_alloc | apply pw_below_drewN | apply below_drew1 | refine below_set ?_ (IsS41.ge HI0.out) | refine below_set ?_ GE222.out) | exact HB.out)) hb); replace HI0 := Aside0.mk (IsS41.below (by repeat (first | (with_reducible first | exact HI0.out | apply IsS41.alloc | apply IsS41.drewN | apply IsS41.drew | apply IsS41.set_1 | apply IsS41.set_2 | refine IsS41.far ?_ NB0_222.out _) | exact HI0.out)) hb); (try clear hb)))
        go_meet
        case rel => exact ⟨_, (false), (t220), (t221), tE, H', ⟨by have := HJ3.out; have := HK2.out; first | omega | exact Nat.le_refl _⟩, ⟨by (with_reducible repeat (first | apply Kd.R_alloc | apply Kd.R_drewN | apply Kd.R_drew)); exact HO_3.out⟩, ⟨by refine bU ?_; exact BK222.out⟩, ⟨by repeat (first | (with_reducible first | exact HI0.out | apply IsS41.alloc | apply IsS41.drewN | apply IsS41.drew | apply IsS41.set_1 | apply IsS41.set_2 | refine IsS41.far ?_ NB0_222.out _) | exact HI0.out)⟩, ⟨by repeat (first | (with_reducible first | exact HK.out | apply KeepBut.set_ | apply keep_drewN | apply keep_drew | apply keep_alloc | refine keep_far ?_ GW222.out _) | exact HK.out)⟩, ⟨by repeat (first | (with_reducible first | exact HB.out | apply below_alloc | apply pw_below_drewN | apply below_drew1 | refine below_set ?_ (IsS41.ge HI0.out) | refine below_set ?_ GE222.out) | exact HB.out)⟩⟩
       ·replace c19 := Bool.eq_false_iff.mpr c19
        subst c19
        have H1 : ((spec_l1Cur_one.f s0_0 t220 t221 4).bind fun bt224 => (spec_l1Cur_scene.j2 k2 x3_2 x4_3 x5_2 (!bt224.1) s0_0 bt224.2.1 bt224.2.2 t216 t217 t218 t219)) = some (r1, r2, r3) := by rw [if_neg (show ¬ (false = true) by decide)] at H; exact H
        clear H
        have H := H1
        clear H1
        replace H := Option.bind_eq_some_iff.mp H
        obtain ⟨⟨t224, t225, t226⟩, A230, H⟩ := H
        replace H : (spec_l1Cur_scene.j2 k2 x3_2 x4_3 x5_2 (!t224) s0_0 t225 t226 t216 t217 t218 t219) = some (r1, r2, r3) := H
        have A23 := Aside0.mk A230
        clear A230
        have H' := Aside0.mk H
        clear H
        have hnb24 := NB222_0.out
        have hnc24 := NB0_222.out
        have hcz25_0 := cz BK222 0 (.int .i64 t216)
        have hcz25_1 := cz BK222 1 (.int .i64 t217)
        have hcz25_2 := cz BK222 2 (.int .i64 t218)
        have hcz25_3 := cz BK222 3 (.bool t219)
        have hfz25_0 := fz BK222 0
        have hfz25_1 := fz BK222 1
        have hfz25_2 := fz BK222 2
        have hfz25_3 := fz BK222 3
        go_wp2_with (first | ((with_reducible refine gate_callee (f := 15) rfl ?_); refine goesL_ (some 24) rfl rfl Try.func15 (by kernel_rfl) rfl #[.agg #[.int .i64 t216, .int .i64 t217, .int .i64 t218, .bool t219]] rfl aE ?_; (with_reducible refine (spec_l4Good.calls t216 t217 t218 t219 false _ A18.out).mono ?_); rintro e w26 ⟨rfl, hb⟩; refine ⟨_, rfl, ?_⟩; replace HO_3 := Aside0.mk (Kd.R_below (rU HO_3.out) hb); replace BK222 := bB (bV BK222) hb; replace HK := Aside0.mk (KeepBut.trans (by repeat (first | (with_reducible first | exact HK.out | apply KeepBut.set_ | apply keep_drewN | apply keep_drew | apply keep_alloc | refine keep_far ?_ GW222.out _) | exact HK.out)) (KeepBut.of_below hb g none) (.inl rfl)); replace HB := Aside0.mk (below_step (by repeat (first | (with_reducible first | exact HB.out | apply below_alloc | apply pw_below_drewN | apply below_drew1 | refine below_set ?_ (IsS41.ge HI0.out) | refine below_set ?_ GE222.out) | exact HB.out)) hb); replace HI0 := Aside0.mk (IsS41.below (by repeat (first | (with_reducible first | exact HI0.out | apply IsS41.alloc | apply IsS41.drewN | apply IsS41.drew | apply IsS41.set_1 | apply IsS41.set_2 | refine IsS41.far ?_ NB0_222.out _) | exact HI0.out)) hb); (try clear hb)) | (go_at_call 30; (with_reducible refine (spec_l1Cur_one.calls g s0_0 t220 t221 4 t224 t225 t226 w0 _ ?side1 ?side2 A23.out).mono ?_); (case side1 => repeat (first | (with_reducible first | exact HI0.out | apply IsS41.alloc | apply IsS41.drewN | apply IsS41.drew | apply IsS41.set_1 | apply IsS41.set_2 | refine IsS41.far ?_ NB0_222.out _) | exact HI0.out)); (case side2 => repeat (first | (with_reducible first | exact HB.out | apply below_alloc | apply pw_below_drewN | apply below_drew1 | refine below_set ?_ (IsS41.ge HI0.out) | refine below_set ?_ GE222.out) | exact HB.out)); rintro e w27 ⟨rfl, hi, hb, hk⟩; replace HO_3 := Aside0.mk (Kd.R_mono (Kd.R_keep (IsS41.apart (show IsS41 w0 _ g s0_0 t220 t221 from by repeat (first | (with_reducible first | exact HI0.out | apply IsS41.alloc | apply IsS41.drewN | apply IsS41.drew | apply IsS41.set_1 | apply IsS41.set_2 | refine IsS41.far ?_ NB0_222.out _) | exact HI0.out)) (rU HO_3.out) (by decide)) hk (fun _ h => h.2)) (fun _ h => h.1)); replace BK222 := Aside0.mk (KeepBut.blk hk (g' := gb222) (o := .cells #[.int .i64 t216, .int .i64 t217, .int .i64 t218, .bool t219] 24 (0, 0)) (bV BK222) NB222_0.out (by simp)); replace HK := Aside0.mk (KeepBut.trans (by repeat (first | (with_reducible first | exact HK.out | apply KeepBut.set_ | apply keep_drewN | apply keep_drew | apply keep_alloc | refine keep_far ?_ GW222.out _) | exact HK.out)) hk (.inl rfl)); replace HB := Aside0.mk hb; replace HI0 := Aside0.mk hi; (try clear hb); (try clear hk); (try clear hi)))
        go_meet
        case rel => exact ⟨_, (!t224), (t225), (t226), tE, H', ⟨by have := HJ3.out; have := HK2.out; first | omega | exact Nat.le_refl _⟩, ⟨by (with_reducible repeat (first | apply Kd.R_alloc | apply Kd.R_drewN | apply Kd.R_drew)); exact HO_3.out⟩, ⟨by refine bU ?_; exact BK222.out⟩, ⟨by repeat (first | (with_reducible first | exact HI0.out | apply IsS41.alloc | apply IsS41.drewN | apply IsS41.drew | apply IsS41.set_1 | apply IsS41.set_2 | refine IsS41.far ?_ NB0_222.out _) | exact HI0.out)⟩, ⟨by repeat (first | (with_reducible first | exact HK.out | apply KeepBut.set_ | apply keep_drewN | apply keep_drew | apply keep_alloc | refine keep_far ?_ GW222.out _) | exact HK.out)⟩, ⟨by repeat (first | (with_reducible first | exact HB.out | apply below_alloc | apply pw_below_drewN | apply below_drew1 | refine below_set ?_ (IsS41.ge HI0.out) | refine below_set ?_ GE222.out) | exact HB.out)⟩⟩
      case rest =>
       clear HC12
       try clear c1
       try clear q1
       try clear hf1
       try clear c2
       try clear p2
       try clear q2
       try clear hf2
       try clear c3
       try clear q3
       try clear hf3
       try clear p6
       try clear c7
       try clear c10
       try clear c10b0
       try clear c12
       try clear c15
       try clear c18
       try clear c19
       try clear c20
       try clear c24
       try clear hcz16_0
       try clear hcz16_1
       try clear hcz16_2
       try clear hcz16_3
       try clear hcz21_0
       try clear hcz21_1
       try clear hcz21_2
       try clear hcz21_3
       try clear hcz25_0
       try clear hcz25_1
       try clear hcz25_2
       try clear hcz25_3
       try clear hfz16_0
       try clear hfz16_1
       try clear hfz16_2
       try clear hfz16_3
       try clear hfz21_0
       try clear hfz21_1
       try clear hfz21_2
       try clear hfz21_3
       try clear hfz25_0
       try clear hfz25_1
       try clear hfz25_2
       try clear hfz25_3
       try clear p2
       try clear p6
       obtain ⟨kq, x30_11, x1001_11, x1002_11, rfl, HA, HJ11, HO_3, BK222, HI0, HK, HB⟩ := hcut
       cases kq with
       | zero => exact absurd HA.out (by simp [spec_l1Cur_scene.j2])
       | succ kj11 =>
        have H := HA.out
        clear HA
        simp only [spec_l1Cur_scene.j2] at H
        have HC28 := Aside0.mk H
        clear H
        go_upto_if 30 with (fail)
        go_cut [] (fun wc => ∃ (kq : Nat) (x223000_27 : Int) (x223001_27 : Int) (x223002_27 : Int) (x223003_27 : Bool), Aside0 (spec_l1Cur_scene.j3 kq x3_2 x4_3 x5_2 s0_0 x1001_11 x1002_11 x223000_27 x223001_27 x223002_27 x223003_27 = some (r1, r2, r3)) ∧ Aside0 (kq ≤ kj11) ∧ Aside0 (Kd.R k36 36 wc w.heap.size (fun _ => True) u3 x3_2) ∧ Aside0 (wc.heap[gb222]? = some (.cells #[.int .i64 x223000_27, .int .i64 x223001_27, .int .i64 x223002_27, .bool x223003_27] 24 (0, 0))) ∧ Aside0 (IsS41 w0 wc g s0_0 x1001_11 x1002_11) ∧ Aside0 (KeepBut w wc g none) ∧ Aside0 (Below w0.heap.size w0 wc))
        case first =>
         have H := HC28.out
         clear HC28
         by_cases c29 : x30_11 = true
         ·subst c29
          have H1 : (spec_l1Cur_scene.j3 kj11 x3_2 x4_3 x5_2 s0_0 x1001_11 x1002_11 1 0 0 false) = some (r1, r2, r3) := by rw [if_pos rfl] at H; exact H
          clear H
          have H := H1
          clear H1
          have H' := Aside0.mk H
          clear H
          have hnb30 := NB222_0.out
          have hnc30 := NB0_222.out
          have hcz31_0 := cz BK222 0 (.int .i64 t216)
          have hcz31_1 := cz BK222 1 (.int .i64 t217)
          have hcz31_2 := cz BK222 2 (.int .i64 t218)
          have hcz31_3 := cz BK222 3 (.bool t219)
          have hfz31_0 := fz BK222 0
          have hfz31_1 := fz BK222 1
          have hfz31_2 := fz BK222 2
          have hfz31_3 := fz BK222 3
          go_wp2_with (first | ((with_reducible refine gate_store (t := 24) (p := 6) rfl ?_); refine store_event (t := 24) (p := 6) (v := ?vo_w32) (w1 := ((((wc.setCell ⟨gb222, 0, none⟩ (.int .i64 1)).setCell ⟨gb222, 1, none⟩ (.int .i64 0)).setCell ⟨gb222, 2, none⟩ (.int .i64 0)).setCell ⟨gb222, 3, none⟩ (.bool false))) ?hg ?ho ?hn ?hr ?_; (case ho => rfl); (case hg => rfl); (case hn => rfl); (case hr => first | (go_simp; done) | (go_simp; rfl) | (have hq0_ := (blk_cell BK222.out 0).trans (show _ = some _ from rfl); have hf0_ := blk_frozen BK222.out 0; have hq1_ := (blk_cell BK222.out 1).trans (show _ = some _ from rfl); have hf1_ := blk_frozen BK222.out 1; have hq2_ := (blk_cell BK222.out 2).trans (show _ = some _ from rfl); have hf2_ := blk_frozen BK222.out 2; have hq3_ := (blk_cell BK222.out 3).trans (show _ = some _ from rfl); have hf3_ := blk_frozen BK222.out 3; first | (go_simp; done) | (go_simp; rfl))); intro w32 hw; replace HO_3 : Aside0 (Kd.R k36 36 w32 w.heap.size (fun _ => True) u3 x3_2) := ⟨(by rw [hw]; exact (by (with_reducible repeat (first | apply Kd.R_alloc | apply Kd.R_drewN | apply Kd.R_drew)); exact Kd.R_mono (Kd.R_far (p := ⟨gb222, 3, none⟩) (Kd.R_far (p := ⟨gb222, 2, none⟩) (Kd.R_far (p := ⟨gb222, 1, none⟩) (Kd.R_far (p := ⟨gb222, 0, none⟩) (Kd.R_types HO_3.out BK222.out (by decide)) (fun _ hk => hk.2) (.int .i64 1)) (fun _ hk => hk.2) (.int .i64 0)) (fun _ hk => hk.2) (.int .i64 0)) (fun _ hk => hk.2) (.bool false)) (fun _ hk => trivial)))⟩; replace BK222 : Aside0 (w32.heap[gb222]? = some (.cells #[.int .i64 1, .int .i64 0, .int .i64 0, .bool false] 24 (0, 0))) := ⟨(by rw [hw]; exact (by refine bU ?_; refine blk_put (cs := #[.int .i64 1, .int .i64 0, .int .i64 0, .bool t219]) ?_ 3 _ rfl; refine bU ?_; refine blk_put (cs := #[.int .i64 1, .int .i64 0, .int .i64 t218, .bool t219]) ?_ 2 _ rfl; refine bU ?_; refine blk_put (cs := #[.int .i64 1, .int .i64 t217, .int .i64 t218, .bool t219]) ?_ 1 _ rfl; refine bU ?_; refine blk_put (cs := #[.int .i64 t216, .int .i64 t217, .int .i64 t218, .bool t219]) ?_ 0 _ rfl; refine bU ?_; exact BK222.out))⟩; replace HK : Aside0 (KeepBut w w32 g none) := ⟨(by rw [hw]; exact (by repeat (first | (with_reducible first | exact HK.out | apply KeepBut.set_ | apply keep_drewN | apply keep_drew | apply keep_alloc | refine keep_far ?_ GW222.out _) | exact HK.out)))⟩; replace HB : Aside0 (Below w0.heap.size w0 w32) := ⟨(by rw [hw]; exact (by repeat (first | (with_reducible first | exact HB.out | apply below_alloc | apply pw_below_drewN | apply below_drew1 | refine below_set ?_ (IsS41.ge HI0.out) | refine below_set ?_ GE222.out) | exact HB.out)))⟩; replace HI0 : Aside0 (IsS41 w0 w32 g s0_0 x1001_11 x1002_11) := ⟨(by rw [hw]; exact (by repeat (first | (with_reducible first | exact HI0.out | apply IsS41.alloc | apply IsS41.drewN | apply IsS41.drew | apply IsS41.set_1 | apply IsS41.set_2 | refine IsS41.far ?_ NB0_222.out _) | exact HI0.out)))⟩; clear hw))
          go_meet
          case rel => exact ⟨_, (1), (0), (0), (false), H', ⟨by have := HJ3.out; have := HK2.out; have := HJ11.out; first | omega | exact Nat.le_refl _⟩, ⟨by (with_reducible repeat (first | apply Kd.R_alloc | apply Kd.R_drewN | apply Kd.R_drew)); exact HO_3.out⟩, ⟨by refine bU ?_; exact BK222.out⟩, ⟨by repeat (first | (with_reducible first | exact HI0.out | apply IsS41.alloc | apply IsS41.drewN | apply IsS41.drew | apply IsS41.set_1 | apply IsS41.set_2 | refine IsS41.far ?_ NB0_222.out _) | exact HI0.out)⟩, ⟨by repeat (first | (with_reducible first | exact HK.out | apply KeepBut.set_ | apply keep_drewN | apply keep_drew | apply keep_alloc | refine keep_far ?_ GW222.out _) | exact HK.out)⟩, ⟨by repeat (first | (with_reducible first | exact HB.out | apply below_alloc | apply pw_below_drewN | apply below_drew1 | refine below_set ?_ (IsS41.ge HI0.out) | refine below_set ?_ GE222.out) | exact HB.out)⟩⟩
         ·replace c29 := Bool.eq_false_iff.mpr c29
          subst c29
          have H1 : (spec_l1Cur_scene.j3 kj11 x3_2 x4_3 x5_2 s0_0 x1001_11 x1002_11 t216 t217 t218 t219) = some (r1, r2, r3) := by rw [if_neg (show ¬ (false = true) by decide)] at H; exact H
          clear H
          have H := H1
          clear H1
          have H' := Aside0.mk H
          clear H
          go_wp2
          go_meet
          case rel => exact ⟨_, (t216), (t217), (t218), (t219), H', ⟨by have := HJ3.out; have := HK2.out; have := HJ11.out; first | omega | exact Nat.le_refl _⟩, ⟨by (with_reducible repeat (first | apply Kd.R_alloc | apply Kd.R_drewN | apply Kd.R_drew)); exact HO_3.out⟩, ⟨by refine bU ?_; exact BK222.out⟩, ⟨by repeat (first | (with_reducible first | exact HI0.out | apply IsS41.alloc | apply IsS41.drewN | apply IsS41.drew | apply IsS41.set_1 | apply IsS41.set_2 | refine IsS41.far ?_ NB0_222.out _) | exact HI0.out)⟩, ⟨by repeat (first | (with_reducible first | exact HK.out | apply KeepBut.set_ | apply keep_drewN | apply keep_drew | apply keep_alloc | refine keep_far ?_ GW222.out _) | exact HK.out)⟩, ⟨by repeat (first | (with_reducible first | exact HB.out | apply below_alloc | apply pw_below_drewN | apply below_drew1 | refine below_set ?_ (IsS41.ge HI0.out) | refine below_set ?_ GE222.out) | exact HB.out)⟩⟩
        case rest =>
         clear HC28
         try clear c1
         try clear q1
         try clear hf1
         try clear c2
         try clear p2
         try clear q2
         try clear hf2
         try clear c3
         try clear q3
         try clear hf3
         try clear p6
         try clear c7
         try clear c10
         try clear c10b0
         try clear c12
         try clear c15
         try clear c18
         try clear c19
         try clear c20
         try clear c24
         try clear c29
         try clear c30
         try clear hcz16_0
         try clear hcz16_1
         try clear hcz16_2
         try clear hcz16_3
         try clear hcz21_0
         try clear hcz21_1
         try clear hcz21_2
         try clear hcz21_3
         try clear hcz25_0
         try clear hcz25_1
         try clear hcz25_2
         try clear hcz25_3
         try clear hcz31_0
         try clear hcz31_1
         try clear hcz31_2
         try clear hcz31_3
         try clear hfz16_0
         try clear hfz16_1
         try clear hfz16_2
         try clear hfz16_3
         try clear hfz21_0
         try clear hfz21_1
         try clear hfz21_2
         try clear hfz21_3
         try clear hfz25_0
         try clear hfz25_1
         try clear hfz25_2
         try clear hfz25_3
         try clear hfz31_0
         try clear hfz31_1
         try clear hfz31_2
         try clear hfz31_3
         try clear p2
         try clear p6
         try clear q1
         try clear q2
         try clear q3
         obtain ⟨kq, x223000_27, x223001_27, x223002_27, x223003_27, HA, HJ27, HO_3, BK222, HI0, HK, HB⟩ := hcut
         cases kq with
         | zero => exact absurd HA.out (by simp [spec_l1Cur_scene.j3])
         | succ kj27 =>
          have H := HA.out
          clear HA
          simp only [spec_l1Cur_scene.j3] at H
          obtain ⟨y227, hy227⟩ : ∃ y_ : List ByteArray, y_ = (([(⟨#[97]⟩ : ByteArray), (⟨#[98]⟩ : ByteArray), (⟨#[99]⟩ : ByteArray), (⟨#[100]⟩ : ByteArray)] : List ByteArray)) := ⟨_, rfl⟩
          replace H : ((spec_l1Cur_of.f s0_0 x1001_11 x1002_11 y227).bind fun bt230 => ((spec_l1Num.f kj27 x5_2).bind fun t233 => (if bt230.1.size + t233.size ≤ 9223372036854775807 then ((spec_l1Cur_pick.f s0_0 bt230.2.1 bt230.2.2 (wrap64 (x5_2 + 1))).bind fun bt234 => ((spec_l1Cur_one.f s0_0 bt234.2.1 bt234.2.2 80).bind fun bt238 => (if bt238.1 = true then ((spec_l1Cur_of.f s0_0 bt238.2.1 bt238.2.2 (([(⟨#[]⟩ : ByteArray), (⟨#[97, 48]⟩ : ByteArray), (⟨#[98, 49]⟩ : ByteArray)] : List ByteArray))).bind fun bt244 => (spec_l1Cur_scene.j4 kj27 x3_2 x4_3 x5_2 s0_0 bt244.2.1 bt244.2.2 bt244.1 (wrap64 (bt234.1 - 1)) x223000_27 x223001_27 x223002_27 x223003_27)) else (spec_l1Cur_scene.j4 kj27 x3_2 x4_3 x5_2 s0_0 bt238.2.1 bt238.2.2 (bt230.1 ++ t233) (wrap64 (bt234.1 - 1)) x223000_27 x223001_27 x223002_27 x223003_27)))) else (none)))) = some (r1, r2, r3) := by first | (rw [hy227]; with_reducible exact H) | (have H2_ := (Option.bind_some _ _).symm.trans H; rw [hy227]; with_reducible exact H2_) | (have H2_ := (Option.bind_some _ _).symm.trans H; with_reducible exact H2_) | with_reducible exact H | (rw [hy227]; exact H) | exact H
          have Ny227 := Aside0.mk hy227
          clear hy227
          replace H := Option.bind_eq_some_iff.mp H
          obtain ⟨⟨t230, t231, t232⟩, A330, H⟩ := H
          replace H : ((spec_l1Num.f kj27 x5_2).bind fun t233 => (if t230.size + t233.size ≤ 9223372036854775807 then ((spec_l1Cur_pick.f s0_0 t231 t232 (wrap64 (x5_2 + 1))).bind fun bt234 => ((spec_l1Cur_one.f s0_0 bt234.2.1 bt234.2.2 80).bind fun bt238 => (if bt238.1 = true then ((spec_l1Cur_of.f s0_0 bt238.2.1 bt238.2.2 (([(⟨#[]⟩ : ByteArray), (⟨#[97, 48]⟩ : ByteArray), (⟨#[98, 49]⟩ : ByteArray)] : List ByteArray))).bind fun bt244 => (spec_l1Cur_scene.j4 kj27 x3_2 x4_3 x5_2 s0_0 bt244.2.1 bt244.2.2 bt244.1 (wrap64 (bt234.1 - 1)) x223000_27 x223001_27 x223002_27 x223003_27)) else (spec_l1Cur_scene.j4 kj27 x3_2 x4_3 x5_2 s0_0 bt238.2.1 bt238.2.2 (t230 ++ t233) (wrap64 (bt234.1 - 1)) x223000_27 x223001_27 x223002_27 x223003_27)))) else (none))) = some (r1, r2, r3) := H
          have A33 := Aside0.mk A330
          clear A330
          replace H := Option.bind_eq_some_iff.mp H
          obtain ⟨t233, A340, H⟩ := H
          replace H : (if t230.size + t233.size ≤ 9223372036854775807 then ((spec_l1Cur_pick.f s0_0 t231 t232 (wrap64 (x5_2 + 1))).bind fun bt234 => ((spec_l1Cur_one.f s0_0 bt234.2.1 bt234.2.2 80).bind fun bt238 => (if bt238.1 = true then ((spec_l1Cur_of.f s0_0 bt238.2.1 bt238.2.2 (([(⟨#[]⟩ : ByteArray), (⟨#[97, 48]⟩ : ByteArray), (⟨#[98, 49]⟩ : ByteArray)] : List ByteArray))).bind fun bt244 => (spec_l1Cur_scene.j4 kj27 x3_2 x4_3 x5_2 s0_0 bt244.2.1 bt244.2.2 bt244.1 (wrap64 (bt234.1 - 1)) x223000_27 x223001_27 x223002_27 x223003_27)) else (spec_l1Cur_scene.j4 kj27 x3_2 x4_3 x5_2 s0_0 bt238.2.1 bt238.2.2 (t230 ++ t233) (wrap64 (bt234.1 - 1)) x223000_27 x223001_27 x223002_27 x223003_27)))) else (none)) = some (r1, r2, r3) := H
          have A34 := Aside0.mk A340
          clear A340
          by_cases c35 : t230.size + t233.size ≤ 9223372036854775807
          ·rw [if_pos c35] at H
           have c35b0 := eq_true c35
           have c35b1 : decide (t230.size + t233.size ≤ 9223372036854775807) = true := decide_eq_true c35
           try have c35b2 : (9223372036854775807 < t230.size + t233.size) = False := eq_false (Nat.not_lt.2 c35)
           replace H := Option.bind_eq_some_iff.mp H
           obtain ⟨⟨t234, t235, t236⟩, A360, H⟩ := H
           replace H : ((spec_l1Cur_one.f s0_0 t235 t236 80).bind fun bt238 => (if bt238.1 = true then ((spec_l1Cur_of.f s0_0 bt238.2.1 bt238.2.2 (([(⟨#[]⟩ : ByteArray), (⟨#[97, 48]⟩ : ByteArray), (⟨#[98, 49]⟩ : ByteArray)] : List ByteArray))).bind fun bt244 => (spec_l1Cur_scene.j4 kj27 x3_2 x4_3 x5_2 s0_0 bt244.2.1 bt244.2.2 bt244.1 (wrap64 (t234 - 1)) x223000_27 x223001_27 x223002_27 x223003_27)) else (spec_l1Cur_scene.j4 kj27 x3_2 x4_3 x5_2 s0_0 bt238.2.1 bt238.2.2 (t230 ++ t233) (wrap64 (t234 - 1)) x223000_27 x223001_27 x223002_27 x223003_27))) = some (r1, r2, r3) := H
           have A36 := Aside0.mk A360
           clear A360
           replace H := Option.bind_eq_some_iff.mp H
           obtain ⟨⟨t238, t239, t240⟩, A370, H⟩ := H
           replace H : (if t238 = true then ((spec_l1Cur_of.f s0_0 t239 t240 (([(⟨#[]⟩ : ByteArray), (⟨#[97, 48]⟩ : ByteArray), (⟨#[98, 49]⟩ : ByteArray)] : List ByteArray))).bind fun bt244 => (spec_l1Cur_scene.j4 kj27 x3_2 x4_3 x5_2 s0_0 bt244.2.1 bt244.2.2 bt244.1 (wrap64 (t234 - 1)) x223000_27 x223001_27 x223002_27 x223003_27)) else (spec_l1Cur_scene.j4 kj27 x3_2 x4_3 x5_2 s0_0 t239 t240 (t230 ++ t233) (wrap64 (t234 - 1)) x223000_27 x223001_27 x223002_27 x223003_27)) = some (r1, r2, r3) := H
           have A37 := Aside0.mk A370
           clear A370
           have HC38 := Aside0.mk H
           clear H
           try go_wp2
           replace HO_3 := Aside0.mk (Kd.R_drew HO_3.out)
           replace BK222 := Aside0.mk (blk_drew BK222.out)
           replace HI0 := Aside0.mk (IsS41.drew HI0.out)
           replace HK := Aside0.mk (keep_drew HK.out)
           replace HB := Aside0.mk (below_drew1 HB.out)
           refine start_ (n := 22) (S := fun w' => w'.cell? ⟨gb222, 0, none⟩ = some (.int .i64 x223000_27) ∧ w'.cell? ⟨gb222, 1, none⟩ = some (.int .i64 x223001_27) ∧ w'.cell? ⟨gb222, 2, none⟩ = some (.int .i64 x223002_27) ∧ w'.cell? ⟨gb222, 3, none⟩ = some (.bool x223003_27)) (ds := []) #[false, false, false, false, false, false, false, false, false, false, false, false, false, false, false, false, false, false, false, false, false, false] (by kernel_rfl) rfl rfl ⟨cz BK222 0 _, cz BK222 1 _, cz BK222 2 _, cz BK222 3 _⟩ (fun hHeld => ?_); refine with_tabW spec_l1Cur_scene.tab11 spec_l1Cur_scene.bits11 (fun HT_ HW_ => ?_)
           generalize wc.drew = w39 at HO_3 BK222 HI0 HK HB hHeld ⊢
           refine pureA 0 32 (bz 22 1) rfl rfl (any_of HT_.out (by kernel_rfl)) ?_
           refine pureA 3 35 (bz 22 9) rfl rfl (any_of HT_.out (by kernel_rfl)) ?_
           refine pureA 6 38 (bz 22 73) rfl rfl (any_of HT_.out (by kernel_rfl)) ?_
           refine pureA 7 39 (bz 22 201) rfl rfl (any_of HT_.out (by kernel_rfl)) ?_
           refine pureA 8 40 (bz 22 457) rfl rfl (any_of HT_.out (by kernel_rfl)) ?_
           refine pureA 11 43 (bz 22 2505) rfl rfl (any_of HT_.out (by kernel_rfl)) ?_
           refine pureA 13 45 (bz 22 10697) rfl rfl (any_of HT_.out (by kernel_rfl)) ?_
           refine pureA 15 47 (bz 22 43465) rfl rfl (any_of HT_.out (by kernel_rfl)) ?_
           refine pureA 17 49 (bz 22 174537) rfl rfl (any_of HT_.out (by kernel_rfl)) ?_
           refine takeA 12 44 (bz 22 178633) rfl rfl (take_ofW HT_.out HW_.out (by kernel_rfl)) hHeld (by rintro w' ⟨s0, s1, s2, s3⟩; go_simp; with_reducible rfl) ?_
           refine takeA 14 46 (bz 22 195017) rfl rfl (take_ofW HT_.out HW_.out (by kernel_rfl)) hHeld (by rintro w' ⟨s0, s1, s2, s3⟩; go_simp; with_reducible rfl) ?_
           refine takeA 16 48 (bz 22 260553) rfl rfl (take_ofW HT_.out HW_.out (by kernel_rfl)) hHeld (by rintro w' ⟨s0, s1, s2, s3⟩; go_simp; with_reducible rfl) ?_
           refine takeA 18 50 (bz 22 522697) rfl rfl (take_ofW HT_.out HW_.out (by kernel_rfl)) hHeld (by rintro w' ⟨s0, s1, s2, s3⟩; go_simp; with_reducible rfl) ?_
           refine join_ (σ := Value × Nat) 1 #[true, true, true, true, true, true, true, true, true, true, true, true, true, true, true, true, true, true, true, true, true, false] (fun s_ => [(33, s_.1), (34, .string t230), (36, .string t233), (41, .int .i64 t234), (7, .pointer (some ⟨s_.2, 0, none⟩)), (37, .string (t230 ++ t233)), (42, .int .i64 (wrap64 (t234 - 1))), (51, .agg #[.string (t230 ++ t233), .int .i64 (wrap64 (t234 - 1)), .int .i64 x223000_27, .int .i64 x223001_27, .int .i64 x223002_27, .bool x223003_27])]) (fun s_ w' => (w'.cell? ⟨gb222, 0, none⟩ = some (.int .i64 x223000_27) ∧ w'.cell? ⟨gb222, 1, none⟩ = some (.int .i64 x223001_27) ∧ w'.cell? ⟨gb222, 2, none⟩ = some (.int .i64 x223002_27) ∧ w'.cell? ⟨gb222, 3, none⟩ = some (.bool x223003_27)) ∧ (Kd.R Kd.string 9 w' w.heap.size (fun _ => True) s_.1 y227) ∧ (Kd.R k36 36 w' w.heap.size (fun k_ => k_ ≠ s_.2) u3 x3_2) ∧ (w'.heap[gb222]? = some (.cells #[.int .i64 x223000_27, .int .i64 x223001_27, .int .i64 x223002_27, .bool x223003_27] 24 (0, 0))) ∧ (w'.heap[s_.2]? = some (.cells #[.string (⟨#[]⟩ : ByteArray), .int .i64 0, .int .i64 0, .int .i64 0, .int .i64 0, .bool false] 36 (0, 0))) ∧ (w.heap.size ≤ s_.2) ∧ (w0.heap.size ≤ s_.2) ∧ (g ≠ s_.2) ∧ (s_.2 ≠ g) ∧ (gb222 ≠ s_.2) ∧ (s_.2 ≠ gb222) ∧ (IsS41 w0 w' g s0_0 t235 t236) ∧ (KeepBut w w' g none) ∧ (Below w0.heap.size w0 w')) ?_ ?_
           rotate_left
           ·intro hJ1_2_4_9_20
            refine join_ (σ := Value) 2 #[true, true, true, true, true, true, true, true, true, true, true, true, true, true, true, true, true, true, true, true, false, false] (fun s_ => [(33, s_), (34, .string t230), (36, .string t233), (41, .int .i64 t234), (37, .string (t230 ++ t233)), (42, .int .i64 (wrap64 (t234 - 1))), (51, .agg #[.string (t230 ++ t233), .int .i64 (wrap64 (t234 - 1)), .int .i64 x223000_27, .int .i64 x223001_27, .int .i64 x223002_27, .bool x223003_27])]) (fun s_ w' => (w'.cell? ⟨gb222, 0, none⟩ = some (.int .i64 x223000_27) ∧ w'.cell? ⟨gb222, 1, none⟩ = some (.int .i64 x223001_27) ∧ w'.cell? ⟨gb222, 2, none⟩ = some (.int .i64 x223002_27) ∧ w'.cell? ⟨gb222, 3, none⟩ = some (.bool x223003_27)) ∧ (Kd.R Kd.string 9 w' w.heap.size (fun _ => True) s_ y227) ∧ (Kd.R k36 36 w' w.heap.size (fun _ => True) u3 x3_2) ∧ (w'.heap[gb222]? = some (.cells #[.int .i64 x223000_27, .int .i64 x223001_27, .int .i64 x223002_27, .bool x223003_27] 24 (0, 0))) ∧ (IsS41 w0 w' g s0_0 t235 t236) ∧ (KeepBut w w' g none) ∧ (Below w0.heap.size w0 w')) ?_ ?_
            rotate_left
            ·intro hJ1_2_4_9
             refine join_ (σ := Value × Nat) 4 #[true, true, true, true, true, true, true, true, true, false, false, true, true, true, true, true, true, true, true, false, true, false] (fun s_ => [(33, s_.1), (34, .string t230), (36, .string t233), (7, .pointer (some ⟨s_.2, 0, none⟩)), (37, .string (t230 ++ t233))]) (fun s_ w' => (w'.cell? ⟨gb222, 0, none⟩ = some (.int .i64 x223000_27) ∧ w'.cell? ⟨gb222, 1, none⟩ = some (.int .i64 x223001_27) ∧ w'.cell? ⟨gb222, 2, none⟩ = some (.int .i64 x223002_27) ∧ w'.cell? ⟨gb222, 3, none⟩ = some (.bool x223003_27)) ∧ (Kd.R Kd.string 9 w' w.heap.size (fun _ => True) s_.1 y227) ∧ (Kd.R k36 36 w' w.heap.size (fun k_ => k_ ≠ s_.2) u3 x3_2) ∧ (w'.heap[gb222]? = some (.cells #[.int .i64 x223000_27, .int .i64 x223001_27, .int .i64 x223002_27, .bool x223003_27] 24 (0, 0))) ∧ (w'.heap[s_.2]? = some (.cells #[.string (⟨#[]⟩ : ByteArray), .int .i64 0, .int .i64 0, .int .i64 0, .int .i64 0, .bool false] 36 (0, 0))) ∧ (w.heap.size ≤ s_.2) ∧ (w0.heap.size ≤ s_.2) ∧ (g ≠ s_.2) ∧ (s_.2 ≠ g) ∧ (gb222 ≠ s_.2) ∧ (s_.2 ≠ gb222) ∧ (IsS41 w0 w' g s0_0 t231 t232) ∧ (KeepBut w w' g none) ∧ (Below w0.heap.size w0 w')) ?_ ?_
             rotate_left
             ·intro hJ1_2_4_20
              refine join_ (σ := Value) 5 #[true, true, true, true, true, true, true, true, true, false, false, true, true, true, true, true, true, true, true, false, false, false] (fun s_ => [(33, s_), (34, .string t230), (36, .string t233), (37, .string (t230 ++ t233))]) (fun s_ w' => (w'.cell? ⟨gb222, 0, none⟩ = some (.int .i64 x223000_27) ∧ w'.cell? ⟨gb222, 1, none⟩ = some (.int .i64 x223001_27) ∧ w'.cell? ⟨gb222, 2, none⟩ = some (.int .i64 x223002_27) ∧ w'.cell? ⟨gb222, 3, none⟩ = some (.bool x223003_27)) ∧ (Kd.R Kd.string 9 w' w.heap.size (fun _ => True) s_ y227) ∧ (Kd.R k36 36 w' w.heap.size (fun _ => True) u3 x3_2) ∧ (w'.heap[gb222]? = some (.cells #[.int .i64 x223000_27, .int .i64 x223001_27, .int .i64 x223002_27, .bool x223003_27] 24 (0, 0))) ∧ (IsS41 w0 w' g s0_0 t231 t232) ∧ (KeepBut w w' g none) ∧ (Below w0.heap.size w0 w')) ?_ ?_
              rotate_left
              ·intro hJ1_2_4
               refine join_ (σ := Value × Nat) 6 #[true, true, true, true, false, false, true, true, true, false, false, true, true, true, true, true, true, true, true, false, true, false] (fun s_ => [(33, s_.1), (34, .string t230), (7, .pointer (some ⟨s_.2, 0, none⟩))]) (fun s_ w' => (w'.cell? ⟨gb222, 0, none⟩ = some (.int .i64 x223000_27) ∧ w'.cell? ⟨gb222, 1, none⟩ = some (.int .i64 x223001_27) ∧ w'.cell? ⟨gb222, 2, none⟩ = some (.int .i64 x223002_27) ∧ w'.cell? ⟨gb222, 3, none⟩ = some (.bool x223003_27)) ∧ (Kd.R Kd.string 9 w' w.heap.size (fun _ => True) s_.1 y227) ∧ (Kd.R k36 36 w' w.heap.size (fun k_ => k_ ≠ s_.2) u3 x3_2) ∧ (w'.heap[gb222]? = some (.cells #[.int .i64 x223000_27, .int .i64 x223001_27, .int .i64 x223002_27, .bool x223003_27] 24 (0, 0))) ∧ (w'.heap[s_.2]? = some (.cells #[.string (⟨#[]⟩ : ByteArray), .int .i64 0, .int .i64 0, .int .i64 0, .int .i64 0, .bool false] 36 (0, 0))) ∧ (w.heap.size ≤ s_.2) ∧ (w0.heap.size ≤ s_.2) ∧ (g ≠ s_.2) ∧ (s_.2 ≠ g) ∧ (gb222 ≠ s_.2) ∧ (s_.2 ≠ gb222) ∧ (IsS41 w0 w' g s0_0 t231 t232) ∧ (KeepBut w w' g none) ∧ (Below w0.heap.size w0 w')) ?_ ?_
               rotate_left
               ·intro hJ1_2_20
                refine join_ (σ := Value) 7 #[true, true, true, true, false, false, true, true, true, false, false, true, true, true, true, true, true, true, true, false, false, false] (fun s_ => [(33, s_), (34, .string t230)]) (fun s_ w' => (w'.cell? ⟨gb222, 0, none⟩ = some (.int .i64 x223000_27) ∧ w'.cell? ⟨gb222, 1, none⟩ = some (.int .i64 x223001_27) ∧ w'.cell? ⟨gb222, 2, none⟩ = some (.int .i64 x223002_27) ∧ w'.cell? ⟨gb222, 3, none⟩ = some (.bool x223003_27)) ∧ (Kd.R Kd.string 9 w' w.heap.size (fun _ => True) s_ y227) ∧ (Kd.R k36 36 w' w.heap.size (fun _ => True) u3 x3_2) ∧ (w'.heap[gb222]? = some (.cells #[.int .i64 x223000_27, .int .i64 x223001_27, .int .i64 x223002_27, .bool x223003_27] 24 (0, 0))) ∧ (IsS41 w0 w' g s0_0 t231 t232) ∧ (KeepBut w w' g none) ∧ (Below w0.heap.size w0 w')) ?_ ?_
                rotate_left
                ·intro hJ1_2
                 refine join_ (σ := Value × Nat) 7 #[true, true, false, true, false, false, true, true, true, false, false, true, true, true, true, true, true, true, true, false, true, false] (fun s_ => [(33, s_.1), (7, .pointer (some ⟨s_.2, 0, none⟩))]) (fun s_ w' => (w'.cell? ⟨gb222, 0, none⟩ = some (.int .i64 x223000_27) ∧ w'.cell? ⟨gb222, 1, none⟩ = some (.int .i64 x223001_27) ∧ w'.cell? ⟨gb222, 2, none⟩ = some (.int .i64 x223002_27) ∧ w'.cell? ⟨gb222, 3, none⟩ = some (.bool x223003_27)) ∧ (Kd.R Kd.string 9 w' w.heap.size (fun _ => True) s_.1 y227) ∧ (Kd.R k36 36 w' w.heap.size (fun k_ => k_ ≠ s_.2) u3 x3_2) ∧ (w'.heap[gb222]? = some (.cells #[.int .i64 x223000_27, .int .i64 x223001_27, .int .i64 x223002_27, .bool x223003_27] 24 (0, 0))) ∧ (w'.heap[s_.2]? = some (.cells #[.string (⟨#[]⟩ : ByteArray), .int .i64 0, .int .i64 0, .int .i64 0, .int .i64 0, .bool false] 36 (0, 0))) ∧ (w.heap.size ≤ s_.2) ∧ (w0.heap.size ≤ s_.2) ∧ (g ≠ s_.2) ∧ (s_.2 ≠ g) ∧ (gb222 ≠ s_.2) ∧ (s_.2 ≠ gb222) ∧ (IsS41 w0 w' g s0_0 x1001_11 x1002_11) ∧ (KeepBut w w' g none) ∧ (Below w0.heap.size w0 w')) ?_ ?_
                 rotate_left
                 ·intro hJ1_20
                  refine join_ (σ := Value) 8 #[true, true, false, true, false, false, true, true, true, false, false, true, true, true, true, true, true, true, true, false, false, false] (fun s_ => [(33, s_)]) (fun s_ w' => (w'.cell? ⟨gb222, 0, none⟩ = some (.int .i64 x223000_27) ∧ w'.cell? ⟨gb222, 1, none⟩ = some (.int .i64 x223001_27) ∧ w'.cell? ⟨gb222, 2, none⟩ = some (.int .i64 x223002_27) ∧ w'.cell? ⟨gb222, 3, none⟩ = some (.bool x223003_27)) ∧ (Kd.R Kd.string 9 w' w.heap.size (fun _ => True) s_ y227) ∧ (Kd.R k36 36 w' w.heap.size (fun _ => True) u3 x3_2) ∧ (w'.heap[gb222]? = some (.cells #[.int .i64 x223000_27, .int .i64 x223001_27, .int .i64 x223002_27, .bool x223003_27] 24 (0, 0))) ∧ (IsS41 w0 w' g s0_0 x1001_11 x1002_11) ∧ (KeepBut w w' g none) ∧ (Below w0.heap.size w0 w')) ?_ ?_
                  rotate_left
                  ·intro hJ1
                   refine join_ (σ := Nat) 8 #[true, false, false, true, false, false, true, true, true, false, false, true, true, true, true, true, true, true, true, false, true, false] (fun s_ => [(7, .pointer (some ⟨s_, 0, none⟩))]) (fun s_ w' => (w'.cell? ⟨gb222, 0, none⟩ = some (.int .i64 x223000_27) ∧ w'.cell? ⟨gb222, 1, none⟩ = some (.int .i64 x223001_27) ∧ w'.cell? ⟨gb222, 2, none⟩ = some (.int .i64 x223002_27) ∧ w'.cell? ⟨gb222, 3, none⟩ = some (.bool x223003_27)) ∧ (Kd.R k36 36 w' w.heap.size (fun k_ => k_ ≠ s_) u3 x3_2) ∧ (w'.heap[gb222]? = some (.cells #[.int .i64 x223000_27, .int .i64 x223001_27, .int .i64 x223002_27, .bool x223003_27] 24 (0, 0))) ∧ (w'.heap[s_]? = some (.cells #[.string (⟨#[]⟩ : ByteArray), .int .i64 0, .int .i64 0, .int .i64 0, .int .i64 0, .bool false] 36 (0, 0))) ∧ (w.heap.size ≤ s_) ∧ (w0.heap.size ≤ s_) ∧ (g ≠ s_) ∧ (s_ ≠ g) ∧ (gb222 ≠ s_) ∧ (s_ ≠ gb222) ∧ (IsS41 w0 w' g s0_0 x1001_11 x1002_11) ∧ (KeepBut w w' g none) ∧ (Below w0.heap.size w0 w')) ?_ ?_
                   rotate_left
                   ·intro hJ20
                    refine two_ (i := 1) (j := 20) (Ni := some 33) (Nj := some 7) #[true, true, false, true, false, false, true, true, true, false, false, true, true, true, true, true, true, true, true, false, false, false] #[true, false, false, true, false, false, true, true, true, false, false, true, true, true, true, true, true, true, true, false, true, false] rfl rfl rfl rfl (two_of HT_.out (by kernel_rfl)) (by decide) (by decide) (fun K hK => ?_) (fun K hK => ?_)
                    ·skip
                     refine Kd.R_lit_step Kd.string _ 9 ?hg (N := 33) ?hd (xs := ([(⟨#[97]⟩ : ByteArray), (⟨#[98]⟩ : ByteArray), (⟨#[99]⟩ : ByteArray), (⟨#[100]⟩ : ByteArray)] : List ByteArray)) (inner := [.string (⟨#[97]⟩ : ByteArray), .string (⟨#[98]⟩ : ByteArray), .string (⟨#[99]⟩ : ByteArray), .string (⟨#[100]⟩ : ByteArray)]) (ok := fun _ => True) (okp := fun _ => True) ?hr ?hp (fun _ hk => hk) trivial (Below.refl _ _) (Nat.le_refl _) (by simp) ?_; (case hd => rfl); (case hg => rfl); (case hr => exact sE); (case hp => exact (Reps.one (show Kd.M Kd.string _ _ _ (⟨#[97]⟩ : ByteArray) [.string (⟨#[97]⟩ : ByteArray)] from rfl) (Reps.one (show Kd.M Kd.string _ _ _ (⟨#[98]⟩ : ByteArray) [.string (⟨#[98]⟩ : ByteArray)] from rfl) (Reps.one (show Kd.M Kd.string _ _ _ (⟨#[99]⟩ : ByteArray) [.string (⟨#[99]⟩ : ByteArray)] from rfl) (Reps.one (show Kd.M Kd.string _ _ _ (⟨#[100]⟩ : ByteArray) [.string (⟨#[100]⟩ : ByteArray)] from rfl) (Reps.none _ _))))))
                     intro v228 w40 ho41 hb hg_ hnew_
                     clear hg_ hnew_
                     (first | rw [← Ny227.out] at ho41 | (simp only [Int.reduceToNat] at ho41; rw [← Ny227.out] at ho41))
                     replace HO_3 := Aside0.mk (Kd.R_below (rU HO_3.out) hb)
                     have HO229 := Aside0.mk (Kd.R_lower ho41 (keep_size (w := w) (g := g) (row := none) (by repeat (first | (with_reducible first | exact HK.out | apply KeepBut.set_ | apply keep_drewN | apply keep_drew | apply keep_alloc | refine keep_far ?_ GW222.out _) | exact HK.out))))
                     replace BK222 := bB (bV BK222) hb
                     replace HK := Aside0.mk (KeepBut.trans (by repeat (first | (with_reducible first | exact HK.out | apply KeepBut.set_ | apply keep_drewN | apply keep_drew | apply keep_alloc | refine keep_far ?_ GW222.out _) | exact HK.out)) (KeepBut.of_below hb g none) (.inl rfl))
                     replace HB := Aside0.mk (below_step (by repeat (first | (with_reducible first | exact HB.out | apply below_alloc | apply pw_below_drewN | apply below_drew1 | refine below_set ?_ (IsS41.ge HI0.out) | refine below_set ?_ GE222.out) | exact HB.out)) hb)
                     replace HI0 := Aside0.mk (IsS41.below (by repeat (first | (with_reducible first | exact HI0.out | apply IsS41.alloc | apply IsS41.drewN | apply IsS41.drew | apply IsS41.set_1 | apply IsS41.set_2 | refine IsS41.far ?_ NB0_222.out _) | exact HI0.out)) hb)
                     clear hb ho41
                     refine hK.out _ _ ⟨cz BK222 0 _, cz BK222 1 _, cz BK222 2 _, cz BK222 3 _⟩ (fun hHeld => ?_)
                     clear hK K
                     refine norm_ (a' := ?_) ?_ ?_
                     rotate_left
                     ·show Act.put _ (some 33) _ = _
                      simp only [Act.put, List.setIfInBounds_toArray, List.set_cons_zero, List.set_cons_succ, i64_w, i32_w]
                      rfl
                     exact norm_ (by first | (simp only [putAll, Act.put, List.setIfInBounds_toArray, List.set_cons_zero, List.set_cons_succ]; done) | (simp only [putAll, Act.put, List.setIfInBounds_toArray, List.set_cons_zero, List.set_cons_succ]; rfl)) (hJ1 (v228) _ ⟨hHeld, (rU HO229.out), (rU HO_3.out), (bV BK222), (by repeat (first | (with_reducible first | exact HI0.out | apply IsS41.alloc | apply IsS41.drewN | apply IsS41.drew | apply IsS41.set_1 | apply IsS41.set_2 | refine IsS41.far ?_ NB0_222.out _) | exact HI0.out)), (by repeat (first | (with_reducible first | exact HK.out | apply KeepBut.set_ | apply keep_drewN | apply keep_drew | apply keep_alloc | refine keep_far ?_ GW222.out _) | exact HK.out)), (by repeat (first | (with_reducible first | exact HB.out | apply below_alloc | apply pw_below_drewN | apply below_drew1 | refine below_set ?_ (IsS41.ge HI0.out) | refine below_set ?_ GE222.out) | exact HB.out))⟩)
                    ·skip
                     refine box_step ?hg (N := 7) ?hd (cs := #[.string (⟨#[]⟩ : ByteArray), .int .i64 0, .int .i64 0, .int .i64 0, .int .i64 0, .bool false]) (t := 36) ?hr ?_; (case hd => rfl); (case hg => rfl); (case hr => exact sE)
                     intro gb237 hg w40 hbox hb
                     replace HO_3 := Aside0.mk (Kd.R_below (Kd.R_elderB (rU HO_3.out) gb237 (Nat.le_of_eq hg.symm)) hb)
                     replace HB := Aside0.mk (below_step (by repeat (first | (with_reducible first | exact HB.out | apply below_alloc | apply pw_below_drewN | apply below_drew1 | refine below_set ?_ (IsS41.ge HI0.out) | refine below_set ?_ GE222.out) | exact HB.out)) hb)
                     have BK237 := Aside0.mk hbox
                     have GW237 := Aside0.mk ((by rw [hg]; exact (keep_size (w := w) (g := g) (row := none) (by repeat (first | (with_reducible first | exact HK.out | apply KeepBut.set_ | apply keep_drewN | apply keep_drew | apply keep_alloc | refine keep_far ?_ GW222.out _) | exact HK.out))) : w.heap.size ≤ gb237))
                     have GE237 := Aside0.mk ((Nat.le_trans HW0.out (by rw [hg]; exact (keep_size (w := w) (g := g) (row := none) (by repeat (first | (with_reducible first | exact HK.out | apply KeepBut.set_ | apply keep_drewN | apply keep_drew | apply keep_alloc | refine keep_far ?_ GW222.out _) | exact HK.out))) : w.heap.size ≤ gb237) : w0.heap.size ≤ gb237))
                     replace HK := Aside0.mk (KeepBut.trans (by repeat (first | (with_reducible first | exact HK.out | apply KeepBut.set_ | apply keep_drewN | apply keep_drew | apply keep_alloc | refine keep_far ?_ GW222.out _) | exact HK.out)) (KeepBut.of_below hb g none) (.inl rfl))
                     have NB222_237 := nL hg (bV BK222)
                     have NB237_222 := nG hg (bV BK222)
                     replace BK222 := bB (bV BK222) hb
                     have NB0_237 := Aside0.mk ((by rw [hg]; exact Nat.ne_of_lt (IsS41.lt (show IsS41 w0 _ g s0_0 x1001_11 x1002_11 from by repeat (first | (with_reducible first | exact HI0.out | apply IsS41.alloc | apply IsS41.drewN | apply IsS41.drew | apply IsS41.set_1 | apply IsS41.set_2 | refine IsS41.far ?_ NB0_222.out _) | exact HI0.out))) : g ≠ gb237))
                     have NB237_0 := Aside0.mk ((by rw [hg]; exact Nat.ne_of_gt (IsS41.lt (show IsS41 w0 _ g s0_0 x1001_11 x1002_11 from by repeat (first | (with_reducible first | exact HI0.out | apply IsS41.alloc | apply IsS41.drewN | apply IsS41.drew | apply IsS41.set_1 | apply IsS41.set_2 | refine IsS41.far ?_ NB0_222.out _) | exact HI0.out))) : gb237 ≠ g))
                     replace HI0 := Aside0.mk (IsS41.below (by repeat (first | (with_reducible first | exact HI0.out | apply IsS41.alloc | apply IsS41.drewN | apply IsS41.drew | apply IsS41.set_1 | apply IsS41.set_2 | refine IsS41.far ?_ NB0_222.out _) | exact HI0.out)) hb)
                     clear hb hbox hg
                     refine hK.out _ _ ⟨cz BK222 0 _, cz BK222 1 _, cz BK222 2 _, cz BK222 3 _⟩ (fun hHeld => ?_)
                     clear hK K
                     refine norm_ (a' := ?_) ?_ ?_
                     rotate_left
                     ·show Act.put _ (some 7) _ = _
                      simp only [Act.put, List.setIfInBounds_toArray, List.set_cons_zero, List.set_cons_succ, i64_w, i32_w]
                      rfl
                     exact norm_ (by first | (simp only [putAll, Act.put, List.setIfInBounds_toArray, List.set_cons_zero, List.set_cons_succ]; done) | (simp only [putAll, Act.put, List.setIfInBounds_toArray, List.set_cons_zero, List.set_cons_succ]; rfl)) (hJ20 (gb237) _ ⟨hHeld, (by (with_reducible repeat (first | apply Kd.R_alloc | apply Kd.R_drewN | apply Kd.R_drew)); exact Kd.R_mono HO_3.out (fun _ hk => hk.2)), (bV BK222), (bV BK237), GW237.out, GE237.out, NB0_237.out, NB237_0.out, NB222_237.out, NB237_222.out, (by repeat (first | (with_reducible first | exact HI0.out | apply IsS41.alloc | apply IsS41.drewN | apply IsS41.drew | apply IsS41.set_1 | apply IsS41.set_2 | refine IsS41.far ?_ NB0_222.out _ | refine IsS41.far ?_ NB0_237.out _) | exact HI0.out)), (by repeat (first | (with_reducible first | exact HK.out | apply KeepBut.set_ | apply keep_drewN | apply keep_drew | apply keep_alloc | refine keep_far ?_ GW222.out _ | refine keep_far ?_ GW237.out _) | exact HK.out)), (by repeat (first | (with_reducible first | exact HB.out | apply below_alloc | apply pw_below_drewN | apply below_drew1 | refine below_set ?_ (IsS41.ge HI0.out) | refine below_set ?_ GE222.out | refine below_set ?_ GE237.out) | exact HB.out))⟩)
                   ·skip
                    rintro gb237 w41 ⟨hS_, h0_, h1_, h2_, h3_, h4_, h5_, h6_, h7_, h8_, h9_, h10_, h11_⟩
                    replace HO_3 : Aside0 (Kd.R k36 36 w41 w.heap.size (fun k_ => k_ ≠ gb237) u3 x3_2) := ⟨h0_⟩
                    replace BK222 : Aside0 (w41.heap[gb222]? = some (.cells #[.int .i64 x223000_27, .int .i64 x223001_27, .int .i64 x223002_27, .bool x223003_27] 24 (0, 0))) := ⟨h1_⟩
                    have BK237 : Aside0 (w41.heap[gb237]? = some (.cells #[.string (⟨#[]⟩ : ByteArray), .int .i64 0, .int .i64 0, .int .i64 0, .int .i64 0, .bool false] 36 (0, 0))) := ⟨h2_⟩
                    have GW237 : Aside0 (w.heap.size ≤ gb237) := ⟨h3_⟩
                    have GE237 : Aside0 (w0.heap.size ≤ gb237) := ⟨h4_⟩
                    have NB0_237 : Aside0 (g ≠ gb237) := ⟨h5_⟩
                    have NB237_0 : Aside0 (gb237 ≠ g) := ⟨h6_⟩
                    have NB222_237 : Aside0 (gb222 ≠ gb237) := ⟨h7_⟩
                    have NB237_222 : Aside0 (gb237 ≠ gb222) := ⟨h8_⟩
                    replace HI0 : Aside0 (IsS41 w0 w41 g s0_0 x1001_11 x1002_11) := ⟨h9_⟩
                    replace HK : Aside0 (KeepBut w w41 g none) := ⟨h10_⟩
                    replace HB : Aside0 (Below w0.heap.size w0 w41) := ⟨h11_⟩
                    clear h0_ h1_ h2_ h3_ h4_ h5_ h6_ h7_ h8_ h9_ h10_ h11_
                    have hHeld : w41.cell? ⟨gb222, 0, none⟩ = some (.int .i64 x223000_27) ∧ w41.cell? ⟨gb222, 1, none⟩ = some (.int .i64 x223001_27) ∧ w41.cell? ⟨gb222, 2, none⟩ = some (.int .i64 x223002_27) ∧ w41.cell? ⟨gb222, 3, none⟩ = some (.bool x223003_27) := hS_
                    refine norm_ (a' := ?_) ?_ ?_
                    rotate_left
                    ·simp only [putAll, Act.put, List.setIfInBounds_toArray, List.set_cons_zero, List.set_cons_succ]
                     rfl
                    refine one_ (i := 1) (N := some 33) (bz 22 1571275) rfl rfl (one_of HT_.out (by kernel_rfl)) (by decide) (fun K hK => ?_)
                    refine Kd.R_lit_step Kd.string _ 9 ?hg (N := 33) ?hd (xs := ([(⟨#[97]⟩ : ByteArray), (⟨#[98]⟩ : ByteArray), (⟨#[99]⟩ : ByteArray), (⟨#[100]⟩ : ByteArray)] : List ByteArray)) (inner := [.string (⟨#[97]⟩ : ByteArray), .string (⟨#[98]⟩ : ByteArray), .string (⟨#[99]⟩ : ByteArray), .string (⟨#[100]⟩ : ByteArray)]) (ok := fun _ => True) (okp := fun _ => True) ?hr ?hp (fun _ hk => hk) trivial (Below.refl _ _) (Nat.le_refl _) (by simp) ?_; (case hd => rfl); (case hg => rfl); (case hr => exact sE); (case hp => exact (Reps.one (show Kd.M Kd.string _ _ _ (⟨#[97]⟩ : ByteArray) [.string (⟨#[97]⟩ : ByteArray)] from rfl) (Reps.one (show Kd.M Kd.string _ _ _ (⟨#[98]⟩ : ByteArray) [.string (⟨#[98]⟩ : ByteArray)] from rfl) (Reps.one (show Kd.M Kd.string _ _ _ (⟨#[99]⟩ : ByteArray) [.string (⟨#[99]⟩ : ByteArray)] from rfl) (Reps.one (show Kd.M Kd.string _ _ _ (⟨#[100]⟩ : ByteArray) [.string (⟨#[100]⟩ : ByteArray)] from rfl) (Reps.none _ _))))))
                    intro v228 w42 ho43 hb hg_ hnew_
                    clear hg_ hnew_
                    (first | rw [← Ny227.out] at ho43 | (simp only [Int.reduceToNat] at ho43; rw [← Ny227.out] at ho43))
                    replace HO_3 := Aside0.mk (Kd.R_below (rU HO_3.out) hb)
                    have HO229 := Aside0.mk (Kd.R_lower ho43 (keep_size (w := w) (g := g) (row := none) (by repeat (first | (with_reducible first | exact HK.out | apply KeepBut.set_ | apply keep_drewN | apply keep_drew | apply keep_alloc | refine keep_far ?_ GW222.out _ | refine keep_far ?_ GW237.out _) | exact HK.out))))
                    replace BK222 := bB (bV BK222) hb
                    replace BK237 := bB (bV BK237) hb
                    replace HK := Aside0.mk (KeepBut.trans (by repeat (first | (with_reducible first | exact HK.out | apply KeepBut.set_ | apply keep_drewN | apply keep_drew | apply keep_alloc | refine keep_far ?_ GW222.out _ | refine keep_far ?_ GW237.out _) | exact HK.out)) (KeepBut.of_below hb g none) (.inl rfl))
                    replace HB := Aside0.mk (below_step (by repeat (first | (with_reducible first | exact HB.out | apply below_alloc | apply pw_below_drewN | apply below_drew1 | refine below_set ?_ (IsS41.ge HI0.out) | refine below_set ?_ GE222.out | refine below_set ?_ GE237.out) | exact HB.out)) hb)
                    replace HI0 := Aside0.mk (IsS41.below (by repeat (first | (with_reducible first | exact HI0.out | apply IsS41.alloc | apply IsS41.drewN | apply IsS41.drew | apply IsS41.set_1 | apply IsS41.set_2 | refine IsS41.far ?_ NB0_222.out _ | refine IsS41.far ?_ NB0_237.out _) | exact HI0.out)) hb)
                    clear hb ho43
                    refine hK.out _ _ ⟨cz BK222 0 _, cz BK222 1 _, cz BK222 2 _, cz BK222 3 _⟩ (fun hHeld => ?_)
                    clear hK K
                    refine norm_ (a' := ?_) ?_ ?_
                    rotate_left
                    ·show Act.put _ (some 33) _ = _
                     simp only [Act.put, List.setIfInBounds_toArray, List.set_cons_zero, List.set_cons_succ, i64_w, i32_w]
                     rfl
                    exact norm_ (by first | (simp only [putAll, Act.put, List.setIfInBounds_toArray, List.set_cons_zero, List.set_cons_succ]; done) | (simp only [putAll, Act.put, List.setIfInBounds_toArray, List.set_cons_zero, List.set_cons_succ]; rfl)) (hJ1_20 (v228, gb237) _ ⟨hHeld, (rU HO229.out), (rU HO_3.out), (bV BK222), (bV BK237), GW237.out, GE237.out, NB0_237.out, NB237_0.out, NB222_237.out, NB237_222.out, (by repeat (first | (with_reducible first | exact HI0.out | apply IsS41.alloc | apply IsS41.drewN | apply IsS41.drew | apply IsS41.set_1 | apply IsS41.set_2 | refine IsS41.far ?_ NB0_222.out _ | refine IsS41.far ?_ NB0_237.out _) | exact HI0.out)), (by repeat (first | (with_reducible first | exact HK.out | apply KeepBut.set_ | apply keep_drewN | apply keep_drew | apply keep_alloc | refine keep_far ?_ GW222.out _ | refine keep_far ?_ GW237.out _) | exact HK.out)), (by repeat (first | (with_reducible first | exact HB.out | apply below_alloc | apply pw_below_drewN | apply below_drew1 | refine below_set ?_ (IsS41.ge HI0.out) | refine below_set ?_ GE222.out | refine below_set ?_ GE237.out) | exact HB.out))⟩)
                  ·skip
                   rintro v228 w42 ⟨hS_, h0_, h1_, h2_, h3_, h4_, h5_⟩
                   have HO229 : Aside0 (Kd.R Kd.string 9 w42 w.heap.size (fun _ => True) v228 y227) := ⟨h0_⟩
                   replace HO_3 : Aside0 (Kd.R k36 36 w42 w.heap.size (fun _ => True) u3 x3_2) := ⟨h1_⟩
                   replace BK222 : Aside0 (w42.heap[gb222]? = some (.cells #[.int .i64 x223000_27, .int .i64 x223001_27, .int .i64 x223002_27, .bool x223003_27] 24 (0, 0))) := ⟨h2_⟩
                   replace HI0 : Aside0 (IsS41 w0 w42 g s0_0 x1001_11 x1002_11) := ⟨h3_⟩
                   replace HK : Aside0 (KeepBut w w42 g none) := ⟨h4_⟩
                   replace HB : Aside0 (Below w0.heap.size w0 w42) := ⟨h5_⟩
                   clear h0_ h1_ h2_ h3_ h4_ h5_
                   have hHeld : w42.cell? ⟨gb222, 0, none⟩ = some (.int .i64 x223000_27) ∧ w42.cell? ⟨gb222, 1, none⟩ = some (.int .i64 x223001_27) ∧ w42.cell? ⟨gb222, 2, none⟩ = some (.int .i64 x223002_27) ∧ w42.cell? ⟨gb222, 3, none⟩ = some (.bool x223003_27) := hS_
                   obtain ⟨Ao43, co43, eo43⟩ := Kd.R_slice HO229.out
                   (first | subst eo43 | (injection eo43 with f1_ f2_ f3_; have f4_ := f1_.symm; have f5_ := f3_.symm; clear f1_ f2_ f3_; subst f4_; subst f5_))
                   refine norm_ (a' := ?_) ?_ ?_
                   rotate_left
                   ·simp only [putAll, Act.put, List.setIfInBounds_toArray, List.set_cons_zero, List.set_cons_succ]
                    rfl
                   refine two_ (i := 2) (j := 20) (Ni := some 34) (Nj := some 7) #[true, true, true, true, false, false, true, true, true, false, false, true, true, true, true, true, true, true, true, false, false, false] #[true, true, false, true, false, false, true, true, true, false, false, true, true, true, true, true, true, true, true, false, true, false] rfl rfl rfl rfl (two_of HT_.out (by kernel_rfl)) (by decide) (by decide) (fun K hK => ?_) (fun K hK => ?_)
                   ·skip
                    refine goes_ Try.func41 (by kernel_rfl) rfl #[.pointer (some ⟨g, 0, none⟩), .slice Ao43 y227.length co43] (by rfl) rfl rfl aE ?_
                    with_reducible refine (spec_l1Cur_of.calls g s0_0 x1001_11 x1002_11 _ _ y227 t230 t231 t232 w0 _ ?side1 ?side2 ?side3 ?side4 ?side5 A33.out).mono ?_
                    (case side1 => repeat (first | (with_reducible first | exact HI0.out | apply IsS41.alloc | apply IsS41.drewN | apply IsS41.drew | apply IsS41.set_1 | apply IsS41.set_2 | refine IsS41.far ?_ NB0_222.out _) | exact HI0.out))
                    (case side2 => repeat (first | (with_reducible first | exact HB.out | apply below_alloc | apply pw_below_drewN | apply below_drew1 | refine below_set ?_ (IsS41.ge HI0.out) | refine below_set ?_ GE222.out) | exact HB.out))
                    (case side3 => exact cU (Kd.R_reads' HO229.out).2.2)
                    (case side4 => exact (Kd.R_reads' HO229.out).2.1)
                    (case side5 => exact far_slice (IsS41.own_ne HI0.out HO229.out (by decide)))
                    rintro e w44 ⟨rfl, hi, hb, hk⟩
                    refine ⟨_, rfl, ?_⟩
                    replace HO_3 := Aside0.mk (Kd.R_mono (Kd.R_keep (IsS41.apart (show IsS41 w0 _ g s0_0 x1001_11 x1002_11 from by repeat (first | (with_reducible first | exact HI0.out | apply IsS41.alloc | apply IsS41.drewN | apply IsS41.drew | apply IsS41.set_1 | apply IsS41.set_2 | refine IsS41.far ?_ NB0_222.out _) | exact HI0.out)) (rU HO_3.out) (by decide)) hk (fun _ h => h.2)) (fun _ h => h.1))
                    replace BK222 := Aside0.mk (KeepBut.blk hk (g' := gb222) (o := .cells #[.int .i64 x223000_27, .int .i64 x223001_27, .int .i64 x223002_27, .bool x223003_27] 24 (0, 0)) (bV BK222) NB222_0.out (by simp))
                    replace HO229 := Aside0.mk (Kd.R_mono (Kd.R_keep (IsS41.apart (show IsS41 w0 _ g s0_0 x1001_11 x1002_11 from by repeat (first | (with_reducible first | exact HI0.out | apply IsS41.alloc | apply IsS41.drewN | apply IsS41.drew | apply IsS41.set_1 | apply IsS41.set_2 | refine IsS41.far ?_ NB0_222.out _) | exact HI0.out)) (rU HO229.out) (by decide)) hk (fun _ h => h.2)) (fun _ h => h.1))
                    replace HK := Aside0.mk (KeepBut.trans (by repeat (first | (with_reducible first | exact HK.out | apply KeepBut.set_ | apply keep_drewN | apply keep_drew | apply keep_alloc | refine keep_far ?_ GW222.out _) | exact HK.out)) hk (.inl rfl))
                    replace HB := Aside0.mk hb
                    replace HI0 := Aside0.mk hi
                    (try clear hb)
                    (try clear hb2)
                    (try clear hk)
                    (try clear hi)
                    refine hK.out _ _ ⟨cz BK222 0 _, cz BK222 1 _, cz BK222 2 _, cz BK222 3 _⟩ (fun hHeld => ?_)
                    clear hK K
                    refine norm_ (a' := ?_) ?_ ?_
                    rotate_left
                    ·show Act.put _ (some 34) _ = _
                     simp only [Act.put, List.setIfInBounds_toArray, List.set_cons_zero, List.set_cons_succ, i64_w, i32_w]
                     rfl
                    exact norm_ (by first | (simp only [putAll, Act.put, List.setIfInBounds_toArray, List.set_cons_zero, List.set_cons_succ]; done) | (simp only [putAll, Act.put, List.setIfInBounds_toArray, List.set_cons_zero, List.set_cons_succ]; rfl)) (hJ1_2 (.slice Ao43 y227.length co43) _ ⟨hHeld, (rU HO229.out), (rU HO_3.out), (bV BK222), (by repeat (first | (with_reducible first | exact HI0.out | apply IsS41.alloc | apply IsS41.drewN | apply IsS41.drew | apply IsS41.set_1 | apply IsS41.set_2 | refine IsS41.far ?_ NB0_222.out _) | exact HI0.out)), (by repeat (first | (with_reducible first | exact HK.out | apply KeepBut.set_ | apply keep_drewN | apply keep_drew | apply keep_alloc | refine keep_far ?_ GW222.out _) | exact HK.out)), (by repeat (first | (with_reducible first | exact HB.out | apply below_alloc | apply pw_below_drewN | apply below_drew1 | refine below_set ?_ (IsS41.ge HI0.out) | refine below_set ?_ GE222.out) | exact HB.out))⟩)
                   ·skip
                    refine box_step ?hg (N := 7) ?hd (cs := #[.string (⟨#[]⟩ : ByteArray), .int .i64 0, .int .i64 0, .int .i64 0, .int .i64 0, .bool false]) (t := 36) ?hr ?_; (case hd => rfl); (case hg => rfl); (case hr => exact sE)
                    intro gb237 hg w43 hbox hb
                    replace HO_3 := Aside0.mk (Kd.R_below (Kd.R_elderB (rU HO_3.out) gb237 (Nat.le_of_eq hg.symm)) hb)
                    replace HO229 := Aside0.mk (Kd.R_below (rU HO229.out) hb)
                    replace HB := Aside0.mk (below_step (by repeat (first | (with_reducible first | exact HB.out | apply below_alloc | apply pw_below_drewN | apply below_drew1 | refine below_set ?_ (IsS41.ge HI0.out) | refine below_set ?_ GE222.out) | exact HB.out)) hb)
                    have BK237 := Aside0.mk hbox
                    have GW237 := Aside0.mk ((by rw [hg]; exact (keep_size (w := w) (g := g) (row := none) (by repeat (first | (with_reducible first | exact HK.out | apply KeepBut.set_ | apply keep_drewN | apply keep_drew | apply keep_alloc | refine keep_far ?_ GW222.out _) | exact HK.out))) : w.heap.size ≤ gb237))
                    have GE237 := Aside0.mk ((Nat.le_trans HW0.out (by rw [hg]; exact (keep_size (w := w) (g := g) (row := none) (by repeat (first | (with_reducible first | exact HK.out | apply KeepBut.set_ | apply keep_drewN | apply keep_drew | apply keep_alloc | refine keep_far ?_ GW222.out _) | exact HK.out))) : w.heap.size ≤ gb237) : w0.heap.size ≤ gb237))
                    replace HK := Aside0.mk (KeepBut.trans (by repeat (first | (with_reducible first | exact HK.out | apply KeepBut.set_ | apply keep_drewN | apply keep_drew | apply keep_alloc | refine keep_far ?_ GW222.out _) | exact HK.out)) (KeepBut.of_below hb g none) (.inl rfl))
                    have NB222_237 := nL hg (bV BK222)
                    have NB237_222 := nG hg (bV BK222)
                    replace BK222 := bB (bV BK222) hb
                    have NB0_237 := Aside0.mk ((by rw [hg]; exact Nat.ne_of_lt (IsS41.lt (show IsS41 w0 _ g s0_0 x1001_11 x1002_11 from by repeat (first | (with_reducible first | exact HI0.out | apply IsS41.alloc | apply IsS41.drewN | apply IsS41.drew | apply IsS41.set_1 | apply IsS41.set_2 | refine IsS41.far ?_ NB0_222.out _) | exact HI0.out))) : g ≠ gb237))
                    have NB237_0 := Aside0.mk ((by rw [hg]; exact Nat.ne_of_gt (IsS41.lt (show IsS41 w0 _ g s0_0 x1001_11 x1002_11 from by repeat (first | (with_reducible first | exact HI0.out | apply IsS41.alloc | apply IsS41.drewN | apply IsS41.drew | apply IsS41.set_1 | apply IsS41.set_2 | refine IsS41.far ?_ NB0_222.out _) | exact HI0.out))) : gb237 ≠ g))
                    replace HI0 := Aside0.mk (IsS41.below (by repeat (first | (with_reducible first | exact HI0.out | apply IsS41.alloc | apply IsS41.drewN | apply IsS41.drew | apply IsS41.set_1 | apply IsS41.set_2 | refine IsS41.far ?_ NB0_222.out _) | exact HI0.out)) hb)
                    clear hb hbox hg
                    refine hK.out _ _ ⟨cz BK222 0 _, cz BK222 1 _, cz BK222 2 _, cz BK222 3 _⟩ (fun hHeld => ?_)
                    clear hK K
                    refine norm_ (a' := ?_) ?_ ?_
                    rotate_left
                    ·show Act.put _ (some 7) _ = _
                     simp only [Act.put, List.setIfInBounds_toArray, List.set_cons_zero, List.set_cons_succ, i64_w, i32_w]
                     rfl
                    exact norm_ (by first | (simp only [putAll, Act.put, List.setIfInBounds_toArray, List.set_cons_zero, List.set_cons_succ]; done) | (simp only [putAll, Act.put, List.setIfInBounds_toArray, List.set_cons_zero, List.set_cons_succ]; rfl)) (hJ1_20 ((.slice Ao43 y227.length co43), gb237) _ ⟨hHeld, (rU HO229.out), (by (with_reducible repeat (first | apply Kd.R_alloc | apply Kd.R_drewN | apply Kd.R_drew)); exact Kd.R_mono HO_3.out (fun _ hk => hk.2)), (bV BK222), (bV BK237), GW237.out, GE237.out, NB0_237.out, NB237_0.out, NB222_237.out, NB237_222.out, (by repeat (first | (with_reducible first | exact HI0.out | apply IsS41.alloc | apply IsS41.drewN | apply IsS41.drew | apply IsS41.set_1 | apply IsS41.set_2 | refine IsS41.far ?_ NB0_222.out _ | refine IsS41.far ?_ NB0_237.out _) | exact HI0.out)), (by repeat (first | (with_reducible first | exact HK.out | apply KeepBut.set_ | apply keep_drewN | apply keep_drew | apply keep_alloc | refine keep_far ?_ GW222.out _ | refine keep_far ?_ GW237.out _) | exact HK.out)), (by repeat (first | (with_reducible first | exact HB.out | apply below_alloc | apply pw_below_drewN | apply below_drew1 | refine below_set ?_ (IsS41.ge HI0.out) | refine below_set ?_ GE222.out | refine below_set ?_ GE237.out) | exact HB.out))⟩)
                 ·skip
                  rintro ⟨v228, gb237⟩ w43 ⟨hS_, h0_, h1_, h2_, h3_, h4_, h5_, h6_, h7_, h8_, h9_, h10_, h11_, h12_⟩
                  have HO229 : Aside0 (Kd.R Kd.string 9 w43 w.heap.size (fun _ => True) v228 y227) := ⟨h0_⟩
                  replace HO_3 : Aside0 (Kd.R k36 36 w43 w.heap.size (fun k_ => k_ ≠ gb237) u3 x3_2) := ⟨h1_⟩
                  replace BK222 : Aside0 (w43.heap[gb222]? = some (.cells #[.int .i64 x223000_27, .int .i64 x223001_27, .int .i64 x223002_27, .bool x223003_27] 24 (0, 0))) := ⟨h2_⟩
                  have BK237 : Aside0 (w43.heap[gb237]? = some (.cells #[.string (⟨#[]⟩ : ByteArray), .int .i64 0, .int .i64 0, .int .i64 0, .int .i64 0, .bool false] 36 (0, 0))) := ⟨h3_⟩
                  have GW237 : Aside0 (w.heap.size ≤ gb237) := ⟨h4_⟩
                  have GE237 : Aside0 (w0.heap.size ≤ gb237) := ⟨h5_⟩
                  have NB0_237 : Aside0 (g ≠ gb237) := ⟨h6_⟩
                  have NB237_0 : Aside0 (gb237 ≠ g) := ⟨h7_⟩
                  have NB222_237 : Aside0 (gb222 ≠ gb237) := ⟨h8_⟩
                  have NB237_222 : Aside0 (gb237 ≠ gb222) := ⟨h9_⟩
                  replace HI0 : Aside0 (IsS41 w0 w43 g s0_0 x1001_11 x1002_11) := ⟨h10_⟩
                  replace HK : Aside0 (KeepBut w w43 g none) := ⟨h11_⟩
                  replace HB : Aside0 (Below w0.heap.size w0 w43) := ⟨h12_⟩
                  clear h0_ h1_ h2_ h3_ h4_ h5_ h6_ h7_ h8_ h9_ h10_ h11_ h12_
                  have hHeld : w43.cell? ⟨gb222, 0, none⟩ = some (.int .i64 x223000_27) ∧ w43.cell? ⟨gb222, 1, none⟩ = some (.int .i64 x223001_27) ∧ w43.cell? ⟨gb222, 2, none⟩ = some (.int .i64 x223002_27) ∧ w43.cell? ⟨gb222, 3, none⟩ = some (.bool x223003_27) := hS_
                  obtain ⟨Ao44, co44, eo44⟩ := Kd.R_slice HO229.out
                  (first | subst eo44 | (injection eo44 with f1_ f2_ f3_; have f4_ := f1_.symm; have f5_ := f3_.symm; clear f1_ f2_ f3_; subst f4_; subst f5_))
                  refine norm_ (a' := ?_) ?_ ?_
                  rotate_left
                  ·simp only [putAll, Act.put, List.setIfInBounds_toArray, List.set_cons_zero, List.set_cons_succ]
                   rfl
                  refine one_ (i := 2) (N := some 34) (bz 22 1571279) rfl rfl (one_of HT_.out (by kernel_rfl)) (by decide) (fun K hK => ?_)
                  refine goes_ Try.func41 (by kernel_rfl) rfl #[.pointer (some ⟨g, 0, none⟩), .slice Ao44 y227.length co44] (by rfl) rfl rfl aE ?_
                  with_reducible refine (spec_l1Cur_of.calls g s0_0 x1001_11 x1002_11 _ _ y227 t230 t231 t232 w0 _ ?side1 ?side2 ?side3 ?side4 ?side5 A33.out).mono ?_
                  (case side1 => repeat (first | (with_reducible first | exact HI0.out | apply IsS41.alloc | apply IsS41.drewN | apply IsS41.drew | apply IsS41.set_1 | apply IsS41.set_2 | refine IsS41.far ?_ NB0_222.out _ | refine IsS41.far ?_ NB0_237.out _) | exact HI0.out))
                  (case side2 => repeat (first | (with_reducible first | exact HB.out | apply below_alloc | apply pw_below_drewN | apply below_drew1 | refine below_set ?_ (IsS41.ge HI0.out) | refine below_set ?_ GE222.out | refine below_set ?_ GE237.out) | exact HB.out))
                  (case side3 => exact cU (Kd.R_reads' HO229.out).2.2)
                  (case side4 => exact (Kd.R_reads' HO229.out).2.1)
                  (case side5 => exact far_slice (IsS41.own_ne HI0.out HO229.out (by decide)))
                  rintro e w45 ⟨rfl, hi, hb, hk⟩
                  refine ⟨_, rfl, ?_⟩
                  replace HO_3 := Aside0.mk (Kd.R_mono (Kd.R_keep (IsS41.apart (show IsS41 w0 _ g s0_0 x1001_11 x1002_11 from by repeat (first | (with_reducible first | exact HI0.out | apply IsS41.alloc | apply IsS41.drewN | apply IsS41.drew | apply IsS41.set_1 | apply IsS41.set_2 | refine IsS41.far ?_ NB0_222.out _ | refine IsS41.far ?_ NB0_237.out _) | exact HI0.out)) (rU HO_3.out) (by decide)) hk (fun _ h => h.2)) (fun _ h => h.1))
                  replace BK222 := Aside0.mk (KeepBut.blk hk (g' := gb222) (o := .cells #[.int .i64 x223000_27, .int .i64 x223001_27, .int .i64 x223002_27, .bool x223003_27] 24 (0, 0)) (bV BK222) NB222_0.out (by simp))
                  replace HO229 := Aside0.mk (Kd.R_mono (Kd.R_keep (IsS41.apart (show IsS41 w0 _ g s0_0 x1001_11 x1002_11 from by repeat (first | (with_reducible first | exact HI0.out | apply IsS41.alloc | apply IsS41.drewN | apply IsS41.drew | apply IsS41.set_1 | apply IsS41.set_2 | refine IsS41.far ?_ NB0_222.out _ | refine IsS41.far ?_ NB0_237.out _) | exact HI0.out)) (rU HO229.out) (by decide)) hk (fun _ h => h.2)) (fun _ h => h.1))
                  replace BK237 := Aside0.mk (KeepBut.blk hk (g' := gb237) (o := .cells #[.string (⟨#[]⟩ : ByteArray), .int .i64 0, .int .i64 0, .int .i64 0, .int .i64 0, .bool false] 36 (0, 0)) (bV BK237) NB237_0.out (by simp))
                  replace HK := Aside0.mk (KeepBut.trans (by repeat (first | (with_reducible first | exact HK.out | apply KeepBut.set_ | apply keep_drewN | apply keep_drew | apply keep_alloc | refine keep_far ?_ GW222.out _ | refine keep_far ?_ GW237.out _) | exact HK.out)) hk (.inl rfl))
                  replace HB := Aside0.mk hb
                  replace HI0 := Aside0.mk hi
                  (try clear hb)
                  (try clear hb2)
                  (try clear hk)
                  (try clear hi)
                  refine hK.out _ _ ⟨cz BK222 0 _, cz BK222 1 _, cz BK222 2 _, cz BK222 3 _⟩ (fun hHeld => ?_)
                  clear hK K
                  refine norm_ (a' := ?_) ?_ ?_
                  rotate_left
                  ·show Act.put _ (some 34) _ = _
                   simp only [Act.put, List.setIfInBounds_toArray, List.set_cons_zero, List.set_cons_succ, i64_w, i32_w]
                   rfl
                  exact norm_ (by first | (simp only [putAll, Act.put, List.setIfInBounds_toArray, List.set_cons_zero, List.set_cons_succ]; done) | (simp only [putAll, Act.put, List.setIfInBounds_toArray, List.set_cons_zero, List.set_cons_succ]; rfl)) (hJ1_2_20 (.slice Ao44 y227.length co44, gb237) _ ⟨hHeld, (rU HO229.out), (rU HO_3.out), (bV BK222), (bV BK237), GW237.out, GE237.out, NB0_237.out, NB237_0.out, NB222_237.out, NB237_222.out, (by repeat (first | (with_reducible first | exact HI0.out | apply IsS41.alloc | apply IsS41.drewN | apply IsS41.drew | apply IsS41.set_1 | apply IsS41.set_2 | refine IsS41.far ?_ NB0_222.out _ | refine IsS41.far ?_ NB0_237.out _) | exact HI0.out)), (by repeat (first | (with_reducible first | exact HK.out | apply KeepBut.set_ | apply keep_drewN | apply keep_drew | apply keep_alloc | refine keep_far ?_ GW222.out _ | refine keep_far ?_ GW237.out _) | exact HK.out)), (by repeat (first | (with_reducible first | exact HB.out | apply below_alloc | apply pw_below_drewN | apply below_drew1 | refine below_set ?_ (IsS41.ge HI0.out) | refine below_set ?_ GE222.out | refine below_set ?_ GE237.out) | exact HB.out))⟩)
                ·skip
                 rintro v228 w44 ⟨hS_, h0_, h1_, h2_, h3_, h4_, h5_⟩
                 have HO229 : Aside0 (Kd.R Kd.string 9 w44 w.heap.size (fun _ => True) v228 y227) := ⟨h0_⟩
                 replace HO_3 : Aside0 (Kd.R k36 36 w44 w.heap.size (fun _ => True) u3 x3_2) := ⟨h1_⟩
                 replace BK222 : Aside0 (w44.heap[gb222]? = some (.cells #[.int .i64 x223000_27, .int .i64 x223001_27, .int .i64 x223002_27, .bool x223003_27] 24 (0, 0))) := ⟨h2_⟩
                 replace HI0 : Aside0 (IsS41 w0 w44 g s0_0 t231 t232) := ⟨h3_⟩
                 replace HK : Aside0 (KeepBut w w44 g none) := ⟨h4_⟩
                 replace HB : Aside0 (Below w0.heap.size w0 w44) := ⟨h5_⟩
                 clear h0_ h1_ h2_ h3_ h4_ h5_
                 have hHeld : w44.cell? ⟨gb222, 0, none⟩ = some (.int .i64 x223000_27) ∧ w44.cell? ⟨gb222, 1, none⟩ = some (.int .i64 x223001_27) ∧ w44.cell? ⟨gb222, 2, none⟩ = some (.int .i64 x223002_27) ∧ w44.cell? ⟨gb222, 3, none⟩ = some (.bool x223003_27) := hS_
                 refine norm_ (a' := ?_) ?_ ?_
                 rotate_left
                 ·simp only [putAll, Act.put, List.setIfInBounds_toArray, List.set_cons_zero, List.set_cons_succ]
                  rfl
                 refine two_ (i := 4) (j := 20) (Ni := some 36) (Nj := some 7) #[true, true, true, true, true, false, true, true, true, false, false, true, true, true, true, true, true, true, true, false, false, false] #[true, true, true, true, false, false, true, true, true, false, false, true, true, true, true, true, true, true, true, false, true, false] rfl rfl rfl rfl (two_of HT_.out (by kernel_rfl)) (by decide) (by decide) (fun K hK => ?_) (fun K hK => ?_)
                 ·skip
                  refine goes_ Try.func42 (by kernel_rfl) rfl #[.int .i64 x5_2] (by rfl) rfl rfl aE ?_
                  with_reducible refine (spec_l1Num.calls kj27 x5_2 t233 _ A34.out).mono ?_
                  rintro e w45 ⟨rfl, hb⟩
                  refine ⟨_, rfl, ?_⟩
                  replace HO_3 := Aside0.mk (Kd.R_below (rU HO_3.out) hb)
                  replace HO229 := Aside0.mk (Kd.R_below (rU HO229.out) hb)
                  replace BK222 := bB (bV BK222) hb
                  replace HK := Aside0.mk (KeepBut.trans (by repeat (first | (with_reducible first | exact HK.out | apply KeepBut.set_ | apply keep_drewN | apply keep_drew | apply keep_alloc | refine keep_far ?_ GW222.out _) | exact HK.out)) (KeepBut.of_below hb g none) (.inl rfl))
                  replace HB := Aside0.mk (below_step (by repeat (first | (with_reducible first | exact HB.out | apply below_alloc | apply pw_below_drewN | apply below_drew1 | refine below_set ?_ (IsS41.ge HI0.out) | refine below_set ?_ GE222.out) | exact HB.out)) hb)
                  replace HI0 := Aside0.mk (IsS41.below (by repeat (first | (with_reducible first | exact HI0.out | apply IsS41.alloc | apply IsS41.drewN | apply IsS41.drew | apply IsS41.set_1 | apply IsS41.set_2 | refine IsS41.far ?_ NB0_222.out _) | exact HI0.out)) hb)
                  (try clear hb)
                  (try clear hb2)
                  (try clear hk)
                  (try clear hi)
                  refine hK.out _ _ ⟨cz BK222 0 _, cz BK222 1 _, cz BK222 2 _, cz BK222 3 _⟩ (fun hHeld => ?_)
                  clear hK K
                  refine norm_ (a' := ?_) ?_ ?_
                  rotate_left
                  ·show Act.put _ (some 36) _ = _
                   simp only [Act.put, List.setIfInBounds_toArray, List.set_cons_zero, List.set_cons_succ, i64_w, i32_w]
                   rfl
                  refine pureA 5 37 (bz 22 522751) rfl rfl (any_of HT_.out (by kernel_rfl)) ?_
                  exact norm_ (by first | (simp only [putAll, Act.put, List.setIfInBounds_toArray, List.set_cons_zero, List.set_cons_succ]; done) | (simp only [putAll, Act.put, List.setIfInBounds_toArray, List.set_cons_zero, List.set_cons_succ]; rfl)) (hJ1_2_4 (v228) _ ⟨hHeld, (rU HO229.out), (rU HO_3.out), (bV BK222), (by repeat (first | (with_reducible first | exact HI0.out | apply IsS41.alloc | apply IsS41.drewN | apply IsS41.drew | apply IsS41.set_1 | apply IsS41.set_2 | refine IsS41.far ?_ NB0_222.out _) | exact HI0.out)), (by repeat (first | (with_reducible first | exact HK.out | apply KeepBut.set_ | apply keep_drewN | apply keep_drew | apply keep_alloc | refine keep_far ?_ GW222.out _) | exact HK.out)), (by repeat (first | (with_reducible first | exact HB.out | apply below_alloc | apply pw_below_drewN | apply below_drew1 | refine below_set ?_ (IsS41.ge HI0.out) | refine below_set ?_ GE222.out) | exact HB.out))⟩)
                 ·skip
                  refine box_step ?hg (N := 7) ?hd (cs := #[.string (⟨#[]⟩ : ByteArray), .int .i64 0, .int .i64 0, .int .i64 0, .int .i64 0, .bool false]) (t := 36) ?hr ?_; (case hd => rfl); (case hg => rfl); (case hr => exact sE)
                  intro gb237 hg w45 hbox hb
                  replace HO_3 := Aside0.mk (Kd.R_below (Kd.R_elderB (rU HO_3.out) gb237 (Nat.le_of_eq hg.symm)) hb)
                  replace HO229 := Aside0.mk (Kd.R_below (rU HO229.out) hb)
                  replace HB := Aside0.mk (below_step (by repeat (first | (with_reducible first | exact HB.out | apply below_alloc | apply pw_below_drewN | apply below_drew1 | refine below_set ?_ (IsS41.ge HI0.out) | refine below_set ?_ GE222.out) | exact HB.out)) hb)
                  have BK237 := Aside0.mk hbox
                  have GW237 := Aside0.mk ((by rw [hg]; exact (keep_size (w := w) (g := g) (row := none) (by repeat (first | (with_reducible first | exact HK.out | apply KeepBut.set_ | apply keep_drewN | apply keep_drew | apply keep_alloc | refine keep_far ?_ GW222.out _) | exact HK.out))) : w.heap.size ≤ gb237))
                  have GE237 := Aside0.mk ((Nat.le_trans HW0.out (by rw [hg]; exact (keep_size (w := w) (g := g) (row := none) (by repeat (first | (with_reducible first | exact HK.out | apply KeepBut.set_ | apply keep_drewN | apply keep_drew | apply keep_alloc | refine keep_far ?_ GW222.out _) | exact HK.out))) : w.heap.size ≤ gb237) : w0.heap.size ≤ gb237))
                  replace HK := Aside0.mk (KeepBut.trans (by repeat (first | (with_reducible first | exact HK.out | apply KeepBut.set_ | apply keep_drewN | apply keep_drew | apply keep_alloc | refine keep_far ?_ GW222.out _) | exact HK.out)) (KeepBut.of_below hb g none) (.inl rfl))
                  have NB222_237 := nL hg (bV BK222)
                  have NB237_222 := nG hg (bV BK222)
                  replace BK222 := bB (bV BK222) hb
                  have NB0_237 := Aside0.mk ((by rw [hg]; exact Nat.ne_of_lt (IsS41.lt (show IsS41 w0 _ g s0_0 t231 t232 from by repeat (first | (with_reducible first | exact HI0.out | apply IsS41.alloc | apply IsS41.drewN | apply IsS41.drew | apply IsS41.set_1 | apply IsS41.set_2 | refine IsS41.far ?_ NB0_222.out _) | exact HI0.out))) : g ≠ gb237))
                  have NB237_0 := Aside0.mk ((by rw [hg]; exact Nat.ne_of_gt (IsS41.lt (show IsS41 w0 _ g s0_0 t231 t232 from by repeat (first | (with_reducible first | exact HI0.out | apply IsS41.alloc | apply IsS41.drewN | apply IsS41.drew | apply IsS41.set_1 | apply IsS41.set_2 | refine IsS41.far ?_ NB0_222.out _) | exact HI0.out))) : gb237 ≠ g))
                  replace HI0 := Aside0.mk (IsS41.below (by repeat (first | (with_reducible first | exact HI0.out | apply IsS41.alloc | apply IsS41.drewN | apply IsS41.drew | apply IsS41.set_1 | apply IsS41.set_2 | refine IsS41.far ?_ NB0_222.out _) | exact HI0.out)) hb)
                  clear hb hbox hg
                  refine hK.out _ _ ⟨cz BK222 0 _, cz BK222 1 _, cz BK222 2 _, cz BK222 3 _⟩ (fun hHeld => ?_)
                  clear hK K
                  refine norm_ (a' := ?_) ?_ ?_
                  rotate_left
                  ·show Act.put _ (some 7) _ = _
                   simp only [Act.put, List.setIfInBounds_toArray, List.set_cons_zero, List.set_cons_succ, i64_w, i32_w]
                   rfl
                  exact norm_ (by first | (simp only [putAll, Act.put, List.setIfInBounds_toArray, List.set_cons_zero, List.set_cons_succ]; done) | (simp only [putAll, Act.put, List.setIfInBounds_toArray, List.set_cons_zero, List.set_cons_succ]; rfl)) (hJ1_2_20 (v228, gb237) _ ⟨hHeld, (rU HO229.out), (by (with_reducible repeat (first | apply Kd.R_alloc | apply Kd.R_drewN | apply Kd.R_drew)); exact Kd.R_mono HO_3.out (fun _ hk => hk.2)), (bV BK222), (bV BK237), GW237.out, GE237.out, NB0_237.out, NB237_0.out, NB222_237.out, NB237_222.out, (by repeat (first | (with_reducible first | exact HI0.out | apply IsS41.alloc | apply IsS41.drewN | apply IsS41.drew | apply IsS41.set_1 | apply IsS41.set_2 | refine IsS41.far ?_ NB0_222.out _ | refine IsS41.far ?_ NB0_237.out _) | exact HI0.out)), (by repeat (first | (with_reducible first | exact HK.out | apply KeepBut.set_ | apply keep_drewN | apply keep_drew | apply keep_alloc | refine keep_far ?_ GW222.out _ | refine keep_far ?_ GW237.out _) | exact HK.out)), (by repeat (first | (with_reducible first | exact HB.out | apply below_alloc | apply pw_below_drewN | apply below_drew1 | refine below_set ?_ (IsS41.ge HI0.out) | refine below_set ?_ GE222.out | refine below_set ?_ GE237.out) | exact HB.out))⟩)
               ·skip
                rintro ⟨v228, gb237⟩ w45 ⟨hS_, h0_, h1_, h2_, h3_, h4_, h5_, h6_, h7_, h8_, h9_, h10_, h11_, h12_⟩
                have HO229 : Aside0 (Kd.R Kd.string 9 w45 w.heap.size (fun _ => True) v228 y227) := ⟨h0_⟩
                replace HO_3 : Aside0 (Kd.R k36 36 w45 w.heap.size (fun k_ => k_ ≠ gb237) u3 x3_2) := ⟨h1_⟩
                replace BK222 : Aside0 (w45.heap[gb222]? = some (.cells #[.int .i64 x223000_27, .int .i64 x223001_27, .int .i64 x223002_27, .bool x223003_27] 24 (0, 0))) := ⟨h2_⟩
                have BK237 : Aside0 (w45.heap[gb237]? = some (.cells #[.string (⟨#[]⟩ : ByteArray), .int .i64 0, .int .i64 0, .int .i64 0, .int .i64 0, .bool false] 36 (0, 0))) := ⟨h3_⟩
                have GW237 : Aside0 (w.heap.size ≤ gb237) := ⟨h4_⟩
                have GE237 : Aside0 (w0.heap.size ≤ gb237) := ⟨h5_⟩
                have NB0_237 : Aside0 (g ≠ gb237) := ⟨h6_⟩
                have NB237_0 : Aside0 (gb237 ≠ g) := ⟨h7_⟩
                have NB222_237 : Aside0 (gb222 ≠ gb237) := ⟨h8_⟩
                have NB237_222 : Aside0 (gb237 ≠ gb222) := ⟨h9_⟩
                replace HI0 : Aside0 (IsS41 w0 w45 g s0_0 t231 t232) := ⟨h10_⟩
                replace HK : Aside0 (KeepBut w w45 g none) := ⟨h11_⟩
                replace HB : Aside0 (Below w0.heap.size w0 w45) := ⟨h12_⟩
                clear h0_ h1_ h2_ h3_ h4_ h5_ h6_ h7_ h8_ h9_ h10_ h11_ h12_
                have hHeld : w45.cell? ⟨gb222, 0, none⟩ = some (.int .i64 x223000_27) ∧ w45.cell? ⟨gb222, 1, none⟩ = some (.int .i64 x223001_27) ∧ w45.cell? ⟨gb222, 2, none⟩ = some (.int .i64 x223002_27) ∧ w45.cell? ⟨gb222, 3, none⟩ = some (.bool x223003_27) := hS_
                refine norm_ (a' := ?_) ?_ ?_
                rotate_left
                ·simp only [putAll, Act.put, List.setIfInBounds_toArray, List.set_cons_zero, List.set_cons_succ]
                 rfl
                refine one_ (i := 4) (N := some 36) (bz 22 1571295) rfl rfl (one_of HT_.out (by kernel_rfl)) (by decide) (fun K hK => ?_)
                refine goes_ Try.func42 (by kernel_rfl) rfl #[.int .i64 x5_2] (by rfl) rfl rfl aE ?_
                with_reducible refine (spec_l1Num.calls kj27 x5_2 t233 _ A34.out).mono ?_
                rintro e w46 ⟨rfl, hb⟩
                refine ⟨_, rfl, ?_⟩
                replace HO_3 := Aside0.mk (Kd.R_below (rU HO_3.out) hb)
                replace HO229 := Aside0.mk (Kd.R_below (rU HO229.out) hb)
                replace BK222 := bB (bV BK222) hb
                replace BK237 := bB (bV BK237) hb
                replace HK := Aside0.mk (KeepBut.trans (by repeat (first | (with_reducible first | exact HK.out | apply KeepBut.set_ | apply keep_drewN | apply keep_drew | apply keep_alloc | refine keep_far ?_ GW222.out _ | refine keep_far ?_ GW237.out _) | exact HK.out)) (KeepBut.of_below hb g none) (.inl rfl))
                replace HB := Aside0.mk (below_step (by repeat (first | (with_reducible first | exact HB.out | apply below_alloc | apply pw_below_drewN | apply below_drew1 | refine below_set ?_ (IsS41.ge HI0.out) | refine below_set ?_ GE222.out | refine below_set ?_ GE237.out) | exact HB.out)) hb)
                replace HI0 := Aside0.mk (IsS41.below (by repeat (first | (with_reducible first | exact HI0.out | apply IsS41.alloc | apply IsS41.drewN | apply IsS41.drew | apply IsS41.set_1 | apply IsS41.set_2 | refine IsS41.far ?_ NB0_222.out _ | refine IsS41.far ?_ NB0_237.out _) | exact HI0.out)) hb)
                (try clear hb)
                (try clear hb2)
                (try clear hk)
                (try clear hi)
                refine hK.out _ _ ⟨cz BK222 0 _, cz BK222 1 _, cz BK222 2 _, cz BK222 3 _⟩ (fun hHeld => ?_)
                clear hK K
                refine norm_ (a' := ?_) ?_ ?_
                rotate_left
                ·show Act.put _ (some 36) _ = _
                 simp only [Act.put, List.setIfInBounds_toArray, List.set_cons_zero, List.set_cons_succ, i64_w, i32_w]
                 rfl
                refine pureA 5 37 (bz 22 1571327) rfl rfl (any_of HT_.out (by kernel_rfl)) ?_
                exact norm_ (by first | (simp only [putAll, Act.put, List.setIfInBounds_toArray, List.set_cons_zero, List.set_cons_succ]; done) | (simp only [putAll, Act.put, List.setIfInBounds_toArray, List.set_cons_zero, List.set_cons_succ]; rfl)) (hJ1_2_4_20 (v228, gb237) _ ⟨hHeld, (rU HO229.out), (rU HO_3.out), (bV BK222), (bV BK237), GW237.out, GE237.out, NB0_237.out, NB237_0.out, NB222_237.out, NB237_222.out, (by repeat (first | (with_reducible first | exact HI0.out | apply IsS41.alloc | apply IsS41.drewN | apply IsS41.drew | apply IsS41.set_1 | apply IsS41.set_2 | refine IsS41.far ?_ NB0_222.out _ | refine IsS41.far ?_ NB0_237.out _) | exact HI0.out)), (by repeat (first | (with_reducible first | exact HK.out | apply KeepBut.set_ | apply keep_drewN | apply keep_drew | apply keep_alloc | refine keep_far ?_ GW222.out _ | refine keep_far ?_ GW237.out _) | exact HK.out)), (by repeat (first | (with_reducible first | exact HB.out | apply below_alloc | apply pw_below_drewN | apply below_drew1 | refine below_set ?_ (IsS41.ge HI0.out) | refine below_set ?_ GE222.out | refine below_set ?_ GE237.out) | exact HB.out))⟩)
              ·skip
               rintro v228 w45 ⟨hS_, h0_, h1_, h2_, h3_, h4_, h5_⟩
               have HO229 : Aside0 (Kd.R Kd.string 9 w45 w.heap.size (fun _ => True) v228 y227) := ⟨h0_⟩
               replace HO_3 : Aside0 (Kd.R k36 36 w45 w.heap.size (fun _ => True) u3 x3_2) := ⟨h1_⟩
               replace BK222 : Aside0 (w45.heap[gb222]? = some (.cells #[.int .i64 x223000_27, .int .i64 x223001_27, .int .i64 x223002_27, .bool x223003_27] 24 (0, 0))) := ⟨h2_⟩
               replace HI0 : Aside0 (IsS41 w0 w45 g s0_0 t231 t232) := ⟨h3_⟩
               replace HK : Aside0 (KeepBut w w45 g none) := ⟨h4_⟩
               replace HB : Aside0 (Below w0.heap.size w0 w45) := ⟨h5_⟩
               clear h0_ h1_ h2_ h3_ h4_ h5_
               have hHeld : w45.cell? ⟨gb222, 0, none⟩ = some (.int .i64 x223000_27) ∧ w45.cell? ⟨gb222, 1, none⟩ = some (.int .i64 x223001_27) ∧ w45.cell? ⟨gb222, 2, none⟩ = some (.int .i64 x223002_27) ∧ w45.cell? ⟨gb222, 3, none⟩ = some (.bool x223003_27) := hS_
               refine norm_ (a' := ?_) ?_ ?_
               rotate_left
               ·simp only [putAll, Act.put, List.setIfInBounds_toArray, List.set_cons_zero, List.set_cons_succ]
                rfl
               refine two_ (i := 9) (j := 20) (Ni := some 41) (Nj := some 7) #[true, true, true, true, true, true, true, true, true, true, false, true, true, true, true, true, true, true, true, false, false, false] #[true, true, true, true, true, true, true, true, true, false, false, true, true, true, true, true, true, true, true, false, true, false] rfl rfl rfl rfl (two_of HT_.out (by kernel_rfl)) (by decide) (by decide) (fun K hK => ?_) (fun K hK => ?_)
               ·skip
                refine goes_ Try.func18 (by kernel_rfl) rfl #[.pointer (some ⟨g, 0, none⟩), .int .i64 (wrap64 (x5_2 + 1))] (by rfl) rfl rfl aE ?_
                with_reducible refine (spec_l1Cur_pick.calls g s0_0 t231 t232 (wrap64 (x5_2 + 1)) t234 t235 t236 w0 _ ?side1 ?side2 A36.out).mono ?_
                (case side1 => repeat (first | (with_reducible first | exact HI0.out | apply IsS41.alloc | apply IsS41.drewN | apply IsS41.drew | apply IsS41.set_1 | apply IsS41.set_2 | refine IsS41.far ?_ NB0_222.out _) | exact HI0.out))
                (case side2 => repeat (first | (with_reducible first | exact HB.out | apply below_alloc | apply pw_below_drewN | apply below_drew1 | refine below_set ?_ (IsS41.ge HI0.out) | refine below_set ?_ GE222.out) | exact HB.out))
                rintro e w46 ⟨rfl, hi, hb, hk⟩
                refine ⟨_, rfl, ?_⟩
                replace HO_3 := Aside0.mk (Kd.R_mono (Kd.R_keep (IsS41.apart (show IsS41 w0 _ g s0_0 t231 t232 from by repeat (first | (with_reducible first | exact HI0.out | apply IsS41.alloc | apply IsS41.drewN | apply IsS41.drew | apply IsS41.set_1 | apply IsS41.set_2 | refine IsS41.far ?_ NB0_222.out _) | exact HI0.out)) (rU HO_3.out) (by decide)) hk (fun _ h => h.2)) (fun _ h => h.1))
                replace BK222 := Aside0.mk (KeepBut.blk hk (g' := gb222) (o := .cells #[.int .i64 x223000_27, .int .i64 x223001_27, .int .i64 x223002_27, .bool x223003_27] 24 (0, 0)) (bV BK222) NB222_0.out (by simp))
                replace HO229 := Aside0.mk (Kd.R_mono (Kd.R_keep (IsS41.apart (show IsS41 w0 _ g s0_0 t231 t232 from by repeat (first | (with_reducible first | exact HI0.out | apply IsS41.alloc | apply IsS41.drewN | apply IsS41.drew | apply IsS41.set_1 | apply IsS41.set_2 | refine IsS41.far ?_ NB0_222.out _) | exact HI0.out)) (rU HO229.out) (by decide)) hk (fun _ h => h.2)) (fun _ h => h.1))
                replace HK := Aside0.mk (KeepBut.trans (by repeat (first | (with_reducible first | exact HK.out | apply KeepBut.set_ | apply keep_drewN | apply keep_drew | apply keep_alloc | refine keep_far ?_ GW222.out _) | exact HK.out)) hk (.inl rfl))
                replace HB := Aside0.mk hb
                replace HI0 := Aside0.mk hi
                (try clear hb)
                (try clear hb2)
                (try clear hk)
                (try clear hi)
                refine hK.out _ _ ⟨cz BK222 0 _, cz BK222 1 _, cz BK222 2 _, cz BK222 3 _⟩ (fun hHeld => ?_)
                clear hK K
                refine norm_ (a' := ?_) ?_ ?_
                rotate_left
                ·show Act.put _ (some 41) _ = _
                 simp only [Act.put, List.setIfInBounds_toArray, List.set_cons_zero, List.set_cons_succ, i64_w, i32_w]
                 rfl
                refine pureA 10 42 (bz 22 524287) rfl rfl (any_of HT_.out (by kernel_rfl)) ?_
                refine pureA 19 51 (bz 22 1048575) rfl rfl (any_of HT_.out (by kernel_rfl)) ?_
                exact norm_ (by first | (simp only [putAll, Act.put, List.setIfInBounds_toArray, List.set_cons_zero, List.set_cons_succ]; done) | (simp only [putAll, Act.put, List.setIfInBounds_toArray, List.set_cons_zero, List.set_cons_succ]; rfl)) (hJ1_2_4_9 (v228) _ ⟨hHeld, (rU HO229.out), (rU HO_3.out), (bV BK222), (by repeat (first | (with_reducible first | exact HI0.out | apply IsS41.alloc | apply IsS41.drewN | apply IsS41.drew | apply IsS41.set_1 | apply IsS41.set_2 | refine IsS41.far ?_ NB0_222.out _) | exact HI0.out)), (by repeat (first | (with_reducible first | exact HK.out | apply KeepBut.set_ | apply keep_drewN | apply keep_drew | apply keep_alloc | refine keep_far ?_ GW222.out _) | exact HK.out)), (by repeat (first | (with_reducible first | exact HB.out | apply below_alloc | apply pw_below_drewN | apply below_drew1 | refine below_set ?_ (IsS41.ge HI0.out) | refine below_set ?_ GE222.out) | exact HB.out))⟩)
               ·skip
                refine box_step ?hg (N := 7) ?hd (cs := #[.string (⟨#[]⟩ : ByteArray), .int .i64 0, .int .i64 0, .int .i64 0, .int .i64 0, .bool false]) (t := 36) ?hr ?_; (case hd => rfl); (case hg => rfl); (case hr => exact sE)
                intro gb237 hg w46 hbox hb
                replace HO_3 := Aside0.mk (Kd.R_below (Kd.R_elderB (rU HO_3.out) gb237 (Nat.le_of_eq hg.symm)) hb)
                replace HO229 := Aside0.mk (Kd.R_below (rU HO229.out) hb)
                replace HB := Aside0.mk (below_step (by repeat (first | (with_reducible first | exact HB.out | apply below_alloc | apply pw_below_drewN | apply below_drew1 | refine below_set ?_ (IsS41.ge HI0.out) | refine below_set ?_ GE222.out) | exact HB.out)) hb)
                have BK237 := Aside0.mk hbox
                have GW237 := Aside0.mk ((by rw [hg]; exact (keep_size (w := w) (g := g) (row := none) (by repeat (first | (with_reducible first | exact HK.out | apply KeepBut.set_ | apply keep_drewN | apply keep_drew | apply keep_alloc | refine keep_far ?_ GW222.out _) | exact HK.out))) : w.heap.size ≤ gb237))
                have GE237 := Aside0.mk ((Nat.le_trans HW0.out (by rw [hg]; exact (keep_size (w := w) (g := g) (row := none) (by repeat (first | (with_reducible first | exact HK.out | apply KeepBut.set_ | apply keep_drewN | apply keep_drew | apply keep_alloc | refine keep_far ?_ GW222.out _) | exact HK.out))) : w.heap.size ≤ gb237) : w0.heap.size ≤ gb237))
                replace HK := Aside0.mk (KeepBut.trans (by repeat (first | (with_reducible first | exact HK.out | apply KeepBut.set_ | apply keep_drewN | apply keep_drew | apply keep_alloc | refine keep_far ?_ GW222.out _) | exact HK.out)) (KeepBut.of_below hb g none) (.inl rfl))
                have NB222_237 := nL hg (bV BK222)
                have NB237_222 := nG hg (bV BK222)
                replace BK222 := bB (bV BK222) hb
                have NB0_237 := Aside0.mk ((by rw [hg]; exact Nat.ne_of_lt (IsS41.lt (show IsS41 w0 _ g s0_0 t231 t232 from by repeat (first | (with_reducible first | exact HI0.out | apply IsS41.alloc | apply IsS41.drewN | apply IsS41.drew | apply IsS41.set_1 | apply IsS41.set_2 | refine IsS41.far ?_ NB0_222.out _) | exact HI0.out))) : g ≠ gb237))
                have NB237_0 := Aside0.mk ((by rw [hg]; exact Nat.ne_of_gt (IsS41.lt (show IsS41 w0 _ g s0_0 t231 t232 from by repeat (first | (with_reducible first | exact HI0.out | apply IsS41.alloc | apply IsS41.drewN | apply IsS41.drew | apply IsS41.set_1 | apply IsS41.set_2 | refine IsS41.far ?_ NB0_222.out _) | exact HI0.out))) : gb237 ≠ g))
                replace HI0 := Aside0.mk (IsS41.below (by repeat (first | (with_reducible first | exact HI0.out | apply IsS41.alloc | apply IsS41.drewN | apply IsS41.drew | apply IsS41.set_1 | apply IsS41.set_2 | refine IsS41.far ?_ NB0_222.out _) | exact HI0.out)) hb)
                clear hb hbox hg
                refine hK.out _ _ ⟨cz BK222 0 _, cz BK222 1 _, cz BK222 2 _, cz BK222 3 _⟩ (fun hHeld => ?_)
                clear hK K
                refine norm_ (a' := ?_) ?_ ?_
                rotate_left
                ·show Act.put _ (some 7) _ = _
                 simp only [Act.put, List.setIfInBounds_toArray, List.set_cons_zero, List.set_cons_succ, i64_w, i32_w]
                 rfl
                exact norm_ (by first | (simp only [putAll, Act.put, List.setIfInBounds_toArray, List.set_cons_zero, List.set_cons_succ]; done) | (simp only [putAll, Act.put, List.setIfInBounds_toArray, List.set_cons_zero, List.set_cons_succ]; rfl)) (hJ1_2_4_20 (v228, gb237) _ ⟨hHeld, (rU HO229.out), (by (with_reducible repeat (first | apply Kd.R_alloc | apply Kd.R_drewN | apply Kd.R_drew)); exact Kd.R_mono HO_3.out (fun _ hk => hk.2)), (bV BK222), (bV BK237), GW237.out, GE237.out, NB0_237.out, NB237_0.out, NB222_237.out, NB237_222.out, (by repeat (first | (with_reducible first | exact HI0.out | apply IsS41.alloc | apply IsS41.drewN | apply IsS41.drew | apply IsS41.set_1 | apply IsS41.set_2 | refine IsS41.far ?_ NB0_222.out _ | refine IsS41.far ?_ NB0_237.out _) | exact HI0.out)), (by repeat (first | (with_reducible first | exact HK.out | apply KeepBut.set_ | apply keep_drewN | apply keep_drew | apply keep_alloc | refine keep_far ?_ GW222.out _ | refine keep_far ?_ GW237.out _) | exact HK.out)), (by repeat (first | (with_reducible first | exact HB.out | apply below_alloc | apply pw_below_drewN | apply below_drew1 | refine below_set ?_ (IsS41.ge HI0.out) | refine below_set ?_ GE222.out | refine below_set ?_ GE237.out) | exact HB.out))⟩)
             ·skip
              rintro ⟨v228, gb237⟩ w46 ⟨hS_, h0_, h1_, h2_, h3_, h4_, h5_, h6_, h7_, h8_, h9_, h10_, h11_, h12_⟩
              have HO229 : Aside0 (Kd.R Kd.string 9 w46 w.heap.size (fun _ => True) v228 y227) := ⟨h0_⟩
              replace HO_3 : Aside0 (Kd.R k36 36 w46 w.heap.size (fun k_ => k_ ≠ gb237) u3 x3_2) := ⟨h1_⟩
              replace BK222 : Aside0 (w46.heap[gb222]? = some (.cells #[.int .i64 x223000_27, .int .i64 x223001_27, .int .i64 x223002_27, .bool x223003_27] 24 (0, 0))) := ⟨h2_⟩
              have BK237 : Aside0 (w46.heap[gb237]? = some (.cells #[.string (⟨#[]⟩ : ByteArray), .int .i64 0, .int .i64 0, .int .i64 0, .int .i64 0, .bool false] 36 (0, 0))) := ⟨h3_⟩
              have GW237 : Aside0 (w.heap.size ≤ gb237) := ⟨h4_⟩
              have GE237 : Aside0 (w0.heap.size ≤ gb237) := ⟨h5_⟩
              have NB0_237 : Aside0 (g ≠ gb237) := ⟨h6_⟩
              have NB237_0 : Aside0 (gb237 ≠ g) := ⟨h7_⟩
              have NB222_237 : Aside0 (gb222 ≠ gb237) := ⟨h8_⟩
              have NB237_222 : Aside0 (gb237 ≠ gb222) := ⟨h9_⟩
              replace HI0 : Aside0 (IsS41 w0 w46 g s0_0 t231 t232) := ⟨h10_⟩
              replace HK : Aside0 (KeepBut w w46 g none) := ⟨h11_⟩
              replace HB : Aside0 (Below w0.heap.size w0 w46) := ⟨h12_⟩
              clear h0_ h1_ h2_ h3_ h4_ h5_ h6_ h7_ h8_ h9_ h10_ h11_ h12_
              have hHeld : w46.cell? ⟨gb222, 0, none⟩ = some (.int .i64 x223000_27) ∧ w46.cell? ⟨gb222, 1, none⟩ = some (.int .i64 x223001_27) ∧ w46.cell? ⟨gb222, 2, none⟩ = some (.int .i64 x223002_27) ∧ w46.cell? ⟨gb222, 3, none⟩ = some (.bool x223003_27) := hS_
              refine norm_ (a' := ?_) ?_ ?_
              rotate_left
              ·simp only [putAll, Act.put, List.setIfInBounds_toArray, List.set_cons_zero, List.set_cons_succ]
               rfl
              refine one_ (i := 9) (N := some 41) (bz 22 1571839) rfl rfl (one_of HT_.out (by kernel_rfl)) (by decide) (fun K hK => ?_)
              refine goes_ Try.func18 (by kernel_rfl) rfl #[.pointer (some ⟨g, 0, none⟩), .int .i64 (wrap64 (x5_2 + 1))] (by rfl) rfl rfl aE ?_
              with_reducible refine (spec_l1Cur_pick.calls g s0_0 t231 t232 (wrap64 (x5_2 + 1)) t234 t235 t236 w0 _ ?side1 ?side2 A36.out).mono ?_
              (case side1 => repeat (first | (with_reducible first | exact HI0.out | apply IsS41.alloc | apply IsS41.drewN | apply IsS41.drew | apply IsS41.set_1 | apply IsS41.set_2 | refine IsS41.far ?_ NB0_222.out _ | refine IsS41.far ?_ NB0_237.out _) | exact HI0.out))
              (case side2 => repeat (first | (with_reducible first | exact HB.out | apply below_alloc | apply pw_below_drewN | apply below_drew1 | refine below_set ?_ (IsS41.ge HI0.out) | refine below_set ?_ GE222.out | refine below_set ?_ GE237.out) | exact HB.out))
              rintro e w47 ⟨rfl, hi, hb, hk⟩
              refine ⟨_, rfl, ?_⟩
              replace HO_3 := Aside0.mk (Kd.R_mono (Kd.R_keep (IsS41.apart (show IsS41 w0 _ g s0_0 t231 t232 from by repeat (first | (with_reducible first | exact HI0.out | apply IsS41.alloc | apply IsS41.drewN | apply IsS41.drew | apply IsS41.set_1 | apply IsS41.set_2 | refine IsS41.far ?_ NB0_222.out _ | refine IsS41.far ?_ NB0_237.out _) | exact HI0.out)) (rU HO_3.out) (by decide)) hk (fun _ h => h.2)) (fun _ h => h.1))
              replace BK222 := Aside0.mk (KeepBut.blk hk (g' := gb222) (o := .cells #[.int .i64 x223000_27, .int .i64 x223001_27, .int .i64 x223002_27, .bool x223003_27] 24 (0, 0)) (bV BK222) NB222_0.out (by simp))
              replace HO229 := Aside0.mk (Kd.R_mono (Kd.R_keep (IsS41.apart (show IsS41 w0 _ g s0_0 t231 t232 from by repeat (first | (with_reducible first | exact HI0.out | apply IsS41.alloc | apply IsS41.drewN | apply IsS41.drew | apply IsS41.set_1 | apply IsS41.set_2 | refine IsS41.far ?_ NB0_222.out _ | refine IsS41.far ?_ NB0_237.out _) | exact HI0.out)) (rU HO229.out) (by decide)) hk (fun _ h => h.2)) (fun _ h => h.1))
              replace BK237 := Aside0.mk (KeepBut.blk hk (g' := gb237) (o := .cells #[.string (⟨#[]⟩ : ByteArray), .int .i64 0, .int .i64 0, .int .i64 0, .int .i64 0, .bool false] 36 (0, 0)) (bV BK237) NB237_0.out (by simp))
              replace HK := Aside0.mk (KeepBut.trans (by repeat (first | (with_reducible first | exact HK.out | apply KeepBut.set_ | apply keep_drewN | apply keep_drew | apply keep_alloc | refine keep_far ?_ GW222.out _ | refine keep_far ?_ GW237.out _) | exact HK.out)) hk (.inl rfl))
              replace HB := Aside0.mk hb
              replace HI0 := Aside0.mk hi
              (try clear hb)
              (try clear hb2)
              (try clear hk)
              (try clear hi)
              refine hK.out _ _ ⟨cz BK222 0 _, cz BK222 1 _, cz BK222 2 _, cz BK222 3 _⟩ (fun hHeld => ?_)
              clear hK K
              refine norm_ (a' := ?_) ?_ ?_
              rotate_left
              ·show Act.put _ (some 41) _ = _
               simp only [Act.put, List.setIfInBounds_toArray, List.set_cons_zero, List.set_cons_succ, i64_w, i32_w]
               rfl
              refine pureA 10 42 (bz 22 1572863) rfl rfl (any_of HT_.out (by kernel_rfl)) ?_
              refine pureA 19 51 (bz 22 2097151) rfl rfl (any_of HT_.out (by kernel_rfl)) ?_
              exact norm_ (by first | (simp only [putAll, Act.put, List.setIfInBounds_toArray, List.set_cons_zero, List.set_cons_succ]; done) | (simp only [putAll, Act.put, List.setIfInBounds_toArray, List.set_cons_zero, List.set_cons_succ]; rfl)) (hJ1_2_4_9_20 (v228, gb237) _ ⟨hHeld, (rU HO229.out), (rU HO_3.out), (bV BK222), (bV BK237), GW237.out, GE237.out, NB0_237.out, NB237_0.out, NB222_237.out, NB237_222.out, (by repeat (first | (with_reducible first | exact HI0.out | apply IsS41.alloc | apply IsS41.drewN | apply IsS41.drew | apply IsS41.set_1 | apply IsS41.set_2 | refine IsS41.far ?_ NB0_222.out _ | refine IsS41.far ?_ NB0_237.out _) | exact HI0.out)), (by repeat (first | (with_reducible first | exact HK.out | apply KeepBut.set_ | apply keep_drewN | apply keep_drew | apply keep_alloc | refine keep_far ?_ GW222.out _ | refine keep_far ?_ GW237.out _) | exact HK.out)), (by repeat (first | (with_reducible first | exact HB.out | apply below_alloc | apply pw_below_drewN | apply below_drew1 | refine below_set ?_ (IsS41.ge HI0.out) | refine below_set ?_ GE222.out | refine below_set ?_ GE237.out) | exact HB.out))⟩)
            ·skip
             rintro v228 w46 ⟨hS_, h0_, h1_, h2_, h3_, h4_, h5_⟩
             have HO229 : Aside0 (Kd.R Kd.string 9 w46 w.heap.size (fun _ => True) v228 y227) := ⟨h0_⟩
             replace HO_3 : Aside0 (Kd.R k36 36 w46 w.heap.size (fun _ => True) u3 x3_2) := ⟨h1_⟩
             replace BK222 : Aside0 (w46.heap[gb222]? = some (.cells #[.int .i64 x223000_27, .int .i64 x223001_27, .int .i64 x223002_27, .bool x223003_27] 24 (0, 0))) := ⟨h2_⟩
             replace HI0 : Aside0 (IsS41 w0 w46 g s0_0 t235 t236) := ⟨h3_⟩
             replace HK : Aside0 (KeepBut w w46 g none) := ⟨h4_⟩
             replace HB : Aside0 (Below w0.heap.size w0 w46) := ⟨h5_⟩
             clear h0_ h1_ h2_ h3_ h4_ h5_
             have hHeld : w46.cell? ⟨gb222, 0, none⟩ = some (.int .i64 x223000_27) ∧ w46.cell? ⟨gb222, 1, none⟩ = some (.int .i64 x223001_27) ∧ w46.cell? ⟨gb222, 2, none⟩ = some (.int .i64 x223002_27) ∧ w46.cell? ⟨gb222, 3, none⟩ = some (.bool x223003_27) := hS_
             refine norm_ (a' := ?_) ?_ ?_
             rotate_left
             ·simp only [putAll, Act.put, List.setIfInBounds_toArray, List.set_cons_zero, List.set_cons_succ]
              rfl
             refine one_ (i := 20) (N := some 7) (bz 22 2097151) rfl rfl (one_of HT_.out (by kernel_rfl)) (by decide) (fun K hK => ?_)
             refine box_step ?hg (N := 7) ?hd (cs := #[.string (⟨#[]⟩ : ByteArray), .int .i64 0, .int .i64 0, .int .i64 0, .int .i64 0, .bool false]) (t := 36) ?hr ?_; (case hd => rfl); (case hg => rfl); (case hr => exact sE)
             intro gb237 hg w47 hbox hb
             replace HO_3 := Aside0.mk (Kd.R_below (Kd.R_elderB (rU HO_3.out) gb237 (Nat.le_of_eq hg.symm)) hb)
             replace HO229 := Aside0.mk (Kd.R_below (rU HO229.out) hb)
             replace HB := Aside0.mk (below_step (by repeat (first | (with_reducible first | exact HB.out | apply below_alloc | apply pw_below_drewN | apply below_drew1 | refine below_set ?_ (IsS41.ge HI0.out) | refine below_set ?_ GE222.out) | exact HB.out)) hb)
             have BK237 := Aside0.mk hbox
             have GW237 := Aside0.mk ((by rw [hg]; exact (keep_size (w := w) (g := g) (row := none) (by repeat (first | (with_reducible first | exact HK.out | apply KeepBut.set_ | apply keep_drewN | apply keep_drew | apply keep_alloc | refine keep_far ?_ GW222.out _) | exact HK.out))) : w.heap.size ≤ gb237))
             have GE237 := Aside0.mk ((Nat.le_trans HW0.out (by rw [hg]; exact (keep_size (w := w) (g := g) (row := none) (by repeat (first | (with_reducible first | exact HK.out | apply KeepBut.set_ | apply keep_drewN | apply keep_drew | apply keep_alloc | refine keep_far ?_ GW222.out _) | exact HK.out))) : w.heap.size ≤ gb237) : w0.heap.size ≤ gb237))
             replace HK := Aside0.mk (KeepBut.trans (by repeat (first | (with_reducible first | exact HK.out | apply KeepBut.set_ | apply keep_drewN | apply keep_drew | apply keep_alloc | refine keep_far ?_ GW222.out _) | exact HK.out)) (KeepBut.of_below hb g none) (.inl rfl))
             have NB222_237 := nL hg (bV BK222)
             have NB237_222 := nG hg (bV BK222)
             replace BK222 := bB (bV BK222) hb
             have NB0_237 := Aside0.mk ((by rw [hg]; exact Nat.ne_of_lt (IsS41.lt (show IsS41 w0 _ g s0_0 t235 t236 from by repeat (first | (with_reducible first | exact HI0.out | apply IsS41.alloc | apply IsS41.drewN | apply IsS41.drew | apply IsS41.set_1 | apply IsS41.set_2 | refine IsS41.far ?_ NB0_222.out _) | exact HI0.out))) : g ≠ gb237))
             have NB237_0 := Aside0.mk ((by rw [hg]; exact Nat.ne_of_gt (IsS41.lt (show IsS41 w0 _ g s0_0 t235 t236 from by repeat (first | (with_reducible first | exact HI0.out | apply IsS41.alloc | apply IsS41.drewN | apply IsS41.drew | apply IsS41.set_1 | apply IsS41.set_2 | refine IsS41.far ?_ NB0_222.out _) | exact HI0.out))) : gb237 ≠ g))
             replace HI0 := Aside0.mk (IsS41.below (by repeat (first | (with_reducible first | exact HI0.out | apply IsS41.alloc | apply IsS41.drewN | apply IsS41.drew | apply IsS41.set_1 | apply IsS41.set_2 | refine IsS41.far ?_ NB0_222.out _) | exact HI0.out)) hb)
             clear hb hbox hg
             refine hK.out _ _ ⟨cz BK222 0 _, cz BK222 1 _, cz BK222 2 _, cz BK222 3 _⟩ (fun hHeld => ?_)
             clear hK K
             refine norm_ (a' := ?_) ?_ ?_
             rotate_left
             ·show Act.put _ (some 7) _ = _
              simp only [Act.put, List.setIfInBounds_toArray, List.set_cons_zero, List.set_cons_succ, i64_w, i32_w]
              rfl
             exact norm_ (by first | (simp only [putAll, Act.put, List.setIfInBounds_toArray, List.set_cons_zero, List.set_cons_succ]; done) | (simp only [putAll, Act.put, List.setIfInBounds_toArray, List.set_cons_zero, List.set_cons_succ]; rfl)) (hJ1_2_4_9_20 (v228, gb237) _ ⟨hHeld, (rU HO229.out), (by (with_reducible repeat (first | apply Kd.R_alloc | apply Kd.R_drewN | apply Kd.R_drew)); exact Kd.R_mono HO_3.out (fun _ hk => hk.2)), (bV BK222), (bV BK237), GW237.out, GE237.out, NB0_237.out, NB237_0.out, NB222_237.out, NB237_222.out, (by repeat (first | (with_reducible first | exact HI0.out | apply IsS41.alloc | apply IsS41.drewN | apply IsS41.drew | apply IsS41.set_1 | apply IsS41.set_2 | refine IsS41.far ?_ NB0_222.out _ | refine IsS41.far ?_ NB0_237.out _) | exact HI0.out)), (by repeat (first | (with_reducible first | exact HK.out | apply KeepBut.set_ | apply keep_drewN | apply keep_drew | apply keep_alloc | refine keep_far ?_ GW222.out _ | refine keep_far ?_ GW237.out _) | exact HK.out)), (by repeat (first | (with_reducible first | exact HB.out | apply below_alloc | apply pw_below_drewN | apply below_drew1 | refine below_set ?_ (IsS41.ge HI0.out) | refine below_set ?_ GE222.out | refine below_set ?_ GE237.out) | exact HB.out))⟩)
           rintro ⟨v228, gb237⟩ w47 ⟨hS_, h0_, h1_, h2_, h3_, h4_, h5_, h6_, h7_, h8_, h9_, h10_, h11_, h12_⟩
           have HO229 : Aside0 (Kd.R Kd.string 9 w47 w.heap.size (fun _ => True) v228 y227) := ⟨h0_⟩
           replace HO_3 : Aside0 (Kd.R k36 36 w47 w.heap.size (fun k_ => k_ ≠ gb237) u3 x3_2) := ⟨h1_⟩
           replace BK222 : Aside0 (w47.heap[gb222]? = some (.cells #[.int .i64 x223000_27, .int .i64 x223001_27, .int .i64 x223002_27, .bool x223003_27] 24 (0, 0))) := ⟨h2_⟩
           have BK237 : Aside0 (w47.heap[gb237]? = some (.cells #[.string (⟨#[]⟩ : ByteArray), .int .i64 0, .int .i64 0, .int .i64 0, .int .i64 0, .bool false] 36 (0, 0))) := ⟨h3_⟩
           have GW237 : Aside0 (w.heap.size ≤ gb237) := ⟨h4_⟩
           have GE237 : Aside0 (w0.heap.size ≤ gb237) := ⟨h5_⟩
           have NB0_237 : Aside0 (g ≠ gb237) := ⟨h6_⟩
           have NB237_0 : Aside0 (gb237 ≠ g) := ⟨h7_⟩
           have NB222_237 : Aside0 (gb222 ≠ gb237) := ⟨h8_⟩
           have NB237_222 : Aside0 (gb237 ≠ gb222) := ⟨h9_⟩
           replace HI0 : Aside0 (IsS41 w0 w47 g s0_0 t235 t236) := ⟨h10_⟩
           replace HK : Aside0 (KeepBut w w47 g none) := ⟨h11_⟩
           replace HB : Aside0 (Below w0.heap.size w0 w47) := ⟨h12_⟩
           clear h0_ h1_ h2_ h3_ h4_ h5_ h6_ h7_ h8_ h9_ h10_ h11_ h12_
           have hHeld : w47.cell? ⟨gb222, 0, none⟩ = some (.int .i64 x223000_27) ∧ w47.cell? ⟨gb222, 1, none⟩ = some (.int .i64 x223001_27) ∧ w47.cell? ⟨gb222, 2, none⟩ = some (.int .i64 x223002_27) ∧ w47.cell? ⟨gb222, 3, none⟩ = some (.bool x223003_27) := hS_
           refine norm_ (a' := ?_) ?_ ?_
           rotate_left
           ·simp only [putAll, Act.put, List.setIfInBounds_toArray, List.set_cons_zero, List.set_cons_succ]
            rfl
           refine one_ (i := 21) (N := none) (bz 22 4194303) rfl rfl (one_of HT_.out (by kernel_rfl)) (by decide) (fun K hK => ?_)
           have hs48 : w47.cell? ⟨gb237, 0, none⟩ = some (.string (⟨#[]⟩ : ByteArray)) := (blk_cell BK237.out 0).trans rfl
           have hfs48 := blk_frozen BK237.out 0
           have hns48_0 := NB222_237.out
           have hms48_0 := NB237_222.out
           have hs49 : w47.cell? ⟨gb237, 1, none⟩ = some (.int .i64 0) := (blk_cell BK237.out 1).trans rfl
           have hfs49 := blk_frozen BK237.out 1
           have hns49_0 := NB222_237.out
           have hms49_0 := NB237_222.out
           have hs50 : w47.cell? ⟨gb237, 2, none⟩ = some (.int .i64 0) := (blk_cell BK237.out 2).trans rfl
           have hfs50 := blk_frozen BK237.out 2
           have hns50_0 := NB222_237.out
           have hms50_0 := NB237_222.out
           have hs51 : w47.cell? ⟨gb237, 3, none⟩ = some (.int .i64 0) := (blk_cell BK237.out 3).trans rfl
           have hfs51 := blk_frozen BK237.out 3
           have hns51_0 := NB222_237.out
           have hms51_0 := NB237_222.out
           have hs52 : w47.cell? ⟨gb237, 4, none⟩ = some (.int .i64 0) := (blk_cell BK237.out 4).trans rfl
           have hfs52 := blk_frozen BK237.out 4
           have hns52_0 := NB222_237.out
           have hms52_0 := NB237_222.out
           have hs53 : w47.cell? ⟨gb237, 5, none⟩ = some (.bool false) := (blk_cell BK237.out 5).trans rfl
           have hfs53 := blk_frozen BK237.out 5
           have hns53_0 := NB222_237.out
           have hms53_0 := NB237_222.out
           refine skip_ (w1 := ?_) (by rfl) rfl ?_ ?_
           rotate_left
           ·go_simp
            rfl
           refine hK.out _ _ ⟨((cell_far (p := ⟨gb237, _, none⟩) NB222_237.out _).trans (((cell_far (p := ⟨gb237, _, none⟩) NB222_237.out _).trans (((cell_far (p := ⟨gb237, _, none⟩) NB222_237.out _).trans (((cell_far (p := ⟨gb237, _, none⟩) NB222_237.out _).trans (((cell_far (p := ⟨gb237, _, none⟩) NB222_237.out _).trans (((cell_far (p := ⟨gb237, _, none⟩) NB222_237.out _).trans (hHeld.1)))))))))))), ((cell_far (p := ⟨gb237, _, none⟩) NB222_237.out _).trans (((cell_far (p := ⟨gb237, _, none⟩) NB222_237.out _).trans (((cell_far (p := ⟨gb237, _, none⟩) NB222_237.out _).trans (((cell_far (p := ⟨gb237, _, none⟩) NB222_237.out _).trans (((cell_far (p := ⟨gb237, _, none⟩) NB222_237.out _).trans (((cell_far (p := ⟨gb237, _, none⟩) NB222_237.out _).trans (hHeld.2.1)))))))))))), ((cell_far (p := ⟨gb237, _, none⟩) NB222_237.out _).trans (((cell_far (p := ⟨gb237, _, none⟩) NB222_237.out _).trans (((cell_far (p := ⟨gb237, _, none⟩) NB222_237.out _).trans (((cell_far (p := ⟨gb237, _, none⟩) NB222_237.out _).trans (((cell_far (p := ⟨gb237, _, none⟩) NB222_237.out _).trans (((cell_far (p := ⟨gb237, _, none⟩) NB222_237.out _).trans (hHeld.2.2.1)))))))))))), ((cell_far (p := ⟨gb237, _, none⟩) NB222_237.out _).trans (((cell_far (p := ⟨gb237, _, none⟩) NB222_237.out _).trans (((cell_far (p := ⟨gb237, _, none⟩) NB222_237.out _).trans (((cell_far (p := ⟨gb237, _, none⟩) NB222_237.out _).trans (((cell_far (p := ⟨gb237, _, none⟩) NB222_237.out _).trans (((cell_far (p := ⟨gb237, _, none⟩) NB222_237.out _).trans (hHeld.2.2.2))))))))))))⟩ (fun hHeld => ?_)
           clear hK K
           refine done_ (done_of HT_.out (by kernel_rfl)) ?_
           go_upto_if 53 with (first | ((with_reducible refine gate_callee (f := 30) rfl ?_); refine goesL_ (some 53) rfl rfl Try.func30 (by kernel_rfl) rfl #[.pointer (some ⟨g, 0, none⟩), .int .i64 80] rfl aE ?_; (with_reducible refine (spec_l1Cur_one.calls g s0_0 t235 t236 80 t238 t239 t240 w0 _ ?side1 ?side2 A37.out).mono ?_); (case side1 => repeat (first | (with_reducible first | exact HI0.out | apply IsS41.alloc | apply IsS41.drewN | apply IsS41.drew | apply IsS41.set_1 | apply IsS41.set_2 | refine IsS41.far ?_ NB0_222.out _ | refine IsS41.far ?_ NB0_237.out _) | exact HI0.out)); (case side2 => repeat (first | (with_reducible first | exact HB.out | apply below_alloc | apply pw_below_drewN | apply below_drew1 | refine below_set ?_ (IsS41.ge HI0.out) | refine below_set ?_ GE222.out | refine below_set ?_ GE237.out) | exact HB.out)); rintro e w54 ⟨rfl, hi, hb, hk⟩; refine ⟨_, rfl, ?_⟩; replace HO_3 := Aside0.mk (Kd.R_mono (Kd.R_keep (IsS41.apart (show IsS41 w0 _ g s0_0 t235 t236 from by repeat (first | (with_reducible first | exact HI0.out | apply IsS41.alloc | apply IsS41.drewN | apply IsS41.drew | apply IsS41.set_1 | apply IsS41.set_2 | refine IsS41.far ?_ NB0_222.out _ | refine IsS41.far ?_ NB0_237.out _) | exact HI0.out)) (rU (Kd.R_mono (Kd.R_far (p := ⟨gb237, 5, none⟩) (Kd.R_far (p := ⟨gb237, 4, none⟩) (Kd.R_far (p := ⟨gb237, 3, none⟩) (Kd.R_far (p := ⟨gb237, 2, none⟩) (Kd.R_far (p := ⟨gb237, 1, none⟩) (Kd.R_far (p := ⟨gb237, 0, none⟩) (Kd.R_mono HO_3.out (fun k_ hk => (⟨hk, hk⟩ : _ ∧ k_ ≠ gb237))) (fun _ hk => hk.2) (.string (t230 ++ t233))) (fun _ hk => hk.2) (.int .i64 (wrap64 (t234 - 1)))) (fun _ hk => hk.2) (.int .i64 x223000_27)) (fun _ hk => hk.2) (.int .i64 x223001_27)) (fun _ hk => hk.2) (.int .i64 x223002_27)) (fun _ hk => hk.2) (.bool x223003_27)) (fun _ h_ => h_.1))) (by decide)) hk (fun _ h => h.2)) (fun _ h => h.1)); replace BK222 := Aside0.mk (KeepBut.blk hk (g' := gb222) (o := .cells #[.int .i64 x223000_27, .int .i64 x223001_27, .int .i64 x223002_27, .bool x223003_27] 24 (0, 0)) (bG NB222_237 BK222) NB222_0.out (by simp)); replace HO229 := Aside0.mk (Kd.R_mono (Kd.R_keep (IsS41.apart (show IsS41 w0 _ g s0_0 t235 t236 from by repeat (first | (with_reducible first | exact HI0.out | apply IsS41.alloc | apply IsS41.drewN | apply IsS41.drew | apply IsS41.set_1 | apply IsS41.set_2 | refine IsS41.far ?_ NB0_222.out _ | refine IsS41.far ?_ NB0_237.out _) | exact HI0.out)) (rU (Kd.R_mono (Kd.R_far (p := ⟨gb237, 5, none⟩) (Kd.R_far (p := ⟨gb237, 4, none⟩) (Kd.R_far (p := ⟨gb237, 3, none⟩) (Kd.R_far (p := ⟨gb237, 2, none⟩) (Kd.R_far (p := ⟨gb237, 1, none⟩) (Kd.R_far (p := ⟨gb237, 0, none⟩) (Kd.R_types HO229.out BK237.out (by decide)) (fun _ hk => hk.2) (.string (t230 ++ t233))) (fun _ hk => hk.2) (.int .i64 (wrap64 (t234 - 1)))) (fun _ hk => hk.2) (.int .i64 x223000_27)) (fun _ hk => hk.2) (.int .i64 x223001_27)) (fun _ hk => hk.2) (.int .i64 x223002_27)) (fun _ hk => hk.2) (.bool x223003_27)) (fun _ h_ => h_.1))) (by decide)) hk (fun _ h => h.2)) (fun _ h => h.1)); replace BK237 := Aside0.mk (KeepBut.blk hk (g' := gb237) (o := .cells #[.string (t230 ++ t233), .int .i64 (wrap64 (t234 - 1)), .int .i64 x223000_27, .int .i64 x223001_27, .int .i64 x223002_27, .bool x223003_27] 36 (0, 0)) (by refine bU ?_; refine blk_put (cs := #[.string (t230 ++ t233), .int .i64 (wrap64 (t234 - 1)), .int .i64 x223000_27, .int .i64 x223001_27, .int .i64 x223002_27, .bool false]) ?_ 5 _ rfl; refine bU ?_; refine blk_put (cs := #[.string (t230 ++ t233), .int .i64 (wrap64 (t234 - 1)), .int .i64 x223000_27, .int .i64 x223001_27, .int .i64 0, .bool false]) ?_ 4 _ rfl; refine bU ?_; refine blk_put (cs := #[.string (t230 ++ t233), .int .i64 (wrap64 (t234 - 1)), .int .i64 x223000_27, .int .i64 0, .int .i64 0, .bool false]) ?_ 3 _ rfl; refine bU ?_; refine blk_put (cs := #[.string (t230 ++ t233), .int .i64 (wrap64 (t234 - 1)), .int .i64 0, .int .i64 0, .int .i64 0, .bool false]) ?_ 2 _ rfl; refine bU ?_; refine blk_put (cs := #[.string (t230 ++ t233), .int .i64 0, .int .i64 0, .int .i64 0, .int .i64 0, .bool false]) ?_ 1 _ rfl; refine bU ?_; refine blk_put (cs := #[.string (⟨#[]⟩ : ByteArray), .int .i64 0, .int .i64 0, .int .i64 0, .int .i64 0, .bool false]) ?_ 0 _ rfl; refine bU ?_; exact BK237.out) NB237_0.out (by simp)); replace HK := Aside0.mk (KeepBut.trans (by repeat (first | (with_reducible first | exact HK.out | apply KeepBut.set_ | apply keep_drewN | apply keep_drew | apply keep_alloc | refine keep_far ?_ GW222.out _ | refine keep_far ?_ GW237.out _) | exact HK.out)) hk (.inl rfl)); replace HB := Aside0.mk hb; replace HI0 := Aside0.mk hi; (try clear hb); (try clear hk); (try clear hi)))
           (try simp only [Act.put, List.setIfInBounds_toArray, List.set_cons_zero, List.set_cons_succ])
           go_cut [] (fun wc => ∃ (kq : Nat) (x1001_37 : Int) (x1002_37 : Int) (x238000_37 : ByteArray), Aside0 (spec_l1Cur_scene.j4 kq x3_2 x4_3 x5_2 s0_0 x1001_37 x1002_37 x238000_37 (wrap64 (t234 - 1)) x223000_27 x223001_27 x223002_27 x223003_27 = some (r1, r2, r3)) ∧ Aside0 (kq ≤ kj27) ∧ Aside0 (Kd.R k36 36 wc w.heap.size (fun k_ => k_ ≠ gb237) u3 x3_2) ∧ Aside0 (wc.heap[gb222]? = some (.cells #[.int .i64 x223000_27, .int .i64 x223001_27, .int .i64 x223002_27, .bool x223003_27] 24 (0, 0))) ∧ Aside0 (wc.heap[gb237]? = some (.cells #[.string x238000_37, .int .i64 (wrap64 (t234 - 1)), .int .i64 x223000_27, .int .i64 x223001_27, .int .i64 x223002_27, .bool x223003_27] 36 (0, 0))) ∧ Aside0 (IsS41 w0 wc g s0_0 x1001_37 x1002_37) ∧ Aside0 (KeepBut w wc g none) ∧ Aside0 (Below w0.heap.size w0 wc))
           case first =>
            have H := HC38.out
            clear HC38
            by_cases c55 : t238 = true
            ·subst c55
             have H1 : ((spec_l1Cur_of.f s0_0 t239 t240 (([(⟨#[]⟩ : ByteArray), (⟨#[97, 48]⟩ : ByteArray), (⟨#[98, 49]⟩ : ByteArray)] : List ByteArray))).bind fun bt244 => (spec_l1Cur_scene.j4 kj27 x3_2 x4_3 x5_2 s0_0 bt244.2.1 bt244.2.2 bt244.1 (wrap64 (t234 - 1)) x223000_27 x223001_27 x223002_27 x223003_27)) = some (r1, r2, r3) := by rw [if_pos rfl] at H; exact H
             clear H
             have H := H1
             clear H1
             obtain ⟨y241, hy241⟩ : ∃ y_ : List ByteArray, y_ = (([(⟨#[]⟩ : ByteArray), (⟨#[97, 48]⟩ : ByteArray), (⟨#[98, 49]⟩ : ByteArray)] : List ByteArray)) := ⟨_, rfl⟩
             replace H : ((spec_l1Cur_of.f s0_0 t239 t240 y241).bind fun bt244 => (spec_l1Cur_scene.j4 kj27 x3_2 x4_3 x5_2 s0_0 bt244.2.1 bt244.2.2 bt244.1 (wrap64 (t234 - 1)) x223000_27 x223001_27 x223002_27 x223003_27)) = some (r1, r2, r3) := by first | (rw [hy241]; with_reducible exact H) | (have H2_ := (Option.bind_some _ _).symm.trans H; rw [hy241]; with_reducible exact H2_) | (have H2_ := (Option.bind_some _ _).symm.trans H; with_reducible exact H2_) | with_reducible exact H | (rw [hy241]; exact H) | exact H
             have Ny241 := Aside0.mk hy241
             clear hy241
             replace H := Option.bind_eq_some_iff.mp H
             obtain ⟨⟨t244, t245, t246⟩, A560, H⟩ := H
             replace H : (spec_l1Cur_scene.j4 kj27 x3_2 x4_3 x5_2 s0_0 t245 t246 t244 (wrap64 (t234 - 1)) x223000_27 x223001_27 x223002_27 x223003_27) = some (r1, r2, r3) := H
             have A56 := Aside0.mk A560
             clear A560
             have H' := Aside0.mk H
             clear H
             go_wp2_with (first | ((with_reducible refine gate_dst (N := 55) rfl ?_); refine Kd.R_lit Kd.string _ 9 ?hg (N := 55) ?hd (xs := ([(⟨#[]⟩ : ByteArray), (⟨#[97, 48]⟩ : ByteArray), (⟨#[98, 49]⟩ : ByteArray)] : List ByteArray)) (inner := [.string (⟨#[]⟩ : ByteArray), .string (⟨#[97, 48]⟩ : ByteArray), .string (⟨#[98, 49]⟩ : ByteArray)]) (ok := fun _ => True) (okp := fun _ => True) ?hr ?hp (fun _ hk => hk) trivial (Below.refl _ _) (Nat.le_refl _) (by simp) ?_; (case hd => rfl); (case hg => rfl); (case hr => exact sE); (case hp => exact (Reps.one (show Kd.M Kd.string _ _ _ (⟨#[]⟩ : ByteArray) [.string (⟨#[]⟩ : ByteArray)] from rfl) (Reps.one (show Kd.M Kd.string _ _ _ (⟨#[97, 48]⟩ : ByteArray) [.string (⟨#[97, 48]⟩ : ByteArray)] from rfl) (Reps.one (show Kd.M Kd.string _ _ _ (⟨#[98, 49]⟩ : ByteArray) [.string (⟨#[98, 49]⟩ : ByteArray)] from rfl) (Reps.none _ _))))); intro v242 w57 ho58 hb hg_ hnew_; clear hg_ hnew_; (first | rw [← Ny241.out] at ho58 | (simp only [Int.reduceToNat] at ho58; rw [← Ny241.out] at ho58)); replace HO_3 := Aside0.mk (Kd.R_below (rU HO_3.out) hb); have HO243 := Aside0.mk (Kd.R_lower (Kd.R_new' ho58 (Kd.R_lt (rU HO229.out))) (keep_size (w := w) (g := g) (row := none) (by repeat (first | (with_reducible first | exact HK.out | apply KeepBut.set_ | apply keep_drewN | apply keep_drew | apply keep_alloc | refine keep_far ?_ GW222.out _ | refine keep_far ?_ GW237.out _) | exact HK.out)))); replace HO229 := Aside0.mk (Kd.R_elder' (rU HO229.out) (Kd.R_base ho58) hb); replace BK222 := bB (bV BK222) hb; replace BK237 := bB (bV BK237) hb; replace HK := Aside0.mk (KeepBut.trans (by repeat (first | (with_reducible first | exact HK.out | apply KeepBut.set_ | apply keep_drewN | apply keep_drew | apply keep_alloc | refine keep_far ?_ GW222.out _ | refine keep_far ?_ GW237.out _) | exact HK.out)) (KeepBut.of_below hb g none) (.inl rfl)); replace HB := Aside0.mk (below_step (by repeat (first | (with_reducible first | exact HB.out | apply below_alloc | apply pw_below_drewN | apply below_drew1 | refine below_set ?_ (IsS41.ge HI0.out) | refine below_set ?_ GE222.out | refine below_set ?_ GE237.out) | exact HB.out)) hb); replace HI0 := Aside0.mk (IsS41.below (by repeat (first | (with_reducible first | exact HI0.out | apply IsS41.alloc | apply IsS41.drewN | apply IsS41.drew | apply IsS41.set_1 | apply IsS41.set_2 | refine IsS41.far ?_ NB0_222.out _ | refine IsS41.far ?_ NB0_237.out _) | exact HI0.out)) hb); clear hb ho58; obtain ⟨Ao59, co59, eo59⟩ := Kd.R_slice HO243.out; subst eo59) | ((with_reducible refine gate_callee (f := 41) rfl ?_); refine goesL_ (some 56) rfl rfl Try.func41 (by kernel_rfl) rfl #[.pointer (some ⟨g, 0, none⟩), .slice Ao59 y241.length co59] rfl aE ?_; (with_reducible refine (spec_l1Cur_of.calls g s0_0 t239 t240 _ _ y241 t244 t245 t246 w0 _ ?side1 ?side2 ?side3 ?side4 ?side5 A56.out).mono ?_); (case side1 => repeat (first | (with_reducible first | exact HI0.out | apply IsS41.alloc | apply IsS41.drewN | apply IsS41.drew | apply IsS41.set_1 | apply IsS41.set_2 | refine IsS41.far ?_ NB0_222.out _ | refine IsS41.far ?_ NB0_237.out _) | exact HI0.out)); (case side2 => repeat (first | (with_reducible first | exact HB.out | apply below_alloc | apply pw_below_drewN | apply below_drew1 | refine below_set ?_ (IsS41.ge HI0.out) | refine below_set ?_ GE222.out | refine below_set ?_ GE237.out) | exact HB.out)); (case side3 => exact cU (Kd.R_reads' HO243.out).2.2); (case side4 => exact (Kd.R_reads' HO243.out).2.1); (case side5 => exact far_slice (IsS41.own_ne HI0.out HO243.out (by decide))); rintro e w60 ⟨rfl, hi, hb, hk⟩; refine ⟨_, rfl, ?_⟩; replace HO_3 := Aside0.mk (Kd.R_mono (Kd.R_keep (IsS41.apart (show IsS41 w0 _ g s0_0 t239 t240 from by repeat (first | (with_reducible first | exact HI0.out | apply IsS41.alloc | apply IsS41.drewN | apply IsS41.drew | apply IsS41.set_1 | apply IsS41.set_2 | refine IsS41.far ?_ NB0_222.out _ | refine IsS41.far ?_ NB0_237.out _) | exact HI0.out)) (rU HO_3.out) (by decide)) hk (fun _ h => h.2)) (fun _ h => h.1)); replace BK222 := Aside0.mk (KeepBut.blk hk (g' := gb222) (o := .cells #[.int .i64 x223000_27, .int .i64 x223001_27, .int .i64 x223002_27, .bool x223003_27] 24 (0, 0)) (bV BK222) NB222_0.out (by simp)); replace HO229 := Aside0.mk (Kd.R_mono (Kd.R_keep (IsS41.apart (show IsS41 w0 _ g s0_0 t239 t240 from by repeat (first | (with_reducible first | exact HI0.out | apply IsS41.alloc | apply IsS41.drewN | apply IsS41.drew | apply IsS41.set_1 | apply IsS41.set_2 | refine IsS41.far ?_ NB0_222.out _ | refine IsS41.far ?_ NB0_237.out _) | exact HI0.out)) (rU HO229.out) (by decide)) hk (fun _ h => h.2)) (fun _ h => h.1)); replace BK237 := Aside0.mk (KeepBut.blk hk (g' := gb237) (o := .cells #[.string (t230 ++ t233), .int .i64 (wrap64 (t234 - 1)), .int .i64 x223000_27, .int .i64 x223001_27, .int .i64 x223002_27, .bool x223003_27] 36 (0, 0)) (bV BK237) NB237_0.out (by simp)); replace HO243 := Aside0.mk (Kd.R_mono (Kd.R_keep (IsS41.apart (show IsS41 w0 _ g s0_0 t239 t240 from by repeat (first | (with_reducible first | exact HI0.out | apply IsS41.alloc | apply IsS41.drewN | apply IsS41.drew | apply IsS41.set_1 | apply IsS41.set_2 | refine IsS41.far ?_ NB0_222.out _ | refine IsS41.far ?_ NB0_237.out _) | exact HI0.out)) (rU HO243.out) (by decide)) hk (fun _ h => h.2)) (fun _ h => h.1)); replace HK := Aside0.mk (KeepBut.trans (by repeat (first | (with_reducible first | exact HK.out | apply KeepBut.set_ | apply keep_drewN | apply keep_drew | apply keep_alloc | refine keep_far ?_ GW222.out _ | refine keep_far ?_ GW237.out _) | exact HK.out)) hk (.inl rfl)); replace HB := Aside0.mk hb; replace HI0 := Aside0.mk hi; (try clear hb); (try clear hk); (try clear hi); have hnb61 := NB237_222.out; have hnc61 := NB222_237.out; have hnb62 := NB237_0.out; have hnc62 := NB0_237.out; have hcz63_0 := cz BK237 0 (.string (t230 ++ t233)); have hcz63_1 := cz BK237 1 (.int .i64 (wrap64 (t234 - 1))); have hcz63_2 := cz BK237 2 (.int .i64 x223000_27); have hcz63_3 := cz BK237 3 (.int .i64 x223001_27); have hcz63_4 := cz BK237 4 (.int .i64 x223002_27); have hcz63_5 := cz BK237 5 (.bool x223003_27); have hfz63_0 := fz BK237 0; have hfz63_1 := fz BK237 1; have hfz63_2 := fz BK237 2; have hfz63_3 := fz BK237 3; have hfz63_4 := fz BK237 4; have hfz63_5 := fz BK237 5) | ((with_reducible refine gate_store (t := 9) (p := 57) rfl ?_); refine store_event (t := 9) (p := 57) (v := ?vo_w64) (w1 := (w60.setCell ⟨gb237, 0, none⟩ (.string t244))) ?hg ?ho ?hn ?hr ?_; (case ho => rfl); (case hg => rfl); (case hn => rfl); (case hr => first | (go_simp; done) | (go_simp; rfl) | (have hq0_ := (blk_cell BK237.out 0).trans (show _ = some _ from rfl); have hf0_ := blk_frozen BK237.out 0; first | (go_simp; done) | (go_simp; rfl))); intro w64 hw; replace HO_3 : Aside0 (Kd.R k36 36 w64 w.heap.size (fun k_ => k_ ≠ gb237) u3 x3_2) := ⟨(by rw [hw]; exact (by (with_reducible repeat (first | apply Kd.R_alloc | apply Kd.R_drewN | apply Kd.R_drew)); exact Kd.R_mono (Kd.R_far (p := ⟨gb237, 0, none⟩) (Kd.R_mono HO_3.out (fun k_ hk => (⟨hk, hk⟩ : _ ∧ k_ ≠ gb237))) (fun _ hk => hk.2) (.string t244)) (fun _ hk => hk.1)))⟩; replace HO229 : Aside0 (Kd.R Kd.string 9 w64 w.heap.size (fun k_ => some k_ ≠ (.slice Ao59 y241.length co59 : Value).ownBlock) v228 y227) := ⟨(by rw [hw]; exact (by (with_reducible repeat (first | apply Kd.R_alloc | apply Kd.R_drewN | apply Kd.R_drew)); exact Kd.R_mono (Kd.R_far (p := ⟨gb237, 0, none⟩) (Kd.R_types HO229.out BK237.out (by decide)) (fun _ hk => hk.2) (.string t244)) (fun _ hk => hk.1.2)))⟩; replace HO243 : Aside0 (Kd.R Kd.string 9 w64 w.heap.size (fun k_ => some k_ ≠ (v228 : Value).ownBlock) (.slice Ao59 y241.length co59) y241) := ⟨(by rw [hw]; exact (by (with_reducible repeat (first | apply Kd.R_alloc | apply Kd.R_drewN | apply Kd.R_drew)); exact Kd.R_mono (Kd.R_far (p := ⟨gb237, 0, none⟩) (Kd.R_types HO243.out BK237.out (by decide)) (fun _ hk => hk.2) (.string t244)) (fun _ hk => hk.1.2)))⟩; replace BK222 : Aside0 (w64.heap[gb222]? = some (.cells #[.int .i64 x223000_27, .int .i64 x223001_27, .int .i64 x223002_27, .bool x223003_27] 24 (0, 0))) := ⟨(by rw [hw]; exact (bG NB222_237 BK222))⟩; replace BK237 : Aside0 (w64.heap[gb237]? = some (.cells #[.string t244, .int .i64 (wrap64 (t234 - 1)), .int .i64 x223000_27, .int .i64 x223001_27, .int .i64 x223002_27, .bool x223003_27] 36 (0, 0))) := ⟨(by rw [hw]; exact (by refine bU ?_; refine blk_put (cs := #[.string (t230 ++ t233), .int .i64 (wrap64 (t234 - 1)), .int .i64 x223000_27, .int .i64 x223001_27, .int .i64 x223002_27, .bool x223003_27]) ?_ 0 _ rfl; refine bU ?_; exact BK237.out))⟩; replace HK : Aside0 (KeepBut w w64 g none) := ⟨(by rw [hw]; exact (by repeat (first | (with_reducible first | exact HK.out | apply KeepBut.set_ | apply keep_drewN | apply keep_drew | apply keep_alloc | refine keep_far ?_ GW222.out _ | refine keep_far ?_ GW237.out _) | exact HK.out)))⟩; replace HB : Aside0 (Below w0.heap.size w0 w64) := ⟨(by rw [hw]; exact (by repeat (first | (with_reducible first | exact HB.out | apply below_alloc | apply pw_below_drewN | apply below_drew1 | refine below_set ?_ (IsS41.ge HI0.out) | refine below_set ?_ GE222.out | refine below_set ?_ GE237.out) | exact HB.out)))⟩; replace HI0 : Aside0 (IsS41 w0 w64 g s0_0 t245 t246) := ⟨(by rw [hw]; exact (by repeat (first | (with_reducible first | exact HI0.out | apply IsS41.alloc | apply IsS41.drewN | apply IsS41.drew | apply IsS41.set_1 | apply IsS41.set_2 | refine IsS41.far ?_ NB0_222.out _ | refine IsS41.far ?_ NB0_237.out _) | exact HI0.out)))⟩; clear hw))
             go_meet
             case rel => exact ⟨_, (t245), (t246), (t244), H', ⟨by have := HJ3.out; have := HK2.out; have := HJ11.out; have := HJ27.out; first | omega | exact Nat.le_refl _⟩, ⟨by (with_reducible repeat (first | apply Kd.R_alloc | apply Kd.R_drewN | apply Kd.R_drew)); exact HO_3.out⟩, ⟨by refine bU ?_; exact BK222.out⟩, ⟨by refine bU ?_; exact BK237.out⟩, ⟨by repeat (first | (with_reducible first | exact HI0.out | apply IsS41.alloc | apply IsS41.drewN | apply IsS41.drew | apply IsS41.set_1 | apply IsS41.set_2 | refine IsS41.far ?_ NB0_222.out _ | refine IsS41.far ?_ NB0_237.out _) | exact HI0.out)⟩, ⟨by repeat (first | (with_reducible first | exact HK.out | apply KeepBut.set_ | apply keep_drewN | apply keep_drew | apply keep_alloc | refine keep_far ?_ GW222.out _ | refine keep_far ?_ GW237.out _) | exact HK.out)⟩, ⟨by repeat (first | (with_reducible first | exact HB.out | apply below_alloc | apply pw_below_drewN | apply below_drew1 | refine below_set ?_ (IsS41.ge HI0.out) | refine below_set ?_ GE222.out | refine below_set ?_ GE237.out) | exact HB.out)⟩⟩
            ·replace c55 := Bool.eq_false_iff.mpr c55
             subst c55
             have H1 : (spec_l1Cur_scene.j4 kj27 x3_2 x4_3 x5_2 s0_0 t239 t240 (t230 ++ t233) (wrap64 (t234 - 1)) x223000_27 x223001_27 x223002_27 x223003_27) = some (r1, r2, r3) := by rw [if_neg (show ¬ (false = true) by decide)] at H; exact H
             clear H
             have H := H1
             clear H1
             have H' := Aside0.mk H
             clear H
             go_wp2
             go_meet
             case rel => exact ⟨_, (t239), (t240), (t230 ++ t233), H', ⟨by have := HJ3.out; have := HK2.out; have := HJ11.out; have := HJ27.out; first | omega | exact Nat.le_refl _⟩, ⟨by (with_reducible repeat (first | apply Kd.R_alloc | apply Kd.R_drewN | apply Kd.R_drew)); exact HO_3.out⟩, ⟨by refine bU ?_; exact BK222.out⟩, ⟨by refine bU ?_; exact BK237.out⟩, ⟨by repeat (first | (with_reducible first | exact HI0.out | apply IsS41.alloc | apply IsS41.drewN | apply IsS41.drew | apply IsS41.set_1 | apply IsS41.set_2 | refine IsS41.far ?_ NB0_222.out _ | refine IsS41.far ?_ NB0_237.out _) | exact HI0.out)⟩, ⟨by repeat (first | (with_reducible first | exact HK.out | apply KeepBut.set_ | apply keep_drewN | apply keep_drew | apply keep_alloc | refine keep_far ?_ GW222.out _ | refine keep_far ?_ GW237.out _) | exact HK.out)⟩, ⟨by repeat (first | (with_reducible first | exact HB.out | apply below_alloc | apply pw_below_drewN | apply below_drew1 | refine below_set ?_ (IsS41.ge HI0.out) | refine below_set ?_ GE222.out | refine below_set ?_ GE237.out) | exact HB.out)⟩⟩
           case rest =>
            clear HC38
            try clear c1
            try clear p2
            try clear c3
            try clear c4
            try clear c5
            try clear c6
            try clear p6
            try clear c18
            try clear c30
            try clear c41
            try clear c42
            try clear c55
            try clear c61
            try clear c62
            try clear p64
            try clear hcz63_0
            try clear hcz63_1
            try clear hcz63_2
            try clear hcz63_3
            try clear hcz63_4
            try clear hcz63_5
            try clear hfz63_0
            try clear hfz63_1
            try clear hfz63_2
            try clear hfz63_3
            try clear hfz63_4
            try clear hfz63_5
            obtain ⟨kq, x1001_37, x1002_37, x238000_37, HA, HJ37, HO_3, BK222, BK237, HI0, HK, HB⟩ := hcut
            cases kq with
            | zero => exact absurd HA.out (by simp [spec_l1Cur_scene.j4])
            | succ kj37 =>
             have H := HA.out
             clear HA
             simp only [spec_l1Cur_scene.j4] at H
             replace H := Option.bind_eq_some_iff.mp H
             obtain ⟨⟨t247, t248, t249⟩, A650, H⟩ := H
             replace H : (if t247 = true then ((spec_l1Cur_among.f s0_0 t248 t249 (([(-2), x5_2] : List Int))).bind fun bt253 => (if x3_2.length < 2513169434916 then (spec_l1Cur_scene.l0 kj37 (x3_2 ++ [(⟨x238000_37, bt253.1, x223000_27, x223001_27, x223002_27, x223003_27⟩ : S36)]) x4_3 (wrap64 (x5_2 + 1)) s0_0 bt253.2.1 bt253.2.2) else (none))) else (if x3_2.length < 2513169434916 then (spec_l1Cur_scene.l0 kj37 (x3_2 ++ [(⟨x238000_37, (wrap64 (t234 - 1)), x223000_27, x223001_27, x223002_27, x223003_27⟩ : S36)]) x4_3 (wrap64 (x5_2 + 1)) s0_0 t248 t249) else (none))) = some (r1, r2, r3) := H
             have A65 := Aside0.mk A650
             clear A650
             by_cases c66 : t247 = true
             ·subst c66
              have H1 : ((spec_l1Cur_among.f s0_0 t248 t249 (([(-2), x5_2] : List Int))).bind fun bt253 => (if x3_2.length < 2513169434916 then (spec_l1Cur_scene.l0 kj37 (x3_2 ++ [(⟨x238000_37, bt253.1, x223000_27, x223001_27, x223002_27, x223003_27⟩ : S36)]) x4_3 (wrap64 (x5_2 + 1)) s0_0 bt253.2.1 bt253.2.2) else (none))) = some (r1, r2, r3) := by rw [if_pos rfl] at H; exact H
              clear H
              have H := H1
              clear H1
              obtain ⟨y250, hy250⟩ : ∃ y_ : List Int, y_ = (([(-2), x5_2] : List Int)) := ⟨_, rfl⟩
              replace H : ((spec_l1Cur_among.f s0_0 t248 t249 y250).bind fun bt253 => (if x3_2.length < 2513169434916 then (spec_l1Cur_scene.l0 kj37 (x3_2 ++ [(⟨x238000_37, bt253.1, x223000_27, x223001_27, x223002_27, x223003_27⟩ : S36)]) x4_3 (wrap64 (x5_2 + 1)) s0_0 bt253.2.1 bt253.2.2) else (none))) = some (r1, r2, r3) := by first | (rw [hy250]; with_reducible exact H) | (have H2_ := (Option.bind_some _ _).symm.trans H; rw [hy250]; with_reducible exact H2_) | (have H2_ := (Option.bind_some _ _).symm.trans H; with_reducible exact H2_) | with_reducible exact H | (rw [hy250]; exact H) | exact H
              have Ny250 := Aside0.mk hy250
              clear hy250
              replace H := Option.bind_eq_some_iff.mp H
              obtain ⟨⟨t253, t254, t255⟩, A670, H⟩ := H
              replace H : (if x3_2.length < 2513169434916 then (spec_l1Cur_scene.l0 kj37 (x3_2 ++ [(⟨x238000_37, t253, x223000_27, x223001_27, x223002_27, x223003_27⟩ : S36)]) x4_3 (wrap64 (x5_2 + 1)) s0_0 t254 t255) else (none)) = some (r1, r2, r3) := H
              have A67 := Aside0.mk A670
              clear A670
              by_cases c68 : x3_2.length < 2513169434916
              ·rw [if_pos c68] at H
               have LMc68 := Aside0.mk c68
               clear c68
               obtain ⟨y256, hy256⟩ : ∃ y_ : List (S36), y_ = (x3_2 ++ [(⟨x238000_37, t253, x223000_27, x223001_27, x223002_27, x223003_27⟩ : S36)]) := ⟨_, rfl⟩
               replace H : (spec_l1Cur_scene.l0 kj37 y256 x4_3 (wrap64 (x5_2 + 1)) s0_0 t254 t255) = some (r1, r2, r3) := by first | (rw [hy256]; with_reducible exact H) | (have H2_ := (Option.bind_some _ _).symm.trans H; rw [hy256]; with_reducible exact H2_) | (have H2_ := (Option.bind_some _ _).symm.trans H; with_reducible exact H2_) | with_reducible exact H | (rw [hy256]; exact H) | exact H
               have Ny256 := Aside0.mk hy256
               clear hy256
               have H' := Aside0.mk H
               clear H
               go_wp2_with (first | ((with_reducible refine gate_callee (f := 30) rfl ?_); refine goesL_ (some 59) rfl rfl Try.func30 (by kernel_rfl) rfl #[.pointer (some ⟨g, 0, none⟩), .int .i64 80] rfl aE ?_; (with_reducible refine (spec_l1Cur_one.calls g s0_0 x1001_37 x1002_37 80 true t248 t249 w0 _ ?side1 ?side2 A65.out).mono ?_); (case side1 => repeat (first | (with_reducible first | exact HI0.out | apply IsS41.alloc | apply IsS41.drewN | apply IsS41.drew | apply IsS41.set_1 | apply IsS41.set_2 | refine IsS41.far ?_ NB0_222.out _ | refine IsS41.far ?_ NB0_237.out _) | exact HI0.out)); (case side2 => repeat (first | (with_reducible first | exact HB.out | apply below_alloc | apply pw_below_drewN | apply below_drew1 | refine below_set ?_ (IsS41.ge HI0.out) | refine below_set ?_ GE222.out | refine below_set ?_ GE237.out) | exact HB.out)); rintro e w69 ⟨rfl, hi, hb, hk⟩; refine ⟨_, rfl, ?_⟩; replace HO_3 := Aside0.mk (Kd.R_mono (Kd.R_keep (IsS41.apart (show IsS41 w0 _ g s0_0 x1001_37 x1002_37 from by repeat (first | (with_reducible first | exact HI0.out | apply IsS41.alloc | apply IsS41.drewN | apply IsS41.drew | apply IsS41.set_1 | apply IsS41.set_2 | refine IsS41.far ?_ NB0_222.out _ | refine IsS41.far ?_ NB0_237.out _) | exact HI0.out)) (rU HO_3.out) (by decide)) hk (fun _ h => h.2)) (fun _ h => h.1)); replace BK222 := Aside0.mk (KeepBut.blk hk (g' := gb222) (o := .cells #[.int .i64 x223000_27, .int .i64 x223001_27, .int .i64 x223002_27, .bool x223003_27] 24 (0, 0)) (bV BK222) NB222_0.out (by simp)); replace BK237 := Aside0.mk (KeepBut.blk hk (g' := gb237) (o := .cells #[.string x238000_37, .int .i64 (wrap64 (t234 - 1)), .int .i64 x223000_27, .int .i64 x223001_27, .int .i64 x223002_27, .bool x223003_27] 36 (0, 0)) (bV BK237) NB237_0.out (by simp)); replace HK := Aside0.mk (KeepBut.trans (by repeat (first | (with_reducible first | exact HK.out | apply KeepBut.set_ | apply keep_drewN | apply keep_drew | apply keep_alloc | refine keep_far ?_ GW222.out _ | refine keep_far ?_ GW237.out _) | exact HK.out)) hk (.inl rfl)); replace HB := Aside0.mk hb; replace HI0 := Aside0.mk hi; (try clear hb); (try clear hk); (try clear hi)) | ((with_reducible refine gate_dst (N := 62) rfl ?_); refine Kd.R_lit (Kd.int .i64) _ 3 ?hg (N := 62) ?hd (xs := ([(-2), x5_2] : List Int)) (inner := [.int .i64 (-2), .int .i64 x5_2]) (ok := fun _ => True) (okp := fun _ => True) ?hr ?hp (fun _ hk => hk) trivial (Below.refl _ _) (Nat.le_refl _) (by simp) ?_; (case hd => rfl); (case hg => rfl); (case hr => exact sE); (case hp => exact (Reps.one (show Kd.M (Kd.int .i64) _ _ _ (-2) [.int .i64 (-2)] from rfl) (Reps.one (show Kd.M (Kd.int .i64) _ _ _ x5_2 [.int .i64 x5_2] from rfl) (Reps.none _ _)))); intro v251 w70 ho71 hb hg_ hnew_; clear hg_ hnew_; (first | rw [← Ny250.out] at ho71 | (simp only [Int.reduceToNat] at ho71; rw [← Ny250.out] at ho71)); replace HO_3 := Aside0.mk (Kd.R_below (rU HO_3.out) hb); have HO252 := Aside0.mk (Kd.R_lower ho71 (keep_size (w := w) (g := g) (row := none) (by repeat (first | (with_reducible first | exact HK.out | apply KeepBut.set_ | apply keep_drewN | apply keep_drew | apply keep_alloc | refine keep_far ?_ GW222.out _ | refine keep_far ?_ GW237.out _) | exact HK.out)))); replace BK222 := bB (bV BK222) hb; replace BK237 := bB (bV BK237) hb; replace HK := Aside0.mk (KeepBut.trans (by repeat (first | (with_reducible first | exact HK.out | apply KeepBut.set_ | apply keep_drewN | apply keep_drew | apply keep_alloc | refine keep_far ?_ GW222.out _ | refine keep_far ?_ GW237.out _) | exact HK.out)) (KeepBut.of_below hb g none) (.inl rfl)); replace HB := Aside0.mk (below_step (by repeat (first | (with_reducible first | exact HB.out | apply below_alloc | apply pw_below_drewN | apply below_drew1 | refine below_set ?_ (IsS41.ge HI0.out) | refine below_set ?_ GE222.out | refine below_set ?_ GE237.out) | exact HB.out)) hb); replace HI0 := Aside0.mk (IsS41.below (by repeat (first | (with_reducible first | exact HI0.out | apply IsS41.alloc | apply IsS41.drewN | apply IsS41.drew | apply IsS41.set_1 | apply IsS41.set_2 | refine IsS41.far ?_ NB0_222.out _ | refine IsS41.far ?_ NB0_237.out _) | exact HI0.out)) hb); clear hb ho71; obtain ⟨Ao72, co72, eo72⟩ := Kd.R_slice HO252.out; subst eo72) | ((with_reducible refine gate_callee (f := 31) rfl ?_); refine goesL_ (some 63) rfl rfl Try.func31 (by kernel_rfl) rfl #[.pointer (some ⟨g, 0, none⟩), .slice Ao72 y250.length co72] rfl aE ?_; (with_reducible refine (spec_l1Cur_among.calls g s0_0 t248 t249 _ _ y250 t253 t254 t255 w0 _ ?side1 ?side2 ?side3 ?side4 ?side5 A67.out).mono ?_); (case side1 => repeat (first | (with_reducible first | exact HI0.out | apply IsS41.alloc | apply IsS41.drewN | apply IsS41.drew | apply IsS41.set_1 | apply IsS41.set_2 | refine IsS41.far ?_ NB0_222.out _ | refine IsS41.far ?_ NB0_237.out _) | exact HI0.out)); (case side2 => repeat (first | (with_reducible first | exact HB.out | apply below_alloc | apply pw_below_drewN | apply below_drew1 | refine below_set ?_ (IsS41.ge HI0.out) | refine below_set ?_ GE222.out | refine below_set ?_ GE237.out) | exact HB.out)); (case side3 => exact cU (Kd.R_reads' HO252.out).2.2); (case side4 => exact (Kd.R_reads' HO252.out).2.1); (case side5 => exact far_slice (IsS41.own_ne HI0.out HO252.out (by decide))); rintro e w73 ⟨rfl, hi, hb, hk⟩; refine ⟨_, rfl, ?_⟩; replace HO_3 := Aside0.mk (Kd.R_mono (Kd.R_keep (IsS41.apart (show IsS41 w0 _ g s0_0 t248 t249 from by repeat (first | (with_reducible first | exact HI0.out | apply IsS41.alloc | apply IsS41.drewN | apply IsS41.drew | apply IsS41.set_1 | apply IsS41.set_2 | refine IsS41.far ?_ NB0_222.out _ | refine IsS41.far ?_ NB0_237.out _) | exact HI0.out)) (rU HO_3.out) (by decide)) hk (fun _ h => h.2)) (fun _ h => h.1)); replace BK222 := Aside0.mk (KeepBut.blk hk (g' := gb222) (o := .cells #[.int .i64 x223000_27, .int .i64 x223001_27, .int .i64 x223002_27, .bool x223003_27] 24 (0, 0)) (bV BK222) NB222_0.out (by simp)); replace BK237 := Aside0.mk (KeepBut.blk hk (g' := gb237) (o := .cells #[.string x238000_37, .int .i64 (wrap64 (t234 - 1)), .int .i64 x223000_27, .int .i64 x223001_27, .int .i64 x223002_27, .bool x223003_27] 36 (0, 0)) (bV BK237) NB237_0.out (by simp)); replace HO252 := Aside0.mk (Kd.R_mono (Kd.R_keep (IsS41.apart (show IsS41 w0 _ g s0_0 t248 t249 from by repeat (first | (with_reducible first | exact HI0.out | apply IsS41.alloc | apply IsS41.drewN | apply IsS41.drew | apply IsS41.set_1 | apply IsS41.set_2 | refine IsS41.far ?_ NB0_222.out _ | refine IsS41.far ?_ NB0_237.out _) | exact HI0.out)) (rU HO252.out) (by decide)) hk (fun _ h => h.2)) (fun _ h => h.1)); replace HK := Aside0.mk (KeepBut.trans (by repeat (first | (with_reducible first | exact HK.out | apply KeepBut.set_ | apply keep_drewN | apply keep_drew | apply keep_alloc | refine keep_far ?_ GW222.out _ | refine keep_far ?_ GW237.out _) | exact HK.out)) hk (.inl rfl)); replace HB := Aside0.mk hb; replace HI0 := Aside0.mk hi; (try clear hb); (try clear hk); (try clear hi); have hnb74 := NB237_222.out; have hnc74 := NB222_237.out; have hnb75 := NB237_0.out; have hnc75 := NB0_237.out; have hcz76_0 := cz BK237 0 (.string x238000_37); have hcz76_1 := cz BK237 1 (.int .i64 (wrap64 (t234 - 1))); have hcz76_2 := cz BK237 2 (.int .i64 x223000_27); have hcz76_3 := cz BK237 3 (.int .i64 x223001_27); have hcz76_4 := cz BK237 4 (.int .i64 x223002_27); have hcz76_5 := cz BK237 5 (.bool x223003_27); have hfz76_0 := fz BK237 0; have hfz76_1 := fz BK237 1; have hfz76_2 := fz BK237 2; have hfz76_3 := fz BK237 3; have hfz76_4 := fz BK237 4; have hfz76_5 := fz BK237 5) | ((with_reducible refine gate_store (t := 3) (p := 64) rfl ?_); refine store_event (t := 3) (p := 64) (v := ?vo_w77) (w1 := (w73.setCell ⟨gb237, 1, none⟩ (.int .i64 t253))) ?hg ?ho ?hn ?hr ?_; (case ho => rfl); (case hg => rfl); (case hn => rfl); (case hr => first | (go_simp; done) | (go_simp; rfl) | (have hq0_ := (blk_cell BK237.out 1).trans (show _ = some _ from rfl); have hf0_ := blk_frozen BK237.out 1; first | (go_simp; done) | (go_simp; rfl))); intro w77 hw; replace HO_3 : Aside0 (Kd.R k36 36 w77 w.heap.size (fun k_ => k_ ≠ gb237) u3 x3_2) := ⟨(by rw [hw]; exact (by (with_reducible repeat (first | apply Kd.R_alloc | apply Kd.R_drewN | apply Kd.R_drew)); exact Kd.R_mono (Kd.R_far (p := ⟨gb237, 1, none⟩) (Kd.R_mono HO_3.out (fun k_ hk => (⟨hk, hk⟩ : _ ∧ k_ ≠ gb237))) (fun _ hk => hk.2) (.int .i64 t253)) (fun _ hk => hk.1)))⟩; replace HO252 : Aside0 (Kd.R (Kd.int .i64) 3 w77 w.heap.size (fun _ => True) (.slice Ao72 y250.length co72) y250) := ⟨(by rw [hw]; exact (by (with_reducible repeat (first | apply Kd.R_alloc | apply Kd.R_drewN | apply Kd.R_drew)); exact Kd.R_mono (Kd.R_far (p := ⟨gb237, 1, none⟩) (Kd.R_types HO252.out BK237.out (by decide)) (fun _ hk => hk.2) (.int .i64 t253)) (fun _ hk => trivial)))⟩; replace BK222 : Aside0 (w77.heap[gb222]? = some (.cells #[.int .i64 x223000_27, .int .i64 x223001_27, .int .i64 x223002_27, .bool x223003_27] 24 (0, 0))) := ⟨(by rw [hw]; exact (bG NB222_237 BK222))⟩; replace BK237 : Aside0 (w77.heap[gb237]? = some (.cells #[.string x238000_37, .int .i64 t253, .int .i64 x223000_27, .int .i64 x223001_27, .int .i64 x223002_27, .bool x223003_27] 36 (0, 0))) := ⟨(by rw [hw]; exact (by refine bU ?_; refine blk_put (cs := #[.string x238000_37, .int .i64 (wrap64 (t234 - 1)), .int .i64 x223000_27, .int .i64 x223001_27, .int .i64 x223002_27, .bool x223003_27]) ?_ 1 _ rfl; refine bU ?_; exact BK237.out))⟩; replace HK : Aside0 (KeepBut w w77 g none) := ⟨(by rw [hw]; exact (by repeat (first | (with_reducible first | exact HK.out | apply KeepBut.set_ | apply keep_drewN | apply keep_drew | apply keep_alloc | refine keep_far ?_ GW222.out _ | refine keep_far ?_ GW237.out _) | exact HK.out)))⟩; replace HB : Aside0 (Below w0.heap.size w0 w77) := ⟨(by rw [hw]; exact (by repeat (first | (with_reducible first | exact HB.out | apply below_alloc | apply pw_below_drewN | apply below_drew1 | refine below_set ?_ (IsS41.ge HI0.out) | refine below_set ?_ GE222.out | refine below_set ?_ GE237.out) | exact HB.out)))⟩; replace HI0 : Aside0 (IsS41 w0 w77 g s0_0 t254 t255) := ⟨(by rw [hw]; exact (by repeat (first | (with_reducible first | exact HI0.out | apply IsS41.alloc | apply IsS41.drewN | apply IsS41.drew | apply IsS41.set_1 | apply IsS41.set_2 | refine IsS41.far ?_ NB0_222.out _ | refine IsS41.far ?_ NB0_237.out _) | exact HI0.out)))⟩; clear hw; have hcz78_0 := cz BK237 0 (.string x238000_37); have hcz78_1 := cz BK237 1 (.int .i64 t253); have hcz78_2 := cz BK237 2 (.int .i64 x223000_27); have hcz78_3 := cz BK237 3 (.int .i64 x223001_27); have hcz78_4 := cz BK237 4 (.int .i64 x223002_27); have hcz78_5 := cz BK237 5 (.bool x223003_27); have hfz78_0 := fz BK237 0; have hfz78_1 := fz BK237 1; have hfz78_2 := fz BK237 2; have hfz78_3 := fz BK237 3; have hfz78_4 := fz BK237 4; have hfz78_5 := fz BK237 5) | ((with_reducible refine gate_builtin (b := .append) (xs := #[.tmp 65, .tmp 67]) rfl ?_); at_builtin; refine Kd.R_append k36 w.heap.size rfl (.tmp 65) (.tmp 67) 29 36 (.agg #[(.string ⟨#[]⟩), (.int .i64 0), (.int .i64 0), (.int .i64 0), (.int .i64 0), (.bool false)]) 56 rfl Try.underlying29 info36 rfl (by decide) (by omega) u3 x3_2 (⟨x238000_37, t253, x223000_27, x223001_27, x223002_27, x223003_27⟩ : S36) [.string x238000_37, .int .i64 t253, .int .i64 x223000_27, .int .i64 x223001_27, .int .i64 x223002_27, .bool x223003_27] (fun k_ => k_ ≠ gb237) (fun _ => False) rfl rfl ?aP (fun _ hk => hk.elim) ?aF ?aO (Below.refl _ _) ?aS ?aL ?_; (case aP => exact k36_mkM _ _ _ (⟨x238000_37, t253, x223000_27, x223001_27, x223002_27, x223003_27⟩ : S36)); (case aF => exact (fun k_ hk => Kd.freshB (g := gb237) (o := .cells #[.string x238000_37, .int .i64 t253, .int .i64 x223000_27, .int .i64 x223001_27, .int .i64 x223002_27, .bool x223003_27] 36 (0, 0)) (bV BK237) k_ hk)); (case aO => exact (rU HO_3.out)); (case aS => exact (keep_size (w := w) (g := g) (row := none) (by repeat (first | (with_reducible first | exact HK.out | apply KeepBut.set_ | apply keep_drewN | apply keep_drew | apply keep_alloc | refine keep_far ?_ GW222.out _ | refine keep_far ?_ GW237.out _) | exact HK.out)))); (case aL => have := LMc68.out; omega); intro v257 w79 ho hb hg hat; rw [← Ny256.out] at ho; replace BK222 := Aside0.mk (blk_grown (g := gb222) (o := .cells #[.int .i64 x223000_27, .int .i64 x223001_27, .int .i64 x223002_27, .bool x223003_27] 24 (0, 0)) (bV BK222) hg (Kd.R_ne HO_3.out BK222.out (by decide))); replace BK237 := Aside0.mk (blk_grown (g := gb237) (o := .cells #[.string x238000_37, .int .i64 t253, .int .i64 x223000_27, .int .i64 x223001_27, .int .i64 x223002_27, .bool x223003_27] 36 (0, 0)) (bV BK237) hg (Kd.R_away HO_3.out (fun _ hk => hk))); replace HO252 := Aside0.mk (Kd.R_over' (rU HO252.out) (Kd.R_typed (rU HO_3.out)) (by decide) hg); replace HB := Aside0.mk (below_weaken (by repeat (first | (with_reducible first | exact HB.out | apply below_alloc | apply pw_below_drewN | apply below_drew1 | refine below_set ?_ (IsS41.ge HI0.out) | refine below_set ?_ GE222.out | refine below_set ?_ GE237.out) | exact HB.out)) HL.out hb); replace HI0 := Aside0.mk (IsS41.grown (by repeat (first | (with_reducible first | exact HI0.out | apply IsS41.alloc | apply IsS41.drewN | apply IsS41.drew | apply IsS41.set_1 | apply IsS41.set_2 | refine IsS41.far ?_ NB0_222.out _ | refine IsS41.far ?_ NB0_237.out _) | exact HI0.out)) hg (IsS41.own_ne HI0.out HO_3.out (by decide))); replace HK := Aside0.mk (KeepBut.trans (by repeat (first | (with_reducible first | exact HK.out | apply KeepBut.set_ | apply keep_drewN | apply keep_drew | apply keep_alloc | refine keep_far ?_ GW222.out _ | refine keep_far ?_ GW237.out _) | exact HK.out)) (KeepBut.of_grown hg g) (Kd.R_base2 HO_3.out)); have HO258 := Aside0.mk ho; clear HO_3; clear ho hb hg hat))
               go_roundg kj37
               case measure => have := HJ3.out; have := HK2.out; have := HJ11.out; have := HJ27.out; have := HJ37.out; omega
               case rel => exact ⟨(y256), (wrap64 (x5_2 + 1)), (t254), (t255), tE, H', ⟨by have := HJ3.out; have := HK2.out; have := HJ11.out; have := HJ27.out; have := HJ37.out; omega⟩, ⟨by (with_reducible repeat (first | apply Kd.R_alloc | apply Kd.R_drewN | apply Kd.R_drew)); exact Kd.R_mono HO258.out (fun _ hk => trivial)⟩, ⟨by repeat (first | (with_reducible first | exact HI0.out | apply IsS41.alloc | apply IsS41.drewN | apply IsS41.drew | apply IsS41.set_1 | apply IsS41.set_2 | refine IsS41.far ?_ NB0_222.out _ | refine IsS41.far ?_ NB0_237.out _) | exact HI0.out)⟩, ⟨by repeat (first | (with_reducible first | exact HK.out | apply KeepBut.set_ | apply keep_drewN | apply keep_drew | apply keep_alloc | refine keep_far ?_ GW222.out _ | refine keep_far ?_ GW237.out _) | exact HK.out)⟩, ⟨by repeat (first | (with_reducible first | exact HB.out | apply below_alloc | apply pw_below_drewN | apply below_drew1 | refine below_set ?_ (IsS41.ge HI0.out) | refine below_set ?_ GE222.out | refine below_set ?_ GE237.out) | exact HB.out)⟩⟩
              ·rw [if_neg c68] at H
               exact absurd H (by simp)
             ·replace c66 := Bool.eq_false_iff.mpr c66
              subst c66
              have H1 : (if x3_2.length < 2513169434916 then (spec_l1Cur_scene.l0 kj37 (x3_2 ++ [(⟨x238000_37, (wrap64 (t234 - 1)), x223000_27, x223001_27, x223002_27, x223003_27⟩ : S36)]) x4_3 (wrap64 (x5_2 + 1)) s0_0 t248 t249) else (none)) = some (r1, r2, r3) := by rw [if_neg (show ¬ (false = true) by decide)] at H; exact H
              clear H
              have H := H1
              clear H1
              by_cases c80 : x3_2.length < 2513169434916
              ·rw [if_pos c80] at H
               have LMc80 := Aside0.mk c80
               clear c80
               obtain ⟨y259, hy259⟩ : ∃ y_ : List (S36), y_ = (x3_2 ++ [(⟨x238000_37, (wrap64 (t234 - 1)), x223000_27, x223001_27, x223002_27, x223003_27⟩ : S36)]) := ⟨_, rfl⟩
               replace H : (spec_l1Cur_scene.l0 kj37 y259 x4_3 (wrap64 (x5_2 + 1)) s0_0 t248 t249) = some (r1, r2, r3) := by first | (rw [hy259]; with_reducible exact H) | (have H2_ := (Option.bind_some _ _).symm.trans H; rw [hy259]; with_reducible exact H2_) | (have H2_ := (Option.bind_some _ _).symm.trans H; with_reducible exact H2_) | with_reducible exact H | (rw [hy259]; exact H) | exact H
               have Ny259 := Aside0.mk hy259
               clear hy259
               have H' := Aside0.mk H
               clear H
               go_wp2_with (first | ((with_reducible refine gate_callee (f := 30) rfl ?_); refine goesL_ (some 59) rfl rfl Try.func30 (by kernel_rfl) rfl #[.pointer (some ⟨g, 0, none⟩), .int .i64 80] rfl aE ?_; (with_reducible refine (spec_l1Cur_one.calls g s0_0 x1001_37 x1002_37 80 false t248 t249 w0 _ ?side1 ?side2 A65.out).mono ?_); (case side1 => repeat (first | (with_reducible first | exact HI0.out | apply IsS41.alloc | apply IsS41.drewN | apply IsS41.drew | apply IsS41.set_1 | apply IsS41.set_2 | refine IsS41.far ?_ NB0_222.out _ | refine IsS41.far ?_ NB0_237.out _) | exact HI0.out)); (case side2 => repeat (first | (with_reducible first | exact HB.out | apply below_alloc | apply pw_below_drewN | apply below_drew1 | refine below_set ?_ (IsS41.ge HI0.out) | refine below_set ?_ GE222.out | refine below_set ?_ GE237.out) | exact HB.out)); rintro e w81 ⟨rfl, hi, hb, hk⟩; refine ⟨_, rfl, ?_⟩; replace HO_3 := Aside0.mk (Kd.R_mono (Kd.R_keep (IsS41.apart (show IsS41 w0 _ g s0_0 x1001_37 x1002_37 from by repeat (first | (with_reducible first | exact HI0.out | apply IsS41.alloc | apply IsS41.drewN | apply IsS41.drew | apply IsS41.set_1 | apply IsS41.set_2 | refine IsS41.far ?_ NB0_222.out _ | refine IsS41.far ?_ NB0_237.out _) | exact HI0.out)) (rU HO_3.out) (by decide)) hk (fun _ h => h.2)) (fun _ h => h.1)); replace BK222 := Aside0.mk (KeepBut.blk hk (g' := gb222) (o := .cells #[.int .i64 x223000_27, .int .i64 x223001_27, .int .i64 x223002_27, .bool x223003_27] 24 (0, 0)) (bV BK222) NB222_0.out (by simp)); replace BK237 := Aside0.mk (KeepBut.blk hk (g' := gb237) (o := .cells #[.string x238000_37, .int .i64 (wrap64 (t234 - 1)), .int .i64 x223000_27, .int .i64 x223001_27, .int .i64 x223002_27, .bool x223003_27] 36 (0, 0)) (bV BK237) NB237_0.out (by simp)); replace HK := Aside0.mk (KeepBut.trans (by repeat (first | (with_reducible first | exact HK.out | apply KeepBut.set_ | apply keep_drewN | apply keep_drew | apply keep_alloc | refine keep_far ?_ GW222.out _ | refine keep_far ?_ GW237.out _) | exact HK.out)) hk (.inl rfl)); replace HB := Aside0.mk hb; replace HI0 := Aside0.mk hi; (try clear hb); (try clear hk); (try clear hi); have hnb82 := NB237_222.out; have hnc82 := NB222_237.out; have hnb83 := NB237_0.out; have hnc83 := NB0_237.out; have hcz84_0 := cz BK237 0 (.string x238000_37); have hcz84_1 := cz BK237 1 (.int .i64 (wrap64 (t234 - 1))); have hcz84_2 := cz BK237 2 (.int .i64 x223000_27); have hcz84_3 := cz BK237 3 (.int .i64 x223001_27); have hcz84_4 := cz BK237 4 (.int .i64 x223002_27); have hcz84_5 := cz BK237 5 (.bool x223003_27); have hfz84_0 := fz BK237 0; have hfz84_1 := fz BK237 1; have hfz84_2 := fz BK237 2; have hfz84_3 := fz BK237 3; have hfz84_4 := fz BK237 4; have hfz84_5 := fz BK237 5) | ((with_reducible refine gate_builtin (b := .append) (xs := #[.tmp 65, .tmp 67]) rfl ?_); at_builtin; refine Kd.R_append k36 w.heap.size rfl (.tmp 65) (.tmp 67) 29 36 (.agg #[(.string ⟨#[]⟩), (.int .i64 0), (.int .i64 0), (.int .i64 0), (.int .i64 0), (.bool false)]) 56 rfl Try.underlying29 info36 rfl (by decide) (by omega) u3 x3_2 (⟨x238000_37, (wrap64 (t234 - 1)), x223000_27, x223001_27, x223002_27, x223003_27⟩ : S36) [.string x238000_37, .int .i64 (wrap64 (t234 - 1)), .int .i64 x223000_27, .int .i64 x223001_27, .int .i64 x223002_27, .bool x223003_27] (fun k_ => k_ ≠ gb237) (fun _ => False) rfl rfl ?aP (fun _ hk => hk.elim) ?aF ?aO (Below.refl _ _) ?aS ?aL ?_; (case aP => exact k36_mkM _ _ _ (⟨x238000_37, (wrap64 (t234 - 1)), x223000_27, x223001_27, x223002_27, x223003_27⟩ : S36)); (case aF => exact (fun k_ hk => Kd.freshB (g := gb237) (o := .cells #[.string x238000_37, .int .i64 (wrap64 (t234 - 1)), .int .i64 x223000_27, .int .i64 x223001_27, .int .i64 x223002_27, .bool x223003_27] 36 (0, 0)) (bV BK237) k_ hk)); (case aO => exact (rU HO_3.out)); (case aS => exact (keep_size (w := w) (g := g) (row := none) (by repeat (first | (with_reducible first | exact HK.out | apply KeepBut.set_ | apply keep_drewN | apply keep_drew | apply keep_alloc | refine keep_far ?_ GW222.out _ | refine keep_far ?_ GW237.out _) | exact HK.out)))); (case aL => have := LMc80.out; omega); intro v260 w85 ho hb hg hat; rw [← Ny259.out] at ho; replace BK222 := Aside0.mk (blk_grown (g := gb222) (o := .cells #[.int .i64 x223000_27, .int .i64 x223001_27, .int .i64 x223002_27, .bool x223003_27] 24 (0, 0)) (bV BK222) hg (Kd.R_ne HO_3.out BK222.out (by decide))); replace BK237 := Aside0.mk (blk_grown (g := gb237) (o := .cells #[.string x238000_37, .int .i64 (wrap64 (t234 - 1)), .int .i64 x223000_27, .int .i64 x223001_27, .int .i64 x223002_27, .bool x223003_27] 36 (0, 0)) (bV BK237) hg (Kd.R_away HO_3.out (fun _ hk => hk))); replace HB := Aside0.mk (below_weaken (by repeat (first | (with_reducible first | exact HB.out | apply below_alloc | apply pw_below_drewN | apply below_drew1 | refine below_set ?_ (IsS41.ge HI0.out) | refine below_set ?_ GE222.out | refine below_set ?_ GE237.out) | exact HB.out)) HL.out hb); replace HI0 := Aside0.mk (IsS41.grown (by repeat (first | (with_reducible first | exact HI0.out | apply IsS41.alloc | apply IsS41.drewN | apply IsS41.drew | apply IsS41.set_1 | apply IsS41.set_2 | refine IsS41.far ?_ NB0_222.out _ | refine IsS41.far ?_ NB0_237.out _) | exact HI0.out)) hg (IsS41.own_ne HI0.out HO_3.out (by decide))); replace HK := Aside0.mk (KeepBut.trans (by repeat (first | (with_reducible first | exact HK.out | apply KeepBut.set_ | apply keep_drewN | apply keep_drew | apply keep_alloc | refine keep_far ?_ GW222.out _ | refine keep_far ?_ GW237.out _) | exact HK.out)) (KeepBut.of_grown hg g) (Kd.R_base2 HO_3.out)); have HO261 := Aside0.mk ho; clear HO_3; clear ho hb hg hat))
               go_roundg kj37
               case measure => have := HJ3.out; have := HK2.out; have := HJ11.out; have := HJ27.out; have := HJ37.out; omega
               case rel => exact ⟨(y259), (wrap64 (x5_2 + 1)), (t248), (t249), tE, H', ⟨by have := HJ3.out; have := HK2.out; have := HJ11.out; have := HJ27.out; have := HJ37.out; omega⟩, ⟨by (with_reducible repeat (first | apply Kd.R_alloc | apply Kd.R_drewN | apply Kd.R_drew)); exact Kd.R_mono HO261.out (fun _ hk => trivial)⟩, ⟨by repeat (first | (with_reducible first | exact HI0.out | apply IsS41.alloc | apply IsS41.drewN | apply IsS41.drew | apply IsS41.set_1 | apply IsS41.set_2 | refine IsS41.far ?_ NB0_222.out _ | refine IsS41.far ?_ NB0_237.out _) | exact HI0.out)⟩, ⟨by repeat (first | (with_reducible first | exact HK.out | apply KeepBut.set_ | apply keep_drewN | apply keep_drew | apply keep_alloc | refine keep_far ?_ GW222.out _ | refine keep_far ?_ GW237.out _) | exact HK.out)⟩, ⟨by repeat (first | (with_reducible first | exact HB.out | apply below_alloc | apply pw_below_drewN | apply below_drew1 | refine below_set ?_ (IsS41.ge HI0.out) | refine below_set ?_ GE222.out | refine below_set ?_ GE237.out) | exact HB.out)⟩⟩
              ·rw [if_neg c80] at H
               exact absurd H (by simp)
          ·rw [if_neg c35] at H
           exact absurd H (by simp)
     ·rw [if_neg c10] at H
      have c10b0 : decide (x5_2 < x4_3) = false := decide_eq_false c10
      clear c10
      simp only [Option.some.injEq, Prod.mk.injEq] at H
      obtain ⟨rfl, rfl, rfl⟩ := H
      go_wp2
      go_ret
      exact ⟨_, eE, by (with_reducible repeat (first | apply Kd.R_alloc | apply Kd.R_drewN | apply Kd.R_drew)); exact HO_3.out, by repeat (first | (with_reducible first | exact HI0.out | apply IsS41.alloc | apply IsS41.drewN | apply IsS41.drew | apply IsS41.set_1 | apply IsS41.set_2) | exact HI0.out), by repeat (first | (with_reducible first | exact HB.out | apply below_alloc | apply pw_below_drewN | apply below_drew1 | refine below_set ?_ (IsS41.ge HI0.out)) | exact HB.out), by repeat (first | (with_reducible first | exact HK.out | apply KeepBut.set_ | apply keep_drewN | apply keep_drew | apply keep_alloc) | exact HK.out)⟩
end Go.Proofs.Ytmmgmbmjlbdpnaa.PFnPlaced
namespace Go.Proofs.Ytmmgmbmjlbdpnaa.PFnPlaced
open Go.RowKit Go.Proofs.YtmmgmbmjlbdpnaaW.PrintWords Go.Proofs.YtmmgmbmjlbdpnaaW.PrintLast Go.Proofs.YtmmgmbmjlbdpnaaW.PrintMore
attribute [local go_sem] max2_int min2_int max_two min_two max_three min_three max_four min_four   -- for this text's walks alone
set_option linter.unusedVariables false
set_option linter.unusedSimpArgs false
def spec_l4Draw.f (k : Nat) (l0 : List Int) : Option ((List (S36)) × Int) := (spec_l1Cur_scene.f k l0 0 0).bind fun bt263 => ((spec_l1Cur_pick.f l0 bt263.2.1 bt263.2.2 (wrap64 ((bt263.1.length : Int) + 2))).bind fun bt268 => (some (bt263.1, wrap64 (bt268.1 - 1))))
theorem spec_l4Draw.mono : ∀ a0 k, LeO (spec_l4Draw.f k a0) (spec_l4Draw.f (k + 1) a0) := by
 intro a0 k
 unfold spec_l4Draw.f
 repeat' first
   | (with_reducible exact spec_l1Cur_scene.mono _ _ _ _)
   | (with_reducible first | exact LeO.refl _ | exact LeO.none _ | refine LeO.ite ?_ ?_ | refine LeO.bind ?_ (fun _ => ?_))
   | exact spec_l1Cur_scene.mono _ _ _ _ | exact LeO.none _ | refine LeO.ite ?_ ?_ | refine LeO.bind ?_ (fun _ => ?_)
set_option maxHeartbeats 8000000 in
set_option maxRecDepth 100000 in
theorem spec_l4Draw.calls (k : Nat) (A0 : Option Addr) (c0 : Nat) (l0 : List Int) (r1 : List (S36)) (r2 : Int) (w : World) (hr0 : Kd.C (Kd.int .u8) w A0 l0.length l0) (hc0 : l0.length ≤ c0) (h : spec_l4Draw.f k l0 = some (r1, r2)) :
  Calls Try.prog 17 #[.slice A0 l0.length c0] w fun e w' => ∃ v0_ : Value, e = .returned (.tuple #[v0_, .int .i64 r2]) ∧ Kd.R k36 36 w' w.heap.size (fun _ => True) v0_ r1 ∧ Below w.heap.size w w' := by
 have hu41 := Try.underlying41
 have HR0 := Aside0.mk hr0
 have HC0 := Aside0.mk hc0
 clear hr0 hc0
 have HB := Aside0.mk (Below.refl w.heap.size w)
 have H : ((spec_l1Cur_scene.f k l0 0 0).bind fun bt263 => ((spec_l1Cur_pick.f l0 bt263.2.1 bt263.2.2 (wrap64 ((bt263.1.length : Int) + 2))).bind fun bt268 => (some (bt263.1, wrap64 (bt268.1 - 1))))) = some (r1, r2) := h
 clear h
 replace H := Option.bind_eq_some_iff.mp H
 obtain ⟨⟨t263, t266, t267⟩, A20, H⟩ := H
 replace H : ((spec_l1Cur_pick.f l0 t266 t267 (wrap64 ((t263.length : Int) + 2))).bind fun bt268 => (some (t263, wrap64 (bt268.1 - 1)))) = some (r1, r2) := H
 have A2 := Aside0.mk A20
 clear A20
 replace H := Option.bind_eq_some_iff.mp H
 obtain ⟨⟨t268, t269, t270⟩, A30, H⟩ := H
 replace H : (some (t263, wrap64 (t268 - 1))) = some (r1, r2) := H
 have A3 := Aside0.mk A30
 clear A30
 simp only [Option.some.injEq, Prod.mk.injEq] at H
 obtain ⟨rfl, rfl⟩ := H
 go_enter Try.func17, Try.ntmps17
 go_wp2_with (first | ((with_reducible refine gate_dst (N := 8) rfl ?_); refine box_event rfl (N := 8) rfl (cs := #[.slice A0 l0.length c0, .int .i64 0, .int .u64 0]) (t := 41) sE ?_; intro gb262 hg w4 hbox hb; have HI262 := Aside0.mk (show IsS41 w w4 gb262 l0 0 0 from ⟨_, _, hbox, (by rw [hg]; exact (below_size (lU)) : w.heap.size ≤ gb262), HR0.out⟩); replace HB := bH (lU) hb; clear hb hbox hg) | ((with_reducible refine gate_callee (f := 33) rfl ?_); refine goesL_ (some 10) rfl rfl Try.func33 (by kernel_rfl) rfl #[.pointer (some ⟨gb262, 0, none⟩)] rfl aE ?_; (with_reducible refine (spec_l1Cur_scene.calls k gb262 l0 0 0 t263 t266 t267 w _ ?side1 ?side2 A2.out).mono ?_); (case side1 => repeat (first | (with_reducible first | exact HI262.out | apply IsS41.alloc | apply IsS41.drewN | apply IsS41.drew | apply IsS41.set_1 | apply IsS41.set_2) | exact HI262.out)); (case side2 => repeat (first | (with_reducible first | exact HB.out | apply below_alloc | apply pw_below_drewN | apply below_drew1 | refine below_set ?_ (IsS41.ge HI262.out)) | exact HB.out)); rintro e w5 ⟨v264, rfl, ho0, hi, hb, hk⟩; refine ⟨_, rfl, ?_⟩; have HO265 := Aside0.mk (Kd.R_lower ho0 (below_size (by repeat (first | (with_reducible first | exact HB.out | apply below_alloc | apply pw_below_drewN | apply below_drew1 | refine below_set ?_ (IsS41.ge HI262.out)) | exact HB.out)))); replace HB := Aside0.mk hb; replace HI262 := Aside0.mk hi; (try clear hb); (try clear hk); (try clear hi); (try clear ho0); obtain ⟨Ao6, co6, eo6⟩ := Kd.R_slice HO265.out; subst eo6) | ((with_reducible refine gate_callee (f := 18) rfl ?_); refine goesL_ (some 16) rfl rfl Try.func18 (by kernel_rfl) rfl #[.pointer (some ⟨gb262, 0, none⟩), .int .i64 (wrap64 ((t263.length : Int) + 2))] rfl aE ?_; (with_reducible refine (spec_l1Cur_pick.calls gb262 l0 t266 t267 (wrap64 ((t263.length : Int) + 2)) t268 t269 t270 w _ ?side1 ?side2 A3.out).mono ?_); (case side1 => repeat (first | (with_reducible first | exact HI262.out | apply IsS41.alloc | apply IsS41.drewN | apply IsS41.drew | apply IsS41.set_1 | apply IsS41.set_2) | exact HI262.out)); (case side2 => repeat (first | (with_reducible first | exact HB.out | apply below_alloc | apply pw_below_drewN | apply below_drew1 | refine below_set ?_ (IsS41.ge HI262.out)) | exact HB.out)); rintro e w7 ⟨rfl, hi, hb, hk⟩; refine ⟨_, rfl, ?_⟩; replace HO265 := Aside0.mk (Kd.R_mono (Kd.R_keep (IsS41.apart (show IsS41 w _ gb262 l0 t266 t267 from by repeat (first | (with_reducible first | exact HI262.out | apply IsS41.alloc | apply IsS41.drewN | apply IsS41.drew | apply IsS41.set_1 | apply IsS41.set_2) | exact HI262.out)) (rU HO265.out) (by decide)) hk (fun _ h => h.2)) (fun _ h => h.1)); replace HB := Aside0.mk hb; replace HI262 := Aside0.mk hi; (try clear hb); (try clear hk); (try clear hi)))
 go_ret2
 exact ⟨_, eE, by (with_reducible repeat (first | apply Kd.R_alloc | apply Kd.R_drewN | apply Kd.R_drew)); exact HO265.out, by repeat (first | (with_reducible first | exact HB.out | apply below_alloc | apply pw_below_drewN | apply below_drew1 | refine below_set ?_ (IsS41.ge HI262.out)) | exact HB.out)⟩
def spec_l1Abs.f (a0 : Int) : Option (Int) := if a0 < 0 then (some (wrap64 (-a0))) else (some a0)
set_option maxHeartbeats 8000000 in
set_option maxRecDepth 100000 in
theorem spec_l1Abs.calls (a0 : Int) (r : Int) (w : World) (h : spec_l1Abs.f a0 = some r) :
  Calls Try.prog 19 #[.int .i64 a0] w fun e w' => e = .returned (.int .i64 r) ∧ Drawn0 w w' := by
 have H : (if a0 < 0 then (some (wrap64 (-a0))) else (some a0)) = some r := h
 clear h
 by_cases c2 : a0 < 0
 ·rw [if_pos c2] at H
  have c2b0 : decide (a0 < 0) = true := decide_eq_true c2
  clear c2
  obtain rfl := Option.some.inj H
  go_enter Try.func19, Try.ntmps19
  go_wp2
  go_ret
  exact ⟨by first | rfl | (simp; done) | (simp [*]; done) | exact not_isEmpty _ | exact (not_isEmpty _).symm | exact is_empty _ | exact (is_empty _).symm, by repeat (first | exact Drawn0.refl _ | apply Drawn0.step)⟩
 ·rw [if_neg c2] at H
  have c2b0 : decide (a0 < 0) = false := decide_eq_false c2
  clear c2
  obtain rfl := Option.some.inj H
  go_enter Try.func19, Try.ntmps19
  go_wp2
  go_ret
  exact ⟨by first | rfl | (simp; done) | (simp [*]; done) | exact not_isEmpty _ | exact (not_isEmpty _).symm | exact is_empty _ | exact (is_empty _).symm, by repeat (first | exact Drawn0.refl _ | apply Drawn0.step)⟩
def spec_DrawHang.f (k : Nat) (l0 : List Int) : Option ((List (S36)) × Int × Int) := (spec_l4Draw.f k l0).bind fun bt271 => ((spec_l1Abs.f bt271.2).bind fun t276 => ((spec_l1Cur_pick.f l0 40 0 (wrap64 (t276 + 2))).bind fun bt277 => (some (bt271.1, bt271.2, wrap64 (bt277.1 - 1)))))
theorem spec_DrawHang.mono : ∀ a0 k, LeO (spec_DrawHang.f k a0) (spec_DrawHang.f (k + 1) a0) := by
 intro a0 k
 unfold spec_DrawHang.f
 repeat' first
   | (with_reducible exact spec_l4Draw.mono _ _)
   | (with_reducible first | exact LeO.refl _ | exact LeO.none _ | refine LeO.ite ?_ ?_ | refine LeO.bind ?_ (fun _ => ?_))
   | exact spec_l4Draw.mono _ _ | exact LeO.none _ | refine LeO.ite ?_ ?_ | refine LeO.bind ?_ (fun _ => ?_)
set_option maxHeartbeats 8000000 in
set_option maxRecDepth 100000 in
theorem spec_DrawHang.calls (k : Nat) (A0 : Option Addr) (c0 : Nat) (l0 : List Int) (r1 : List (S36)) (r2 : Int) (r3 : Int) (w : World) (hr0 : Kd.C (Kd.int .u8) w A0 l0.length l0) (hc0 : l0.length ≤ c0) (h : spec_DrawHang.f k l0 = some (r1, r2, r3)) :
  Calls Try.prog 8 #[.slice A0 l0.length c0] w fun e w' => ∃ v0_ : Value, e = .returned (.tuple #[v0_, .int .i64 r2, .int .i64 r3]) ∧ Kd.R k36 36 w' w.heap.size (fun _ => True) v0_ r1 ∧ Below w.heap.size w w' := by
 have hu41 := Try.underlying41
 have HR0 := Aside0.mk hr0
 have HC0 := Aside0.mk hc0
 clear hr0 hc0
 have HB := Aside0.mk (Below.refl w.heap.size w)
 have H : ((spec_l4Draw.f k l0).bind fun bt271 => ((spec_l1Abs.f bt271.2).bind fun t276 => ((spec_l1Cur_pick.f l0 40 0 (wrap64 (t276 + 2))).bind fun bt277 => (some (bt271.1, bt271.2, wrap64 (bt277.1 - 1)))))) = some (r1, r2, r3) := h
 clear h
 replace H := Option.bind_eq_some_iff.mp H
 obtain ⟨⟨t271, t272⟩, A20, H⟩ := H
 replace H : ((spec_l1Abs.f t272).bind fun t276 => ((spec_l1Cur_pick.f l0 40 0 (wrap64 (t276 + 2))).bind fun bt277 => (some (t271, t272, wrap64 (bt277.1 - 1))))) = some (r1, r2, r3) := H
 have A2 := Aside0.mk A20
 clear A20
 replace H := Option.bind_eq_some_iff.mp H
 obtain ⟨t276, A30, H⟩ := H
 replace H : ((spec_l1Cur_pick.f l0 40 0 (wrap64 (t276 + 2))).bind fun bt277 => (some (t271, t272, wrap64 (bt277.1 - 1)))) = some (r1, r2, r3) := H
 have A3 := Aside0.mk A30
 clear A30
 replace H := Option.bind_eq_some_iff.mp H
 obtain ⟨⟨t277, t278, t279⟩, A40, H⟩ := H
 replace H : (some (t271, t272, wrap64 (t277 - 1))) = some (r1, r2, r3) := H
 have A4 := Aside0.mk A40
 clear A40
 simp only [Option.some.injEq, Prod.mk.injEq] at H
 obtain ⟨rfl, rfl, rfl⟩ := H
 go_enter Try.func8, Try.ntmps8
 go_wp2_with (first | ((with_reducible refine gate_callee (f := 17) rfl ?_); refine goesL_ (some 10) rfl rfl Try.func17 (by kernel_rfl) rfl #[.slice A0 l0.length c0] rfl aE ?_; (with_reducible refine (spec_l4Draw.calls k _ _ l0 t271 t272 _ ?side1 ?side2 A2.out).mono ?_); (case side1 => repeat (first | exact HR0.out | (with_reducible refine Kd.C_alloc ?_ _) | (with_reducible refine Kd.C_drewN ?_ _) | (with_reducible refine Kd.C_drew ?_))); (case side2 => exact HC0.out); rintro e w5 ⟨v273, rfl, ho0, hb⟩; refine ⟨_, rfl, ?_⟩; have HO274 := Aside0.mk (Kd.R_lower ho0 (below_size (lU))); replace HB := bH (lU) hb; (try clear hb); (try clear ho0)) | ((with_reducible refine gate_dst (N := 15) rfl ?_); refine box_event rfl (N := 15) rfl (cs := #[.slice A0 l0.length c0, .int .i64 0, .int .u64 0]) (t := 41) sE ?_; intro gb275 hg w6 hbox hb; replace HO274 := Aside0.mk (Kd.R_below (rU HO274.out) hb); have HI275 := Aside0.mk (show IsS41 w w6 gb275 l0 0 0 from ⟨_, _, hbox, (by rw [hg]; exact (below_size (lU)) : w.heap.size ≤ gb275), HR0.out⟩); replace HB := bH (lU) hb; clear hb hbox hg; obtain ⟨ASz7_0, cSz7_0, HGz7, hgz7, HSz7_0⟩ := HI275.out; have hcz7_0 := cellS41_0 HGz7; have hcz7_1 := cellS41_1 HGz7; have hcz7_2 := cellS41_2 HGz7; have hfz7_1 := blk_frozen HGz7 1; have hfz7_2 := blk_frozen HGz7 2; clear HGz7 hgz7) | ((with_reducible refine gate_callee (f := 19) rfl ?_); refine goesL_ (some 23) rfl rfl Try.func19 (by kernel_rfl) rfl #[.int .i64 t272] rfl aE ?_; (with_reducible refine (spec_l1Abs.calls t272 t276 _ A3.out).mono ?_); rintro e w' ⟨rfl, ⟨nd, rfl⟩⟩; refine ⟨_, rfl, ?_⟩) | ((with_reducible refine gate_callee (f := 18) rfl ?_); refine goesL_ (some 25) rfl rfl Try.func18 (by kernel_rfl) rfl #[.pointer (some ⟨gb275, 0, none⟩), .int .i64 (wrap64 (t276 + 2))] rfl aE ?_; (with_reducible refine (spec_l1Cur_pick.calls gb275 l0 40 0 (wrap64 (t276 + 2)) t277 t278 t279 w _ ?side1 ?side2 A4.out).mono ?_); (case side1 => repeat (first | (with_reducible first | exact HI275.out | apply IsS41.alloc | apply IsS41.drewN | apply IsS41.drew | apply IsS41.set_1 | apply IsS41.set_2) | exact HI275.out)); (case side2 => repeat (first | (with_reducible first | exact HB.out | apply below_alloc | apply pw_below_drewN | apply below_drew1 | refine below_set ?_ (IsS41.ge HI275.out)) | exact HB.out)); rintro e w8 ⟨rfl, hi, hb, hk⟩; refine ⟨_, rfl, ?_⟩; replace HO274 := Aside0.mk (Kd.R_mono (Kd.R_keep (IsS41.apart (show IsS41 w _ gb275 l0 40 0 from by repeat (first | (with_reducible first | exact HI275.out | apply IsS41.alloc | apply IsS41.drewN | apply IsS41.drew | apply IsS41.set_1 | apply IsS41.set_2) | exact HI275.out)) (rU (Kd.R_mono (Kd.R_far (p := ⟨gb275, 1, none⟩) (IsS41.apart HI275.out HO274.out (by decide)) (fun _ hk => hk.2) (.int .i64 40)) (fun _ h_ => h_.1))) (by decide)) hk (fun _ h => h.2)) (fun _ h => h.1)); replace HB := Aside0.mk hb; replace HI275 := Aside0.mk hi; (try clear hb); (try clear hk); (try clear hi)))
 go_ret3
 exact ⟨_, eE, by (with_reducible repeat (first | apply Kd.R_alloc | apply Kd.R_drewN | apply Kd.R_drew)); exact HO274.out, by repeat (first | (with_reducible first | exact HB.out | apply below_alloc | apply pw_below_drewN | apply below_drew1 | refine below_set ?_ (IsS41.ge HI275.out)) | exact HB.out)⟩
def impl_Node_spot.f (a0_0 : ByteArray) (a0_1 : Int) (a0_2 : Int) (a0_3 : Int) (a0_4 : Int) (a0_5 : Bool) : Option (Int × Int × Int × Bool) := some (a0_2, a0_3, a0_4, a0_5)
set_option maxHeartbeats 8000000 in
set_option maxRecDepth 100000 in
theorem impl_Node_spot.calls (a0_0 : ByteArray) (a0_1 : Int) (a0_2 : Int) (a0_3 : Int) (a0_4 : Int) (a0_5 : Bool) (r1 : Int) (r2 : Int) (r3 : Int) (r4 : Bool) (w : World) (h : impl_Node_spot.f a0_0 a0_1 a0_2 a0_3 a0_4 a0_5 = some (r1, r2, r3, r4)) :
  Calls Try.prog 35 #[.agg #[.string a0_0, .int .i64 a0_1, .int .i64 a0_2, .int .i64 a0_3, .int .i64 a0_4, .bool a0_5]] w fun e w' => e = .returned (.agg #[.int .i64 r1, .int .i64 r2, .int .i64 r3, .bool r4]) ∧ Below w.heap.size w w' := by
 have hu36 := Try.underlying36
 have hu24 := Try.underlying24
 have HB := Aside0.mk (Below.refl w.heap.size w)
 have H : (some (a0_2, a0_3, a0_4, a0_5)) = some (r1, r2, r3, r4) := h
 clear h
 simp only [Option.some.injEq, Prod.mk.injEq] at H
 obtain ⟨rfl, rfl, rfl, rfl⟩ := H
 go_enter Try.func35, Try.ntmps35
 go_wp2_with (first | ((with_reducible refine gate_dst (N := 1) rfl ?_); refine box_event rfl (N := 1) rfl (cs := #[.string a0_0, .int .i64 a0_1, .int .i64 a0_2, .int .i64 a0_3, .int .i64 a0_4, .bool a0_5]) (t := 36) sE ?_; intro gb280 hg w2 hbox hb; have BK280 := Aside0.mk hbox; have GW280 := gS w hg (lU); have GE280 := gS w hg (lU); replace HB := bH (lU) hb; clear hb hbox hg) | ((with_reducible refine gate_dst (N := 2) rfl ?_); refine box_event rfl (N := 2) rfl (cs := #[.int .i64 0, .int .i64 0, .int .i64 0, .bool false]) (t := 24) sE ?_; intro gb281 hg w3 hbox hb; have BK281 := Aside0.mk hbox; have GW281 := gS w hg (lV1 GE280); have GE281 := gS w hg (lV1 GE280); replace HB := bH (lV1 GE280) hb; have NB280_281 := nL hg (bV BK280); have NB281_280 := nG hg (bV BK280); replace BK280 := bB (bV BK280) hb; clear hb hbox hg; have hnb4 := NB280_281.out; have hnc4 := NB281_280.out; have hcz5_0 := cz BK280 0 (.string a0_0); have hcz5_1 := cz BK280 1 (.int .i64 a0_1); have hcz5_2 := cz BK280 2 (.int .i64 a0_2); have hcz5_3 := cz BK280 3 (.int .i64 a0_3); have hcz5_4 := cz BK280 4 (.int .i64 a0_4); have hcz5_5 := cz BK280 5 (.bool a0_5); have hfz5_0 := fz BK280 0; have hfz5_1 := fz BK280 1; have hfz5_2 := fz BK280 2; have hfz5_3 := fz BK280 3; have hfz5_4 := fz BK280 4; have hfz5_5 := fz BK280 5; have hcz6_0 := cz BK281 0 (.int .i64 0); have hcz6_1 := cz BK281 1 (.int .i64 0); have hcz6_2 := cz BK281 2 (.int .i64 0); have hcz6_3 := cz BK281 3 (.bool false); have hfz6_0 := fz BK281 0; have hfz6_1 := fz BK281 1; have hfz6_2 := fz BK281 2; have hfz6_3 := fz BK281 3) | ((with_reducible refine gate_store (t := 24) (p := 2) rfl ?_); refine store_event (t := 24) (p := 2) (v := ?vo_w7) (w1 := ((((w3.setCell ⟨gb281, 0, none⟩ (.int .i64 a0_2)).setCell ⟨gb281, 1, none⟩ (.int .i64 a0_3)).setCell ⟨gb281, 2, none⟩ (.int .i64 a0_4)).setCell ⟨gb281, 3, none⟩ (.bool a0_5))) ?hg ?ho ?hn ?hr ?_; (case ho => rfl); (case hg => rfl); (case hn => rfl); (case hr => first | (go_simp; done) | (go_simp; rfl) | (have hq0_ := (blk_cell BK281.out 0).trans (show _ = some _ from rfl); have hf0_ := blk_frozen BK281.out 0; have hq1_ := (blk_cell BK281.out 1).trans (show _ = some _ from rfl); have hf1_ := blk_frozen BK281.out 1; have hq2_ := (blk_cell BK281.out 2).trans (show _ = some _ from rfl); have hf2_ := blk_frozen BK281.out 2; have hq3_ := (blk_cell BK281.out 3).trans (show _ = some _ from rfl); have hf3_ := blk_frozen BK281.out 3; first | (go_simp; done) | (go_simp; rfl))); intro w7 hw; replace BK280 : Aside0 (w7.heap[gb280]? = some (.cells #[.string a0_0, .int .i64 a0_1, .int .i64 a0_2, .int .i64 a0_3, .int .i64 a0_4, .bool a0_5] 36 (0, 0))) := ⟨(by rw [hw]; exact (bG NB280_281 BK280))⟩; replace BK281 : Aside0 (w7.heap[gb281]? = some (.cells #[.int .i64 a0_2, .int .i64 a0_3, .int .i64 a0_4, .bool a0_5] 24 (0, 0))) := ⟨(by rw [hw]; exact (by refine bU ?_; refine blk_put (cs := #[.int .i64 a0_2, .int .i64 a0_3, .int .i64 a0_4, .bool false]) ?_ 3 _ rfl; refine bU ?_; refine blk_put (cs := #[.int .i64 a0_2, .int .i64 a0_3, .int .i64 0, .bool false]) ?_ 2 _ rfl; refine bU ?_; refine blk_put (cs := #[.int .i64 a0_2, .int .i64 0, .int .i64 0, .bool false]) ?_ 1 _ rfl; refine bU ?_; refine blk_put (cs := #[.int .i64 0, .int .i64 0, .int .i64 0, .bool false]) ?_ 0 _ rfl; refine bU ?_; exact BK281.out))⟩; replace HB : Aside0 (Below w.heap.size w w7) := ⟨(by rw [hw]; exact (lV2 GE280 GE281))⟩; clear hw))
 refine bodyPost_ret (results_cell_row rfl _ _ gb281 24 #[.int .i64 a0_2, .int .i64 a0_3, .int .i64 a0_4, .bool a0_5] (0, 0) _ rfl (bV BK281) Try.underlying24 rfl (by kernel_rfl)) rfl ?_
 exact ⟨eE, lV2 GE280 GE281⟩
def impl_isLetter.f (a0 : Int) : Option (Bool) := if a0 ≥ 97 then (if a0 ≤ 122 then (some true) else (if a0 ≥ 65 then (some (decide (a0 ≤ 90))) else (some false))) else (if a0 ≥ 65 then (some (decide (a0 ≤ 90))) else (some false))
set_option maxHeartbeats 8000000 in
set_option maxRecDepth 100000 in
theorem impl_isLetter.calls (a0 : Int) (r : Bool) (w : World) (h : impl_isLetter.f a0 = some r) :
  Calls Try.prog 43 #[.int .u8 a0] w fun e w' => e = .returned (.bool r) ∧ Drawn0 w w' := by
 have H : (if a0 ≥ 97 then (if a0 ≤ 122 then (some true) else (if a0 ≥ 65 then (some (decide (a0 ≤ 90))) else (some false))) else (if a0 ≥ 65 then (some (decide (a0 ≤ 90))) else (some false))) = some r := h
 clear h
 by_cases c2 : a0 ≥ 97
 ·rw [if_pos c2] at H
  have c2b0 : decide (97 ≤ a0) = true := decide_eq_true c2
  clear c2
  by_cases c3 : a0 ≤ 122
  ·rw [if_pos c3] at H
   have c3b0 : decide (a0 ≤ 122) = true := decide_eq_true c3
   clear c3
   obtain rfl := Option.some.inj H
   go_enter Try.func43, Try.ntmps43
   go_wp2
   go_ret
   exact ⟨by first | rfl | (simp; done) | (simp [*]; done) | exact not_isEmpty _ | exact (not_isEmpty _).symm | exact is_empty _ | exact (is_empty _).symm, by repeat (first | exact Drawn0.refl _ | apply Drawn0.step)⟩
  ·rw [if_neg c3] at H
   have c3b0 : decide (a0 ≤ 122) = false := decide_eq_false c3
   clear c3
   by_cases c4 : a0 ≥ 65
   ·rw [if_pos c4] at H
    have c4b0 : decide (65 ≤ a0) = true := decide_eq_true c4
    clear c4
    obtain rfl := Option.some.inj H
    go_enter Try.func43, Try.ntmps43
    go_wp2
    go_ret
    exact ⟨by first | rfl | (simp; done) | (simp [*]; done) | exact not_isEmpty _ | exact (not_isEmpty _).symm | exact is_empty _ | exact (is_empty _).symm, by repeat (first | exact Drawn0.refl _ | apply Drawn0.step)⟩
   ·rw [if_neg c4] at H
    have c4b0 : decide (65 ≤ a0) = false := decide_eq_false c4
    clear c4
    obtain rfl := Option.some.inj H
    go_enter Try.func43, Try.ntmps43
    go_wp2
    go_ret
    exact ⟨by first | rfl | (simp; done) | (simp [*]; done) | exact not_isEmpty _ | exact (not_isEmpty _).symm | exact is_empty _ | exact (is_empty _).symm, by repeat (first | exact Drawn0.refl _ | apply Drawn0.step)⟩
 ·rw [if_neg c2] at H
  have c2b0 : decide (97 ≤ a0) = false := decide_eq_false c2
  clear c2
  by_cases c5 : a0 ≥ 65
  ·rw [if_pos c5] at H
   have c5b0 : decide (65 ≤ a0) = true := decide_eq_true c5
   clear c5
   obtain rfl := Option.some.inj H
   go_enter Try.func43, Try.ntmps43
   go_wp2
   go_ret
   exact ⟨by first | rfl | (simp; done) | (simp [*]; done) | exact not_isEmpty _ | exact (not_isEmpty _).symm | exact is_empty _ | exact (is_empty _).symm, by repeat (first | exact Drawn0.refl _ | apply Drawn0.step)⟩
  ·rw [if_neg c5] at H
   have c5b0 : decide (65 ≤ a0) = false := decide_eq_false c5
   clear c5
   obtain rfl := Option.some.inj H
   go_enter Try.func43, Try.ntmps43
   go_wp2
   go_ret
   exact ⟨by first | rfl | (simp; done) | (simp [*]; done) | exact not_isEmpty _ | exact (not_isEmpty _).symm | exact is_empty _ | exact (is_empty _).symm, by repeat (first | exact Drawn0.refl _ | apply Drawn0.step)⟩
def impl_isDigit.f (a0 : Int) : Option (Bool) := if a0 ≥ 48 then (some (decide (a0 ≤ 57))) else (some false)
set_option maxHeartbeats 8000000 in
set_option maxRecDepth 100000 in
theorem impl_isDigit.calls (a0 : Int) (r : Bool) (w : World) (h : impl_isDigit.f a0 = some r) :
  Calls Try.prog 44 #[.int .u8 a0] w fun e w' => e = .returned (.bool r) ∧ Drawn0 w w' := by
 have H : (if a0 ≥ 48 then (some (decide (a0 ≤ 57))) else (some false)) = some r := h
 clear h
 by_cases c2 : a0 ≥ 48
 ·rw [if_pos c2] at H
  have c2b0 : decide (48 ≤ a0) = true := decide_eq_true c2
  clear c2
  obtain rfl := Option.some.inj H
  go_enter Try.func44, Try.ntmps44
  go_wp2
  go_ret
  exact ⟨by first | rfl | (simp; done) | (simp [*]; done) | exact not_isEmpty _ | exact (not_isEmpty _).symm | exact is_empty _ | exact (is_empty _).symm, by repeat (first | exact Drawn0.refl _ | apply Drawn0.step)⟩
 ·rw [if_neg c2] at H
  have c2b0 : decide (48 ≤ a0) = false := decide_eq_false c2
  clear c2
  obtain rfl := Option.some.inj H
  go_enter Try.func44, Try.ntmps44
  go_wp2
  go_ret
  exact ⟨by first | rfl | (simp; done) | (simp [*]; done) | exact not_isEmpty _ | exact (not_isEmpty _).symm | exact is_empty _ | exact (is_empty _).symm, by repeat (first | exact Drawn0.refl _ | apply Drawn0.step)⟩
def impl_GoodName.l0 : Nat → ByteArray → Int → Int → Option (Bool)
 | 0, _, _, _ => none
 | k + 1, x0, x5, x6 => if x6 < x5 then (if 0 ≤ x6 then (if x6 < (x0.size : Int) then ((impl_isLetter.f (bt x0 x6)).bind fun t283 => (if t283 = true then (impl_GoodName.l0 k x0 x5 (wrap64 (x6 + 1))) else (if (bt x0 x6) = 95 then (impl_GoodName.l0 k x0 x5 (wrap64 (x6 + 1))) else (if x6 = 0 then (some false) else ((impl_isDigit.f (bt x0 x6)).bind fun t284 => (if t284 = true then (impl_GoodName.l0 k x0 x5 (wrap64 (x6 + 1))) else (some false))))))) else (none)) else (none)) else ((impl_inRange.f (x0.size : Int) 1 20).bind fun t282 => (some t282))
def impl_GoodName.f (k : Nat) (a0 : ByteArray) : Option (Bool) := impl_GoodName.l0 k a0 (a0.size : Int) 0
theorem impl_GoodName.mono_l : ∀ k, (∀ y0 y1 y2, LeO (impl_GoodName.l0 k y0 y1 y2) (impl_GoodName.l0 (k + 1) y0 y1 y2))
 | 0 => fun _ _ _ r h => by simp [impl_GoodName.l0] at h
 | k + 1 => by
  have ih0 := impl_GoodName.mono_l k
  ·intro y0 y1 y2
   unfold impl_GoodName.l0
   repeat' first
   | (with_reducible exact ih0 _ _ _)
   | (with_reducible first | exact LeO.refl _ | exact LeO.none _ | refine LeO.ite ?_ ?_ | refine LeO.bind ?_ (fun _ => ?_))
   | exact ih0 _ _ _ | exact LeO.none _ | refine LeO.ite ?_ ?_ | refine LeO.bind ?_ (fun _ => ?_)
theorem impl_GoodName.mono : ∀ a0 k, LeO (impl_GoodName.f k a0) (impl_GoodName.f (k + 1) a0) := by
 intro a0 k
 have ih0 := impl_GoodName.mono_l k
 unfold impl_GoodName.f
 repeat' first
   | (with_reducible exact ih0 _ _ _)
   | (with_reducible first | exact LeO.refl _ | exact LeO.none _ | refine LeO.ite ?_ ?_ | refine LeO.bind ?_ (fun _ => ?_))
   | exact ih0 _ _ _ | exact LeO.none _ | refine LeO.ite ?_ ?_ | refine LeO.bind ?_ (fun _ => ?_)
set_option maxHeartbeats 8000000 in
set_option maxRecDepth 100000 in
theorem impl_GoodName.calls (k : Nat) (a0 : ByteArray) (r : Bool) (w : World) (h : impl_GoodName.f k a0 = some r) :
  Calls Try.prog 36 #[.string a0] w fun e w' => e = .returned (.bool r) ∧ Drawn0 w w' := by
 have H : (impl_GoodName.l0 k a0 (a0.size : Int) 0) = some r := h
 clear h
 have H' := Aside0.mk H
 clear H
 go_enter Try.func36, Try.ntmps36
 go_wp2
 go_loopg [6] k (fun kq v6 w' => ∃ (x6_1 : Int), v6 = .int .i64 x6_1 ∧ Aside0 (impl_GoodName.l0 kq a0 (a0.size : Int) x6_1 = some r) ∧ Aside0 (kq ≤ k) ∧ Drawn0 w w')
 case atStart => exact ⟨(0), tE, H', ⟨Nat.le_refl _⟩, by repeat (first | exact Drawn0.refl _ | apply Drawn0.step)⟩
 case round =>
  clear H'
  obtain ⟨x6_1, rfl, HA, HK1, ⟨m1, rfl⟩⟩ := hrel
  cases gk with
  | zero => exact absurd HA.out (by simp [impl_GoodName.l0])
  | succ k1 =>
   have H := HA.out
   clear HA
   simp only [impl_GoodName.l0] at H
   by_cases c2 : x6_1 < (a0.size : Int)
   ·rw [if_pos c2] at H
    have c2b0 : decide (x6_1 < (a0.size : Int)) = true := decide_eq_true c2
    clear c2
    by_cases c3 : 0 ≤ x6_1
    ·rw [if_pos c3] at H
     have c3b0 : decide (0 ≤ x6_1) = true := decide_eq_true c3
     clear c3
     by_cases c4 : x6_1 < (a0.size : Int)
     ·rw [if_pos c4] at H
      have c4b0 : decide (x6_1 < (a0.size : Int)) = true := decide_eq_true c4
      clear c4
      replace H := Option.bind_eq_some_iff.mp H
      obtain ⟨t283, A60, H⟩ := H
      replace H : (if t283 = true then (impl_GoodName.l0 k1 a0 (a0.size : Int) (wrap64 (x6_1 + 1))) else (if (bt a0 x6_1) = 95 then (impl_GoodName.l0 k1 a0 (a0.size : Int) (wrap64 (x6_1 + 1))) else (if x6_1 = 0 then (some false) else ((impl_isDigit.f (bt a0 x6_1)).bind fun t284 => (if t284 = true then (impl_GoodName.l0 k1 a0 (a0.size : Int) (wrap64 (x6_1 + 1))) else (some false)))))) = some r := H
      have A6 := Aside0.mk A60
      clear A60
      by_cases c7 : t283 = true
      ·subst c7
       have H1 : (impl_GoodName.l0 k1 a0 (a0.size : Int) (wrap64 (x6_1 + 1))) = some r := by rw [if_pos rfl] at H; exact H
       clear H
       have H := H1
       clear H1
       have H' := Aside0.mk H
       clear H
       have p5 : 0 ≤ (x6_1 : Int) := of_decide_eq_true hE
       have q5 : x6_1 < (a0.size : Int) := of_decide_eq_true hE
       have hx5 := bt_at a0 x6_1
       replace p5 := eq_true p5
       replace q5 := eq_true q5
       go_wp2_with (first | ((with_reducible refine gate_callee (f := 43) rfl ?_); refine goesL_ (some 12) rfl rfl Try.func43 (by kernel_rfl) rfl #[.int .u8 (bt a0 x6_1)] rfl aE ?_; (with_reducible refine (impl_isLetter.calls (bt a0 x6_1) true _ A6.out).mono ?_); rintro e w' ⟨rfl, ⟨nd, rfl⟩⟩; refine ⟨_, rfl, ?_⟩))
       go_roundg k1
       case measure => have := HK1.out; omega
       case rel => exact ⟨(wrap64 (x6_1 + 1)), tE, H', ⟨by have := HK1.out; omega⟩, by repeat (first | exact Drawn0.refl _ | apply Drawn0.step)⟩
      ·replace c7 := Bool.eq_false_iff.mpr c7
       subst c7
       have H1 : (if (bt a0 x6_1) = 95 then (impl_GoodName.l0 k1 a0 (a0.size : Int) (wrap64 (x6_1 + 1))) else (if x6_1 = 0 then (some false) else ((impl_isDigit.f (bt a0 x6_1)).bind fun t284 => (if t284 = true then (impl_GoodName.l0 k1 a0 (a0.size : Int) (wrap64 (x6_1 + 1))) else (some false))))) = some r := by rw [if_neg (show ¬ (false = true) by decide)] at H; exact H
       clear H
       have H := H1
       clear H1
       by_cases c9 : (bt a0 x6_1) = 95
       ·rw [if_pos c9] at H
        have c9b0 : ((bt a0 x6_1) == 95) = true := beq_iff_eq.mpr c9
        have c9b1 : ((bt a0 x6_1) != 95) = false := bne_eq_false_iff_eq.mpr c9
        clear c9
        have H' := Aside0.mk H
        clear H
        have p5 : 0 ≤ (x6_1 : Int) := of_decide_eq_true hE
        have q5 : x6_1 < (a0.size : Int) := of_decide_eq_true hE
        have hx5 := bt_at a0 x6_1
        replace p5 := eq_true p5
        replace q5 := eq_true q5
        go_wp2_with (first | ((with_reducible refine gate_callee (f := 43) rfl ?_); refine goesL_ (some 12) rfl rfl Try.func43 (by kernel_rfl) rfl #[.int .u8 (bt a0 x6_1)] rfl aE ?_; (with_reducible refine (impl_isLetter.calls (bt a0 x6_1) false _ A6.out).mono ?_); rintro e w' ⟨rfl, ⟨nd, rfl⟩⟩; refine ⟨_, rfl, ?_⟩; have p8 : 0 ≤ (x6_1 : Int) := of_decide_eq_true hE; have q8 : x6_1 < (a0.size : Int) := of_decide_eq_true hE; have hx8 := bt_at a0 x6_1; replace p8 := eq_true p8; replace q8 := eq_true q8))
        go_roundg k1
        case measure => have := HK1.out; omega
        case rel => exact ⟨(wrap64 (x6_1 + 1)), tE, H', ⟨by have := HK1.out; omega⟩, by repeat (first | exact Drawn0.refl _ | apply Drawn0.step)⟩
       ·rw [if_neg c9] at H
        have c9b0 : ((bt a0 x6_1) == 95) = false := beq_eq_false_iff_ne.mpr c9
        have c9b1 : ((bt a0 x6_1) != 95) = true := bne_iff_ne.mpr c9
        by_cases c10 : x6_1 = 0
        ·rw [if_pos c10] at H
         have c10b0 : (x6_1 == 0) = true := beq_iff_eq.mpr c10
         have c10b1 : (x6_1 != 0) = false := bne_eq_false_iff_eq.mpr c10
         clear c10
         obtain rfl := Option.some.inj H
         have p5 : 0 ≤ (x6_1 : Int) := of_decide_eq_true hE
         have q5 : x6_1 < (a0.size : Int) := of_decide_eq_true hE
         have hx5 := bt_at a0 x6_1
         replace p5 := eq_true p5
         replace q5 := eq_true q5
         go_wp2_with (first | ((with_reducible refine gate_callee (f := 43) rfl ?_); refine goesL_ (some 12) rfl rfl Try.func43 (by kernel_rfl) rfl #[.int .u8 (bt a0 x6_1)] rfl aE ?_; (with_reducible refine (impl_isLetter.calls (bt a0 x6_1) false _ A6.out).mono ?_); rintro e w' ⟨rfl, ⟨nd, rfl⟩⟩; refine ⟨_, rfl, ?_⟩; have p8 : 0 ≤ (x6_1 : Int) := of_decide_eq_true hE; have q8 : x6_1 < (a0.size : Int) := of_decide_eq_true hE; have hx8 := bt_at a0 x6_1; replace p8 := eq_true p8; replace q8 := eq_true q8))
         go_ret
         exact ⟨by first | rfl | (simp; done) | (simp [*]; done) | exact not_isEmpty _ | exact (not_isEmpty _).symm | exact is_empty _ | exact (is_empty _).symm, by repeat (first | exact Drawn0.refl _ | apply Drawn0.step)⟩
        ·rw [if_neg c10] at H
         have c10b0 : (x6_1 == 0) = false := beq_eq_false_iff_ne.mpr c10
         have c10b1 : (x6_1 != 0) = true := bne_iff_ne.mpr c10
         replace H := Option.bind_eq_some_iff.mp H
         obtain ⟨t284, A120, H⟩ := H
         replace H : (if t284 = true then (impl_GoodName.l0 k1 a0 (a0.size : Int) (wrap64 (x6_1 + 1))) else (some false)) = some r := H
         have A12 := Aside0.mk A120
         clear A120
         by_cases c13 : t284 = true
         ·subst c13
          have H1 : (impl_GoodName.l0 k1 a0 (a0.size : Int) (wrap64 (x6_1 + 1))) = some r := by rw [if_pos rfl] at H; exact H
          clear H
          have H := H1
          clear H1
          have H' := Aside0.mk H
          clear H
          have p5 : 0 ≤ (x6_1 : Int) := of_decide_eq_true hE
          have q5 : x6_1 < (a0.size : Int) := of_decide_eq_true hE
          have hx5 := bt_at a0 x6_1
          replace p5 := eq_true p5
          replace q5 := eq_true q5
          go_wp2_with (first | ((with_reducible refine gate_callee (f := 43) rfl ?_); refine goesL_ (some 12) rfl rfl Try.func43 (by kernel_rfl) rfl #[.int .u8 (bt a0 x6_1)] rfl aE ?_; (with_reducible refine (impl_isLetter.calls (bt a0 x6_1) false _ A6.out).mono ?_); rintro e w' ⟨rfl, ⟨nd, rfl⟩⟩; refine ⟨_, rfl, ?_⟩; have p8 : 0 ≤ (x6_1 : Int) := of_decide_eq_true hE; have q8 : x6_1 < (a0.size : Int) := of_decide_eq_true hE; have hx8 := bt_at a0 x6_1; replace p8 := eq_true p8; replace q8 := eq_true q8; have p11 : 0 ≤ (x6_1 : Int) := of_decide_eq_true hE; have q11 : x6_1 < (a0.size : Int) := of_decide_eq_true hE; have hx11 := bt_at a0 x6_1; replace p11 := eq_true p11; replace q11 := eq_true q11) | (go_at_call 44; (with_reducible refine (impl_isDigit.calls (bt a0 x6_1) true _ A12.out).mono ?_); rintro e w' ⟨rfl, ⟨nd, rfl⟩⟩))
          go_roundg k1
          case measure => have := HK1.out; omega
          case rel => exact ⟨(wrap64 (x6_1 + 1)), tE, H', ⟨by have := HK1.out; omega⟩, by repeat (first | exact Drawn0.refl _ | apply Drawn0.step)⟩
         ·replace c13 := Bool.eq_false_iff.mpr c13
          subst c13
          have H1 : (some false) = some r := by rw [if_neg (show ¬ (false = true) by decide)] at H; exact H
          clear H
          have H := H1
          clear H1
          obtain rfl := Option.some.inj H
          have p5 : 0 ≤ (x6_1 : Int) := of_decide_eq_true hE
          have q5 : x6_1 < (a0.size : Int) := of_decide_eq_true hE
          have hx5 := bt_at a0 x6_1
          replace p5 := eq_true p5
          replace q5 := eq_true q5
          go_wp2_with (first | ((with_reducible refine gate_callee (f := 43) rfl ?_); refine goesL_ (some 12) rfl rfl Try.func43 (by kernel_rfl) rfl #[.int .u8 (bt a0 x6_1)] rfl aE ?_; (with_reducible refine (impl_isLetter.calls (bt a0 x6_1) false _ A6.out).mono ?_); rintro e w' ⟨rfl, ⟨nd, rfl⟩⟩; refine ⟨_, rfl, ?_⟩; have p8 : 0 ≤ (x6_1 : Int) := of_decide_eq_true hE; have q8 : x6_1 < (a0.size : Int) := of_decide_eq_true hE; have hx8 := bt_at a0 x6_1; replace p8 := eq_true p8; replace q8 := eq_true q8; have p11 : 0 ≤ (x6_1 : Int) := of_decide_eq_true hE; have q11 : x6_1 < (a0.size : Int) := of_decide_eq_true hE; have hx11 := bt_at a0 x6_1; replace p11 := eq_true p11; replace q11 := eq_true q11) | (go_at_call 44; (with_reducible refine (impl_isDigit.calls (bt a0 x6_1) false _ A12.out).mono ?_); rintro e w' ⟨rfl, ⟨nd, rfl⟩⟩))
          go_ret
          exact ⟨by first | rfl | (simp; done) | (simp [*]; done) | exact not_isEmpty _ | exact (not_isEmpty _).symm | exact is_empty _ | exact (is_empty _).symm, by repeat (first | exact Drawn0.refl _ | apply Drawn0.step)⟩
     ·rw [if_neg c4] at H
      exact absurd H (by simp)
    ·rw [if_neg c3] at H
     exact absurd H (by simp)
   ·rw [if_neg c2] at H
    have c2b0 : decide (x6_1 < (a0.size : Int)) = false := decide_eq_false c2
    clear c2
    replace H := Option.bind_eq_some_iff.mp H
    obtain ⟨t282, A140, H⟩ := H
    replace H : (some t282) = some r := H
    have A14 := Aside0.mk A140
    clear A140
    obtain rfl := Option.some.inj H
    go_wp2_with (first | ((with_reducible refine gate_callee (f := 21) rfl ?_); refine goesL_ (some 34) rfl rfl Try.func21 (by kernel_rfl) rfl #[.int .i64 (a0.size : Int), .int .i64 1, .int .i64 20] rfl aE ?_; (with_reducible refine (impl_inRange.calls (a0.size : Int) 1 20 t282 _ A14.out).mono ?_); rintro e w' ⟨rfl, ⟨nd, rfl⟩⟩; refine ⟨_, rfl, ?_⟩))
    go_ret
    exact ⟨by first | rfl | (simp; done) | (simp [*]; done) | exact not_isEmpty _ | exact (not_isEmpty _).symm | exact is_empty _ | exact (is_empty _).symm, by repeat (first | exact Drawn0.refl _ | apply Drawn0.step)⟩
def impl_GoodScene_1.f (a0_0 : ByteArray) (a0_1 : Int) (a0_2 : Int) (a0_3 : Int) (a0_4 : Int) (a0_5 : Bool) (a1_0_0 : ByteArray) (a1_0_1 : Int) (a1_0_2 : Int) (a1_0_3 : Int) (a1_0_4 : Int) (a1_0_5 : Bool) : Option (Bool) := if a0_1 = a1_0_1 then (some (a0_0.toList == a1_0_0.toList)) else (some false)
set_option maxHeartbeats 8000000 in
set_option maxRecDepth 100000 in
theorem impl_GoodScene_1.calls (a0_0 : ByteArray) (a0_1 : Int) (a0_2 : Int) (a0_3 : Int) (a0_4 : Int) (a0_5 : Bool) (gb28 : Nat) (a1_0_0 : ByteArray) (a1_0_1 : Int) (a1_0_2 : Int) (a1_0_3 : Int) (a1_0_4 : Int) (a1_0_5 : Bool) (r : Bool) (w : World) (hk28 : w.heap[gb28]? = some (.cells #[.string a1_0_0, .int .i64 a1_0_1, .int .i64 a1_0_2, .int .i64 a1_0_3, .int .i64 a1_0_4, .bool a1_0_5] 36 (0, 0))) (h : impl_GoodScene_1.f a0_0 a0_1 a0_2 a0_3 a0_4 a0_5 a1_0_0 a1_0_1 a1_0_2 a1_0_3 a1_0_4 a1_0_5 = some r) :
  Calls Try.prog 38 #[.agg #[.string a0_0, .int .i64 a0_1, .int .i64 a0_2, .int .i64 a0_3, .int .i64 a0_4, .bool a0_5], .pointer (some ⟨gb28, 0, none⟩)] w fun e w' => e = .returned (.bool r) ∧ Below w.heap.size w w' := by
 have hu36 := Try.underlying36
 have BK28 := Aside0.mk hk28
 clear hk28
 have HB := Aside0.mk (Below.refl w.heap.size w)
 have H : (if a0_1 = a1_0_1 then (some (a0_0.toList == a1_0_0.toList)) else (some false)) = some r := h
 clear h
 by_cases c3 : a0_1 = a1_0_1
 ·rw [if_pos c3] at H
  have c3b0 : (a0_1 == a1_0_1) = true := beq_iff_eq.mpr c3
  have c3b1 : (a0_1 != a1_0_1) = false := bne_eq_false_iff_eq.mpr c3
  clear c3
  obtain rfl := Option.some.inj H
  go_enter Try.func38, Try.ntmps38
  go_wp2_with (first | ((with_reducible refine gate_dst (N := 2) rfl ?_); refine box_event rfl (N := 2) rfl (cs := #[.string a0_0, .int .i64 a0_1, .int .i64 a0_2, .int .i64 a0_3, .int .i64 a0_4, .bool a0_5]) (t := 36) sE ?_; intro gb285 hg w4 hbox hb; have BK285 := Aside0.mk hbox; have GW285 := gS w hg (lU); have GE285 := gS w hg (lU); replace HB := bH (lU) hb; have NB28_285 := nL hg (bV BK28); have NB285_28 := nG hg (bV BK28); replace BK28 := bB (bV BK28) hb; clear hb hbox hg; have hnb5 := NB285_28.out; have hnc5 := NB28_285.out; have hcz6_0 := cz BK285 0 (.string a0_0); have hcz6_1 := cz BK285 1 (.int .i64 a0_1); have hcz6_2 := cz BK285 2 (.int .i64 a0_2); have hcz6_3 := cz BK285 3 (.int .i64 a0_3); have hcz6_4 := cz BK285 4 (.int .i64 a0_4); have hcz6_5 := cz BK285 5 (.bool a0_5); have hfz6_0 := fz BK285 0; have hfz6_1 := fz BK285 1; have hfz6_2 := fz BK285 2; have hfz6_3 := fz BK285 3; have hfz6_4 := fz BK285 4; have hfz6_5 := fz BK285 5; have hcz7_0 := cz BK28 0 (.string a1_0_0); have hcz7_1 := cz BK28 1 (.int .i64 a1_0_1); have hcz7_2 := cz BK28 2 (.int .i64 a1_0_2); have hcz7_3 := cz BK28 3 (.int .i64 a1_0_3); have hcz7_4 := cz BK28 4 (.int .i64 a1_0_4); have hcz7_5 := cz BK28 5 (.bool a1_0_5); have hfz7_0 := fz BK28 0; have hfz7_1 := fz BK28 1; have hfz7_2 := fz BK28 2; have hfz7_3 := fz BK28 3; have hfz7_4 := fz BK28 4; have hfz7_5 := fz BK28 5))
  go_ret
  exact ⟨eE, lV1 GE285⟩
 ·rw [if_neg c3] at H
  have c3b0 : (a0_1 == a1_0_1) = false := beq_eq_false_iff_ne.mpr c3
  have c3b1 : (a0_1 != a1_0_1) = true := bne_iff_ne.mpr c3
  obtain rfl := Option.some.inj H
  go_enter Try.func38, Try.ntmps38
  go_wp2_with (first | ((with_reducible refine gate_dst (N := 2) rfl ?_); refine box_event rfl (N := 2) rfl (cs := #[.string a0_0, .int .i64 a0_1, .int .i64 a0_2, .int .i64 a0_3, .int .i64 a0_4, .bool a0_5]) (t := 36) sE ?_; intro gb285 hg w8 hbox hb; have BK285 := Aside0.mk hbox; have GW285 := gS w hg (lU); have GE285 := gS w hg (lU); replace HB := bH (lU) hb; have NB28_285 := nL hg (bV BK28); have NB285_28 := nG hg (bV BK28); replace BK28 := bB (bV BK28) hb; clear hb hbox hg; have hnb9 := NB285_28.out; have hnc9 := NB28_285.out; have hcz10_0 := cz BK285 0 (.string a0_0); have hcz10_1 := cz BK285 1 (.int .i64 a0_1); have hcz10_2 := cz BK285 2 (.int .i64 a0_2); have hcz10_3 := cz BK285 3 (.int .i64 a0_3); have hcz10_4 := cz BK285 4 (.int .i64 a0_4); have hcz10_5 := cz BK285 5 (.bool a0_5); have hfz10_0 := fz BK285 0; have hfz10_1 := fz BK285 1; have hfz10_2 := fz BK285 2; have hfz10_3 := fz BK285 3; have hfz10_4 := fz BK285 4; have hfz10_5 := fz BK285 5; have hcz11_0 := cz BK28 0 (.string a1_0_0); have hcz11_1 := cz BK28 1 (.int .i64 a1_0_1); have hcz11_2 := cz BK28 2 (.int .i64 a1_0_2); have hcz11_3 := cz BK28 3 (.int .i64 a1_0_3); have hcz11_4 := cz BK28 4 (.int .i64 a1_0_4); have hcz11_5 := cz BK28 5 (.bool a1_0_5); have hfz11_0 := fz BK28 0; have hfz11_1 := fz BK28 1; have hfz11_2 := fz BK28 2; have hfz11_3 := fz BK28 3; have hfz11_4 := fz BK28 4; have hfz11_5 := fz BK28 5))
  go_ret
  exact ⟨eE, lV1 GE285⟩
def slices_IndexFunc_w38.l0 : Nat → List (S36) → Int → Int → ByteArray → Int → Int → Int → Int → Bool → Option (Int)
 | 0, _, _, _, _, _, _, _, _, _ => none
 | k + 1, x0, x7, x8, x29000, x29001, x29002, x29003, x29004, x29005 => if x8 < x7 then (if 0 ≤ x8 then (if x8 < (x0.length : Int) then ((impl_GoodScene_1.f ((rd_T36 x0 x8).f0) ((rd_T36 x0 x8).f1) ((rd_T36 x0 x8).f2) ((rd_T36 x0 x8).f3) ((rd_T36 x0 x8).f4) ((rd_T36 x0 x8).f5) x29000 x29001 x29002 x29003 x29004 x29005).bind fun t287 => (if t287 = true then (some x8) else (slices_IndexFunc_w38.l0 k x0 x7 (wrap64 (x8 + 1)) x29000 x29001 x29002 x29003 x29004 x29005))) else (none)) else (none)) else (some (-1))
def slices_IndexFunc_w38.f (k : Nat) (l0 : List (S36)) (a1_0_0 : ByteArray) (a1_0_1 : Int) (a1_0_2 : Int) (a1_0_3 : Int) (a1_0_4 : Int) (a1_0_5 : Bool) : Option (Int) := slices_IndexFunc_w38.l0 k l0 (l0.length : Int) 0 a1_0_0 a1_0_1 a1_0_2 a1_0_3 a1_0_4 a1_0_5
theorem slices_IndexFunc_w38.mono_l : ∀ k, (∀ y0 y1 y2 y3 y4 y5 y6 y7 y8, LeO (slices_IndexFunc_w38.l0 k y0 y1 y2 y3 y4 y5 y6 y7 y8) (slices_IndexFunc_w38.l0 (k + 1) y0 y1 y2 y3 y4 y5 y6 y7 y8))
 | 0 => fun _ _ _ _ _ _ _ _ _ r h => by simp [slices_IndexFunc_w38.l0] at h
 | k + 1 => by
  have ih0 := slices_IndexFunc_w38.mono_l k
  ·intro y0 y1 y2 y3 y4 y5 y6 y7 y8
   unfold slices_IndexFunc_w38.l0
   repeat' first
   | (with_reducible exact ih0 _ _ _ _ _ _ _ _ _)
   | (with_reducible first | exact LeO.refl _ | exact LeO.none _ | refine LeO.ite ?_ ?_ | refine LeO.bind ?_ (fun _ => ?_))
   | exact ih0 _ _ _ _ _ _ _ _ _ | exact LeO.none _ | refine LeO.ite ?_ ?_ | refine LeO.bind ?_ (fun _ => ?_)
theorem slices_IndexFunc_w38.mono : ∀ a0 a1 a2 a3 a4 a5 a6 k, LeO (slices_IndexFunc_w38.f k a0 a1 a2 a3 a4 a5 a6) (slices_IndexFunc_w38.f (k + 1) a0 a1 a2 a3 a4 a5 a6) := by
 intro a0 a1 a2 a3 a4 a5 a6 k
 have ih0 := slices_IndexFunc_w38.mono_l k
 unfold slices_IndexFunc_w38.f
 repeat' first
   | (with_reducible exact ih0 _ _ _ _ _ _ _ _ _)
   | (with_reducible first | exact LeO.refl _ | exact LeO.none _ | refine LeO.ite ?_ ?_ | refine LeO.bind ?_ (fun _ => ?_))
   | exact ih0 _ _ _ _ _ _ _ _ _ | exact LeO.none _ | refine LeO.ite ?_ ?_ | refine LeO.bind ?_ (fun _ => ?_)
set_option maxHeartbeats 8000000 in
set_option maxRecDepth 100000 in
theorem slices_IndexFunc_w38.calls (k : Nat) (A0 : Option Addr) (c0 : Nat) (l0 : List (S36)) (gb28 : Nat) (a1_0_0 : ByteArray) (a1_0_1 : Int) (a1_0_2 : Int) (a1_0_3 : Int) (a1_0_4 : Int) (a1_0_5 : Bool) (r : Int) (w : World) (hr0 : Kd.C k36 w A0 l0.length l0) (hc0 : l0.length ≤ c0) (hk28 : w.heap[gb28]? = some (.cells #[.string a1_0_0, .int .i64 a1_0_1, .int .i64 a1_0_2, .int .i64 a1_0_3, .int .i64 a1_0_4, .bool a1_0_5] 36 (0, 0))) (h : slices_IndexFunc_w38.f k l0 a1_0_0 a1_0_1 a1_0_2 a1_0_3 a1_0_4 a1_0_5 = some r) :
  Calls Try.prog 45 #[.slice A0 l0.length c0, .func (.func 38) #[] #[.pointer (some ⟨gb28, 0, none⟩)]] w fun e w' => e = .returned (.int .i64 r) ∧ Below w.heap.size w w' := by
 have hu36 := Try.underlying36
 have HR0 := Aside0.mk hr0
 have HC0 := Aside0.mk hc0
 clear hr0 hc0
 have BK28 := Aside0.mk hk28
 clear hk28
 have HB := Aside0.mk (Below.refl w.heap.size w)
 have H : (slices_IndexFunc_w38.l0 k l0 (l0.length : Int) 0 a1_0_0 a1_0_1 a1_0_2 a1_0_3 a1_0_4 a1_0_5) = some r := h
 clear h
 have H' := Aside0.mk H
 clear H
 go_enter Try.func45, Try.ntmps45
 go_wp2
 go_loopg [8] k (fun kq v8 w' => ∃ (x8_1 : Int), v8 = .int .i64 x8_1 ∧ Aside0 (slices_IndexFunc_w38.l0 kq l0 (l0.length : Int) x8_1 a1_0_0 a1_0_1 a1_0_2 a1_0_3 a1_0_4 a1_0_5 = some r) ∧ Aside0 (kq ≤ k) ∧ Aside0 (w'.heap[gb28]? = some (.cells #[.string a1_0_0, .int .i64 a1_0_1, .int .i64 a1_0_2, .int .i64 a1_0_3, .int .i64 a1_0_4, .bool a1_0_5] 36 (0, 0))) ∧ Aside0 (Below w.heap.size w w'))
 case atStart => exact ⟨(0), tE, H', ⟨Nat.le_refl _⟩, ⟨by refine bU ?_; exact BK28.out⟩, ⟨by repeat (first | (with_reducible first | exact HB.out | apply below_alloc | apply pw_below_drewN | apply below_drew1) | exact HB.out)⟩⟩
 case round =>
  clear H'
  try clear p2
  obtain ⟨x8_1, rfl, HA, HK1, BK28, HB⟩ := hrel
  cases gk with
  | zero => exact absurd HA.out (by simp [slices_IndexFunc_w38.l0])
  | succ k1 =>
   have H := HA.out
   clear HA
   simp only [slices_IndexFunc_w38.l0] at H
   by_cases c3 : x8_1 < (l0.length : Int)
   ·rw [if_pos c3] at H
    have c3b0 : decide (x8_1 < (l0.length : Int)) = true := decide_eq_true c3
    clear c3
    by_cases c4 : 0 ≤ x8_1
    ·rw [if_pos c4] at H
     have c4b0 : decide (0 ≤ x8_1) = true := decide_eq_true c4
     clear c4
     by_cases c5 : x8_1 < (l0.length : Int)
     ·rw [if_pos c5] at H
      have c5b0 : decide (x8_1 < (l0.length : Int)) = true := decide_eq_true c5
      clear c5
      replace H := Option.bind_eq_some_iff.mp H
      obtain ⟨t287, A60, H⟩ := H
      replace H : (if t287 = true then (some x8_1) else (slices_IndexFunc_w38.l0 k1 l0 (l0.length : Int) (wrap64 (x8_1 + 1)) a1_0_0 a1_0_1 a1_0_2 a1_0_3 a1_0_4 a1_0_5)) = some r := H
      have A6 := Aside0.mk A60
      clear A60
      by_cases c7 : t287 = true
      ·subst c7
       have H1 : (some x8_1) = some r := by rw [if_pos rfl] at H; exact H
       clear H
       have H := H1
       clear H1
       obtain rfl := Option.some.inj H
       have p286 : 0 ≤ (x8_1 : Int) := of_decide_eq_true hE
       have q286 : x8_1 < (l0.length : Int) := of_decide_eq_true hE
       obtain ⟨ad286, e286, hx286_0, hx286_1, hx286_2, hx286_3, hx286_4, hx286_5⟩ := at_T36 HR0.out x8_1 p286 q286
       cases e286
       replace hx286_0 := (HB.out.cell (World.block_lt_of_cell? w _ hx286_0)).trans hx286_0
       replace hx286_1 := (HB.out.cell (World.block_lt_of_cell? w _ hx286_1)).trans hx286_1
       replace hx286_2 := (HB.out.cell (World.block_lt_of_cell? w _ hx286_2)).trans hx286_2
       replace hx286_3 := (HB.out.cell (World.block_lt_of_cell? w _ hx286_3)).trans hx286_3
       replace hx286_4 := (HB.out.cell (World.block_lt_of_cell? w _ hx286_4)).trans hx286_4
       replace hx286_5 := (HB.out.cell (World.block_lt_of_cell? w _ hx286_5)).trans hx286_5
       replace p286 := eq_true p286
       replace q286 := eq_true q286
       go_wp2_with (first | ((with_reducible refine gateD_ rfl ?_); refine goesC_ (some 16) rfl rfl Try.func38 (by kernel_rfl) rfl rfl rfl #[.agg #[.string ((rd_T36 l0 x8_1).f0), .int .i64 ((rd_T36 l0 x8_1).f1), .int .i64 ((rd_T36 l0 x8_1).f2), .int .i64 ((rd_T36 l0 x8_1).f3), .int .i64 ((rd_T36 l0 x8_1).f4), .bool ((rd_T36 l0 x8_1).f5)], .pointer (some ⟨gb28, 0, none⟩)] aE ?_; (with_reducible refine (impl_GoodScene_1.calls ((rd_T36 l0 x8_1).f0) ((rd_T36 l0 x8_1).f1) ((rd_T36 l0 x8_1).f2) ((rd_T36 l0 x8_1).f3) ((rd_T36 l0 x8_1).f4) ((rd_T36 l0 x8_1).f5) gb28 a1_0_0 a1_0_1 a1_0_2 a1_0_3 a1_0_4 a1_0_5 true _ ?side1 A6.out).mono ?_); (case side1 => refine bU ?_; exact BK28.out); rintro e w8 ⟨rfl, hb⟩; refine ⟨_, rfl, ?_⟩; replace BK28 := bB (bV BK28) hb; replace HB := bH (lU) hb; (try clear hb)))
       go_ret
       exact ⟨eE, lU⟩
      ·replace c7 := Bool.eq_false_iff.mpr c7
       subst c7
       have H1 : (slices_IndexFunc_w38.l0 k1 l0 (l0.length : Int) (wrap64 (x8_1 + 1)) a1_0_0 a1_0_1 a1_0_2 a1_0_3 a1_0_4 a1_0_5) = some r := by rw [if_neg (show ¬ (false = true) by decide)] at H; exact H
       clear H
       have H := H1
       clear H1
       have H' := Aside0.mk H
       clear H
       have p286 : 0 ≤ (x8_1 : Int) := of_decide_eq_true hE
       have q286 : x8_1 < (l0.length : Int) := of_decide_eq_true hE
       obtain ⟨ad286, e286, hx286_0, hx286_1, hx286_2, hx286_3, hx286_4, hx286_5⟩ := at_T36 HR0.out x8_1 p286 q286
       cases e286
       replace hx286_0 := (HB.out.cell (World.block_lt_of_cell? w _ hx286_0)).trans hx286_0
       replace hx286_1 := (HB.out.cell (World.block_lt_of_cell? w _ hx286_1)).trans hx286_1
       replace hx286_2 := (HB.out.cell (World.block_lt_of_cell? w _ hx286_2)).trans hx286_2
       replace hx286_3 := (HB.out.cell (World.block_lt_of_cell? w _ hx286_3)).trans hx286_3
       replace hx286_4 := (HB.out.cell (World.block_lt_of_cell? w _ hx286_4)).trans hx286_4
       replace hx286_5 := (HB.out.cell (World.block_lt_of_cell? w _ hx286_5)).trans hx286_5
       replace p286 := eq_true p286
       replace q286 := eq_true q286
       go_wp2_with (first | ((with_reducible refine gateD_ rfl ?_); refine goesC_ (some 16) rfl rfl Try.func38 (by kernel_rfl) rfl rfl rfl #[.agg #[.string ((rd_T36 l0 x8_1).f0), .int .i64 ((rd_T36 l0 x8_1).f1), .int .i64 ((rd_T36 l0 x8_1).f2), .int .i64 ((rd_T36 l0 x8_1).f3), .int .i64 ((rd_T36 l0 x8_1).f4), .bool ((rd_T36 l0 x8_1).f5)], .pointer (some ⟨gb28, 0, none⟩)] aE ?_; (with_reducible refine (impl_GoodScene_1.calls ((rd_T36 l0 x8_1).f0) ((rd_T36 l0 x8_1).f1) ((rd_T36 l0 x8_1).f2) ((rd_T36 l0 x8_1).f3) ((rd_T36 l0 x8_1).f4) ((rd_T36 l0 x8_1).f5) gb28 a1_0_0 a1_0_1 a1_0_2 a1_0_3 a1_0_4 a1_0_5 false _ ?side1 A6.out).mono ?_); (case side1 => refine bU ?_; exact BK28.out); rintro e w9 ⟨rfl, hb⟩; refine ⟨_, rfl, ?_⟩; replace BK28 := bB (bV BK28) hb; replace HB := bH (lU) hb; (try clear hb)))
       go_roundg k1
       case measure => have := HK1.out; omega
       case rel => exact ⟨(wrap64 (x8_1 + 1)), tE, H', ⟨by have := HK1.out; omega⟩, ⟨by refine bU ?_; exact BK28.out⟩, ⟨by repeat (first | (with_reducible first | exact HB.out | apply below_alloc | apply pw_below_drewN | apply below_drew1) | exact HB.out)⟩⟩
     ·rw [if_neg c5] at H
      exact absurd H (by simp)
    ·rw [if_neg c4] at H
     exact absurd H (by simp)
   ·rw [if_neg c3] at H
    have c3b0 : decide (x8_1 < (l0.length : Int)) = false := decide_eq_false c3
    clear c3
    obtain rfl := Option.some.inj H
    go_wp2
    go_ret
    exact ⟨eE, lU⟩
def slices_ContainsFunc_w38.f (k : Nat) (l0 : List (S36)) (a1_0_0 : ByteArray) (a1_0_1 : Int) (a1_0_2 : Int) (a1_0_3 : Int) (a1_0_4 : Int) (a1_0_5 : Bool) : Option (Bool) := (slices_IndexFunc_w38.f k l0 a1_0_0 a1_0_1 a1_0_2 a1_0_3 a1_0_4 a1_0_5).bind fun t288 => (some (decide (t288 ≥ 0)))
theorem slices_ContainsFunc_w38.mono : ∀ a0 a1 a2 a3 a4 a5 a6 k, LeO (slices_ContainsFunc_w38.f k a0 a1 a2 a3 a4 a5 a6) (slices_ContainsFunc_w38.f (k + 1) a0 a1 a2 a3 a4 a5 a6) := by
 intro a0 a1 a2 a3 a4 a5 a6 k
 unfold slices_ContainsFunc_w38.f
 repeat' first
   | (with_reducible exact slices_IndexFunc_w38.mono _ _ _ _ _ _ _ _)
   | (with_reducible first | exact LeO.refl _ | exact LeO.none _ | refine LeO.ite ?_ ?_ | refine LeO.bind ?_ (fun _ => ?_))
   | exact slices_IndexFunc_w38.mono _ _ _ _ _ _ _ _ | exact LeO.none _ | refine LeO.ite ?_ ?_ | refine LeO.bind ?_ (fun _ => ?_)
set_option maxHeartbeats 8000000 in
set_option maxRecDepth 100000 in
theorem slices_ContainsFunc_w38.calls (k : Nat) (A0 : Option Addr) (c0 : Nat) (l0 : List (S36)) (gb28 : Nat) (a1_0_0 : ByteArray) (a1_0_1 : Int) (a1_0_2 : Int) (a1_0_3 : Int) (a1_0_4 : Int) (a1_0_5 : Bool) (r : Bool) (w : World) (hr0 : Kd.C k36 w A0 l0.length l0) (hc0 : l0.length ≤ c0) (hk28 : w.heap[gb28]? = some (.cells #[.string a1_0_0, .int .i64 a1_0_1, .int .i64 a1_0_2, .int .i64 a1_0_3, .int .i64 a1_0_4, .bool a1_0_5] 36 (0, 0))) (h : slices_ContainsFunc_w38.f k l0 a1_0_0 a1_0_1 a1_0_2 a1_0_3 a1_0_4 a1_0_5 = some r) :
  Calls Try.prog 37 #[.slice A0 l0.length c0, .func (.func 38) #[] #[.pointer (some ⟨gb28, 0, none⟩)]] w fun e w' => e = .returned (.bool r) ∧ Below w.heap.size w w' := by
 have HR0 := Aside0.mk hr0
 have HC0 := Aside0.mk hc0
 clear hr0 hc0
 have BK28 := Aside0.mk hk28
 clear hk28
 have HB := Aside0.mk (Below.refl w.heap.size w)
 have H : ((slices_IndexFunc_w38.f k l0 a1_0_0 a1_0_1 a1_0_2 a1_0_3 a1_0_4 a1_0_5).bind fun t288 => (some (decide (t288 ≥ 0)))) = some r := h
 clear h
 replace H := Option.bind_eq_some_iff.mp H
 obtain ⟨t288, A30, H⟩ := H
 replace H : (some (decide (t288 ≥ 0))) = some r := H
 have A3 := Aside0.mk A30
 clear A30
 obtain rfl := Option.some.inj H
 go_enter Try.func37, Try.ntmps37
 go_wp2_with (first | ((with_reducible refine gate_callee (f := 45) rfl ?_); refine goesL_ (some 7) rfl rfl Try.func45 (by kernel_rfl) rfl #[.slice A0 l0.length c0, .func (.func 38) #[] #[.pointer (some ⟨gb28, 0, none⟩)]] rfl aE ?_; (with_reducible refine (slices_IndexFunc_w38.calls k _ _ l0 gb28 a1_0_0 a1_0_1 a1_0_2 a1_0_3 a1_0_4 a1_0_5 t288 _ ?side1 ?side2 ?side3 A3.out).mono ?_); (case side1 => repeat (first | exact HR0.out | (with_reducible refine Kd.C_alloc ?_ _) | (with_reducible refine Kd.C_drewN ?_ _) | (with_reducible refine Kd.C_drew ?_))); (case side2 => exact HC0.out); (case side3 => refine bU ?_; exact BK28.out); rintro e w4 ⟨rfl, hb⟩; refine ⟨_, rfl, ?_⟩; replace BK28 := bB (bV BK28) hb; replace HB := bH (lU) hb; (try clear hb)))
 go_ret
 exact ⟨eE, lU⟩
end Go.Proofs.Ytmmgmbmjlbdpnaa.PFnPlaced
