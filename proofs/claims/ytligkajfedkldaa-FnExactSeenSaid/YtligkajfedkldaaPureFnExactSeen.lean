/- The law FnExactSeen over plain lists: it answers true. No condition beyond the numbers' own kinds and what fits in memory. -/
import Derived.Test.YtligkajfedkldaaPFnExactSeenx5
import Derived.Test.YtligkajfedkldaaOpenFnExactSeen
import Derived.Test.YtligkajfedkldaaPlain
namespace Go.Proofs.Ytligkajfedkldaa.Pure
open Go.RowKit Go.Proofs.Ytligkajfedkldaa.PFnExactSeen Go.Proofs.Ytligkajfedkldaa.OFnExactSeen Go.Proofs.YtligkajfedkldaaW.PrintWords Go.Proofs.YtligkajfedkldaaW.PrintLast Go.Proofs.YtligkajfedkldaaW.PrintMore Go.Proofs.YtligkajfedkldaaO
set_option linter.unusedVariables false
set_option linter.unusedSimpArgs false

theorem st_spec_Seen_j0 {r : (List Int × Bool)} {x0 : List (S159)} {x16 : Bool} {x115000 : Int} {x115001 : Int} {x115002 : Int} {x115003 : Int} (h : Ev (fun k => if x16 = true then (some (([] : List Int), false)) else (spec_Seen.l0 k ([] : List Int) x0 (x0.length : Int) 0 x115000 x115001 x115002 x115003)) r) : Ev (fun k => spec_Seen.j0 k x0 x16 x115000 x115001 x115002 x115003) r := Ev.step (fun k => by rw [spec_Seen.j0]) h
theorem st_spec_Seen_l0 {r : (List Int × Bool)} {x6 : List Int} {x17 : List (S159)} {x18 : Int} {x19 : Int} {x115000 : Int} {x115001 : Int} {x115002 : Int} {x115003 : Int} (h : Ev (fun k => if x19 < x18 then (if 0 ≤ x19 then (if x19 < (x17.length : Int) then ((spec_GoodItem.f ((rd_T159 x17 x19).f0) ((rd_T159 x17 x19).f1) ((rd_T159 x17 x19).f2) ((rd_T159 x17 x19).f3) ((rd_T159 x17 x19).f4) ((rd_T159 x17 x19).f5.f0) ((rd_T159 x17 x19).f5.f1) ((rd_T159 x17 x19).f5.f2) ((rd_T159 x17 x19).f5.f3)).bind fun t118 => (if t118 = true then ((spec_l20Meet.f ((rd_T159 x17 x19).f5.f0) ((rd_T159 x17 x19).f5.f1) ((rd_T159 x17 x19).f5.f2) ((rd_T159 x17 x19).f5.f3) x115000 x115001 x115002 x115003).bind fun t119 => (if t119 = true then (if x6.length < 17592186044416 then (spec_Seen.l0 k (x6 ++ [x19]) x17 x18 (wrap64 (x19 + 1)) x115000 x115001 x115002 x115003) else (none)) else (spec_Seen.l0 k x6 x17 x18 (wrap64 (x19 + 1)) x115000 x115001 x115002 x115003))) else (some (([] : List Int), false)))) else (none)) else (none)) else (some (x6, true))) r) : Ev (fun k => spec_Seen.l0 k x6 x17 x18 x19 x115000 x115001 x115002 x115003) r := Ev.step (fun k => by rw [spec_Seen.l0]) h
theorem st_laws_toItemS_l0 {r : ((List (S159)))} {x0 : List (S164)} {x3 : List (S159)} {x4 : Int} (h : Ev (fun k => if x4 < (x0.length : Int) then (if 0 ≤ x4 then ((laws_toItem.f ((rd_T164 x0 x4).f0) ((rd_T164 x0 x4).f1) ((rd_T164 x0 x4).f2) ((rd_T164 x0 x4).f3) ((rd_T164 x0 x4).f4) ((rd_T164 x0 x4).f5.f0) ((rd_T164 x0 x4).f5.f1) ((rd_T164 x0 x4).f5.f2) ((rd_T164 x0 x4).f5.f3)).bind fun bt137 => (if x4 < (x3.length : Int) then (laws_toItemS.l0 k x0 (x3.set (x4 : Int).toNat (⟨bt137.1, bt137.2.1, bt137.2.2.1, bt137.2.2.2.1, bt137.2.2.2.2.1, (⟨bt137.2.2.2.2.2.1, bt137.2.2.2.2.2.2.1, bt137.2.2.2.2.2.2.2.1, bt137.2.2.2.2.2.2.2.2⟩ : S53)⟩ : S159)) (wrap64 (x4 + 1))) else (none))) else (none)) else (some x3)) r) : Ev (fun k => laws_toItemS.l0 k x0 x3 x4) r := Ev.step (fun k => by rw [laws_toItemS.l0]) h
theorem st_slices_IndexFunc_w112_l0 {r : (Int)} {x0 : List (S159)} {x7 : Int} {x8 : Int} (h : Ev (fun k => if x8 < x7 then (if 0 ≤ x8 then (if x8 < (x0.length : Int) then ((impl_Seen_1.f ((rd_T159 x0 x8).f0) ((rd_T159 x0 x8).f1) ((rd_T159 x0 x8).f2) ((rd_T159 x0 x8).f3) ((rd_T159 x0 x8).f4) ((rd_T159 x0 x8).f5.f0) ((rd_T159 x0 x8).f5.f1) ((rd_T159 x0 x8).f5.f2) ((rd_T159 x0 x8).f5.f3)).bind fun t164 => (if t164 = true then (some x8) else (slices_IndexFunc_w112.l0 k x0 x7 (wrap64 (x8 + 1))))) else (none)) else (none)) else (some (-1))) r) : Ev (fun k => slices_IndexFunc_w112.l0 k x0 x7 x8) r := Ev.step (fun k => by rw [slices_IndexFunc_w112.l0]) h
theorem st_impl_Seen_j0 {r : (List Int × Bool)} {x0 : List (S159)} {x20 : Bool} {x167000 : Int} {x167001 : Int} {x167002 : Int} {x167003 : Int} (h : Ev (fun k => if x20 = true then (some (([] : List Int), false)) else (impl_Seen.l0 k (([] : List Int)) x0 (x0.length : Int) 0 x167000 x167001 x167002 x167003)) r) : Ev (fun k => impl_Seen.j0 k x0 x20 x167000 x167001 x167002 x167003) r := Ev.step (fun k => by rw [impl_Seen.j0]) h
theorem st_impl_Seen_l0 {r : (List Int × Bool)} {x6 : List Int} {x22 : List (S159)} {x23 : Int} {x24 : Int} {x167000 : Int} {x167001 : Int} {x167002 : Int} {x167003 : Int} (h : Ev (fun k => if x24 < x23 then (if 0 ≤ x24 then (if x24 < (x22.length : Int) then ((impl_overlaps.f ((rd_T159 x22 x24).f5.f0) ((rd_T159 x22 x24).f5.f1) ((rd_T159 x22 x24).f5.f2) ((rd_T159 x22 x24).f5.f3) x167000 x167001 x167002 x167003).bind fun t174 => (if t174 = true then (if x6.length < 17592186044416 then (impl_Seen.l0 k (x6 ++ [x24]) x22 x23 (wrap64 (x24 + 1)) x167000 x167001 x167002 x167003) else (none)) else (impl_Seen.l0 k x6 x22 x23 (wrap64 (x24 + 1)) x167000 x167001 x167002 x167003))) else (none)) else (none)) else (some (x6, true))) r) : Ev (fun k => impl_Seen.l0 k x6 x22 x23 x24 x167000 x167001 x167002 x167003) r := Ev.step (fun k => by rw [impl_Seen.l0]) h
theorem st_laws_eqIntS_l0 {r : (Bool)} {x0 : List Int} {x1 : List Int} {x5 : Int} (h : Ev (fun k => if x5 < (x0.length : Int) then (if 0 ≤ x5 then (if x5 < (x1.length : Int) then (if (rd x0 x5) = (rd x1 x5) then (laws_eqIntS.l0 k x0 x1 (wrap64 (x5 + 1))) else (some false)) else (none)) else (none)) else (some true)) r) : Ev (fun k => laws_eqIntS.l0 k x0 x1 x5) r := Ev.step (fun k => by rw [laws_eqIntS.l0]) h
theorem st_laws_eqItemS_l0 {r : (Bool)} {x0 : List (S159)} {x1 : List (S159)} {x5 : Int} (h : Ev (fun k => if x5 < (x0.length : Int) then (if 0 ≤ x5 then (if x5 < (x1.length : Int) then ((laws_eqItem.f ((rd_T159 x0 x5).f0) ((rd_T159 x0 x5).f1) ((rd_T159 x0 x5).f2) ((rd_T159 x0 x5).f3) ((rd_T159 x0 x5).f4) ((rd_T159 x0 x5).f5.f0) ((rd_T159 x0 x5).f5.f1) ((rd_T159 x0 x5).f5.f2) ((rd_T159 x0 x5).f5.f3) ((rd_T159 x1 x5).f0) ((rd_T159 x1 x5).f1) ((rd_T159 x1 x5).f2) ((rd_T159 x1 x5).f3) ((rd_T159 x1 x5).f4) ((rd_T159 x1 x5).f5.f0) ((rd_T159 x1 x5).f5.f1) ((rd_T159 x1 x5).f5.f2) ((rd_T159 x1 x5).f5.f3)).bind fun t187 => (if t187 = true then (laws_eqItemS.l0 k x0 x1 (wrap64 (x5 + 1))) else (some false))) else (none)) else (none)) else (some true)) r) : Ev (fun k => laws_eqItemS.l0 k x0 x1 x5) r := Ev.step (fun k => by rw [laws_eqItemS.l0]) h
theorem st_laws_markItemS_l0 {r : (Int × (List (S159)))} {x0 : List (S159)} {x1 : Int} {x5 : Int} (h : Ev (fun k => if x5 < (x0.length : Int) then (if 0 ≤ x5 then ((some (x0.set (x5 : Int).toNat (⟨x1, (rd_T159 x0 x5).f1, (rd_T159 x0 x5).f2, (rd_T159 x0 x5).f3, (rd_T159 x0 x5).f4, (⟨(rd_T159 x0 x5).f5.f0, (rd_T159 x0 x5).f5.f1, (rd_T159 x0 x5).f5.f2, (rd_T159 x0 x5).f5.f3⟩ : S53)⟩ : S159) : List (S159))).bind fun y188 => ((some (y188.set (x5 : Int).toNat (⟨(rd_T159 y188 x5).f0, wrap64 (x1 + 1), (rd_T159 y188 x5).f2, (rd_T159 y188 x5).f3, (rd_T159 y188 x5).f4, (⟨(rd_T159 y188 x5).f5.f0, (rd_T159 y188 x5).f5.f1, (rd_T159 y188 x5).f5.f2, (rd_T159 y188 x5).f5.f3⟩ : S53)⟩ : S159) : List (S159))).bind fun y189 => ((some (y189.set (x5 : Int).toNat (⟨(rd_T159 y189 x5).f0, (rd_T159 y189 x5).f1, wrap64 ((wrap64 (x1 + 1)) + 1), (rd_T159 y189 x5).f3, (rd_T159 y189 x5).f4, (⟨(rd_T159 y189 x5).f5.f0, (rd_T159 y189 x5).f5.f1, (rd_T159 y189 x5).f5.f2, (rd_T159 y189 x5).f5.f3⟩ : S53)⟩ : S159) : List (S159))).bind fun y190 => ((some (y190.set (x5 : Int).toNat (⟨(rd_T159 y190 x5).f0, (rd_T159 y190 x5).f1, (rd_T159 y190 x5).f2, wrap64 ((wrap64 ((wrap64 (x1 + 1)) + 1)) + 1), (rd_T159 y190 x5).f4, (⟨(rd_T159 y190 x5).f5.f0, (rd_T159 y190 x5).f5.f1, (rd_T159 y190 x5).f5.f2, (rd_T159 y190 x5).f5.f3⟩ : S53)⟩ : S159) : List (S159))).bind fun y191 => ((some (y191.set (x5 : Int).toNat (⟨(rd_T159 y191 x5).f0, (rd_T159 y191 x5).f1, (rd_T159 y191 x5).f2, (rd_T159 y191 x5).f3, ((Int.tmod (wrap64 ((wrap64 ((wrap64 ((wrap64 (x1 + 1)) + 1)) + 1)) + 1)) 3) == 0), (⟨(rd_T159 y191 x5).f5.f0, (rd_T159 y191 x5).f5.f1, (rd_T159 y191 x5).f5.f2, (rd_T159 y191 x5).f5.f3⟩ : S53)⟩ : S159) : List (S159))).bind fun y192 => ((some (y192.set (x5 : Int).toNat (⟨(rd_T159 y192 x5).f0, (rd_T159 y192 x5).f1, (rd_T159 y192 x5).f2, (rd_T159 y192 x5).f3, (rd_T159 y192 x5).f4, (⟨wrap64 ((wrap64 ((wrap64 ((wrap64 ((wrap64 (x1 + 1)) + 1)) + 1)) + 1)) + 1), (rd_T159 y192 x5).f5.f1, (rd_T159 y192 x5).f5.f2, (rd_T159 y192 x5).f5.f3⟩ : S53)⟩ : S159) : List (S159))).bind fun y193 => ((some (y193.set (x5 : Int).toNat (⟨(rd_T159 y193 x5).f0, (rd_T159 y193 x5).f1, (rd_T159 y193 x5).f2, (rd_T159 y193 x5).f3, (rd_T159 y193 x5).f4, (⟨(rd_T159 y193 x5).f5.f0, wrap64 ((wrap64 ((wrap64 ((wrap64 ((wrap64 ((wrap64 (x1 + 1)) + 1)) + 1)) + 1)) + 1)) + 1), (rd_T159 y193 x5).f5.f2, (rd_T159 y193 x5).f5.f3⟩ : S53)⟩ : S159) : List (S159))).bind fun y194 => ((some (y194.set (x5 : Int).toNat (⟨(rd_T159 y194 x5).f0, (rd_T159 y194 x5).f1, (rd_T159 y194 x5).f2, (rd_T159 y194 x5).f3, (rd_T159 y194 x5).f4, (⟨(rd_T159 y194 x5).f5.f0, (rd_T159 y194 x5).f5.f1, wrap64 ((wrap64 ((wrap64 ((wrap64 ((wrap64 ((wrap64 ((wrap64 (x1 + 1)) + 1)) + 1)) + 1)) + 1)) + 1)) + 1), (rd_T159 y194 x5).f5.f3⟩ : S53)⟩ : S159) : List (S159))).bind fun y195 => (laws_markItemS.l0 k (y195.set (x5 : Int).toNat (⟨(rd_T159 y195 x5).f0, (rd_T159 y195 x5).f1, (rd_T159 y195 x5).f2, (rd_T159 y195 x5).f3, (rd_T159 y195 x5).f4, (⟨(rd_T159 y195 x5).f5.f0, (rd_T159 y195 x5).f5.f1, (rd_T159 y195 x5).f5.f2, wrap64 ((wrap64 ((wrap64 ((wrap64 ((wrap64 ((wrap64 ((wrap64 ((wrap64 (x1 + 1)) + 1)) + 1)) + 1)) + 1)) + 1)) + 1)) + 1)⟩ : S53)⟩ : S159)) (wrap64 ((wrap64 ((wrap64 ((wrap64 ((wrap64 ((wrap64 ((wrap64 ((wrap64 ((wrap64 (x1 + 1)) + 1)) + 1)) + 1)) + 1)) + 1)) + 1)) + 1)) + 1)) (wrap64 (x5 + 1))))))))))) else (none)) else (some (x1, x0))) r) : Ev (fun k => laws_markItemS.l0 k x0 x1 x5) r := Ev.step (fun k => by rw [laws_markItemS.l0]) h
theorem st_laws_markIntS_l0 {r : (Int × List Int)} {x0 : List Int} {x1 : Int} {x5 : Int} (h : Ev (fun k => if x5 < (x0.length : Int) then (if 0 ≤ x5 then (laws_markIntS.l0 k (x0.set (x5 : Int).toNat x1) (wrap64 (x1 + 1)) (wrap64 (x5 + 1))) else (none)) else (some (x1, x0))) r) : Ev (fun k => laws_markIntS.l0 k x0 x1 x5) r := Ev.step (fun k => by rw [laws_markIntS.l0]) h
theorem st_laws_heldIntS_l0 {r : (Int)} {x0 : List Int} {x1 : Int} {x5 : Int} (h : Ev (fun k => if x5 < (x0.length : Int) then (if 0 ≤ x5 then (if (rd x0 x5) = x1 then (laws_heldIntS.l0 k x0 (wrap64 (x1 + 1)) (wrap64 (x5 + 1))) else (some (-1))) else (none)) else (some x1)) r) : Ev (fun k => laws_heldIntS.l0 k x0 x1 x5) r := Ev.step (fun k => by rw [laws_heldIntS.l0]) h
theorem st_laws_FnExactSeen_j0 {r : (Bool)} {x0 : List (S164)} {x6 : List Int} {x7 : Bool} {x8 : List (S159)} {x9 : List Int} {x10 : Bool} {x46 : Bool} {x200000 : Int} {x200001 : Int} {x200002 : Int} {x200003 : Int} (h : Ev (fun k => if x46 = true then (some false) else ((laws_toItemS.f k x0).bind fun t224 => ((laws_eqItemS.f k x8 t224).bind fun t227 => (if t227 = true then ((laws_markItemS.f k x8 1).bind fun bt228 => (if bt228.1 < 0 then (laws_FnExactSeen.j1 k x0 x6 x7 x9 true x200000 x200001 x200002 x200003) else ((laws_eqIntS.f k x9 x6).bind fun t230 => (if t230 = true then (laws_FnExactSeen.j1 k x0 x6 x7 x9 (x10 != x7) x200000 x200001 x200002 x200003) else (laws_FnExactSeen.j1 k x0 x6 x7 x9 true x200000 x200001 x200002 x200003))))) else (some false))))) r) : Ev (fun k => laws_FnExactSeen.j0 k x0 x6 x7 x8 x9 x10 x46 x200000 x200001 x200002 x200003) r := Ev.step (fun k => by rw [laws_FnExactSeen.j0]) h
theorem st_laws_FnExactSeen_j1 {r : (Bool)} {x0 : List (S164)} {x6 : List Int} {x7 : Bool} {x9 : List Int} {x67 : Bool} {x200000 : Int} {x200001 : Int} {x200002 : Int} {x200003 : Int} (h : Ev (fun k => if x67 = true then (some false) else ((laws_markIntS.f k x9 1).bind fun bt231 => ((laws_heldIntS.f k bt231.2 1).bind fun t233 => (if t233 < 0 then (some false) else (if t233 = bt231.1 then ((laws_toItemS.f k x0).bind fun t234 => ((laws_toPlaced.f x200000 x200001 x200002 x200003).bind fun bt237 => ((impl_Seen.f k t234 bt237.1 bt237.2.1 bt237.2.2.1 bt237.2.2.2).bind fun bt241 => ((laws_eqIntS.f k bt241.1 x6).bind fun t245 => (if t245 = true then (laws_FnExactSeen.j2 k bt231.2 bt231.1 (bt241.2 != x7)) else (laws_FnExactSeen.j2 k bt231.2 bt231.1 true)))))) else (some false)))))) r) : Ev (fun k => laws_FnExactSeen.j1 k x0 x6 x7 x9 x67 x200000 x200001 x200002 x200003) r := Ev.step (fun k => by rw [laws_FnExactSeen.j1]) h
theorem st_laws_FnExactSeen_j2 {r : (Bool)} {x9 : List Int} {x12 : Int} {x95 : Bool} (h : Ev (fun k => if x95 = true then (some false) else ((laws_heldIntS.f k x9 1).bind fun t246 => (if t246 < 0 then (some false) else (if t246 = x12 then (some true) else (some false))))) r) : Ev (fun k => laws_FnExactSeen.j2 k x9 x12 x95) r := Ev.step (fun k => by rw [laws_FnExactSeen.j2]) h
theorem inr_some (a b c : Int) : impl_inRange.f a b c = some (decide (b ≤ a ∧ a ≤ c)) := by
  unfold impl_inRange.f
  split <;> simp_all <;> omega
theorem in_some (a b c : Int) : spec_l1In.f a b c = some (decide (b ≤ a ∧ a ≤ c)) := by
  unfold spec_l1In.f
  split <;> simp_all <;> omega
theorem in_same (a b c : Int) : impl_inRange.f a b c = spec_l1In.f a b c := rfl
/-! ### the laws' own helpers (by helpgen.py) -/
theorem szItemS_some (xs : List S164) (g : xs.length * 72 ≤ 140737488351232 ∧ ∀ y ∈ xs, Ok164 y) (left : Int) (h0 : 0 ≤ left) (h1 : left ≤ 1048576) : ∃ r, Ev (fun _ => laws_szItemS.f xs left) r ∧ (r < 0 ∨ 0 ≤ r ∧ r ≤ left ∧ xs.length ≤ 1048576) := by
  have g1 := g.1
  unfold laws_szItemS.f
  rw [w64 (n := left - (xs.length : Int)) (by omega) (by omega)]
  refine exev_ite (fun _ => exev_some (.inl (by omega))) fun hc => ?_
  exact exev_some (.inr ⟨by omega, by omega, by omega⟩)
def cv46 (x : S46) : S53 := ⟨x.f0, x.f1, x.f2, x.f3⟩
def cv164 (x : S164) : S159 := ⟨x.f0, x.f1, x.f2, x.f3, x.f4, (cv46 x.f5)⟩
theorem toItemS_ev (xs : List S164) (h : xs.length ≤ 1048576) : Ev (fun k => laws_toItemS.f k xs) (xs.map cv164) := by
  refine ev_pos (by omega) (ev_pos (by have := h; omega) ?_)
  refine ev_copy2 laws_toItemS.l0 (fun k xs i => laws_toItem.f ((rd_T164 xs i).f0) ((rd_T164 xs i).f1) ((rd_T164 xs i).f2) ((rd_T164 xs i).f3) ((rd_T164 xs i).f4) ((rd_T164 xs i).f5.f0) ((rd_T164 xs i).f5.f1) ((rd_T164 xs i).f5.f2) ((rd_T164 xs i).f5.f3)) (fun t => (⟨t.1, t.2.1, t.2.2.1, t.2.2.2.1, t.2.2.2.2.1, (⟨t.2.2.2.2.2.1, t.2.2.2.2.2.2.1, t.2.2.2.2.2.2.2.1, t.2.2.2.2.2.2.2.2⟩ : S53)⟩ : S159)) cv164 (fun _ _ _ _ => rfl) xs (by have := h; omega) (fun i hi => ?_) _ (by simp)
  · have e : rd_T164 xs (i : Int) = xs[i] := getD_get hi
    rw [e]
    exact ⟨_, ev_eq rfl, rfl⟩
theorem eqIntS_ev (xs : List Int) (h : xs.length ≤ 1048576) : Ev (fun k => laws_eqIntS.f k xs xs) true := by
  refine ev_pos rfl ?_
  refine ev_for1 xs.length (fun k i (_ : Unit) => laws_eqIntS.l0 k xs xs (i : Int)) (fun _ _ => True) true ?_ ?_ 0 () (Nat.zero_le _) trivial
  · intro _ _
    exact Ev.step (fun _ => rfl) (ev_neg (by omega) (ev_some rfl))
  · intro i _ hi _
    refine .inr ⟨(), trivial, fun r hr => Ev.step (fun _ => rfl) (ev_pos (by omega) (ev_pos (by omega) (ev_pos (by omega) ?_)))⟩
    rw [w64s i (by have := h; omega)]
    exact ev_pos rfl hr
theorem eqPlaced_self (a0 : Int) (a1 : Int) (a2 : Int) (a3 : Int) : laws_eqPlaced.f a0 a1 a2 a3 a0 a1 a2 a3 = some true := by
  simp [laws_eqPlaced.f]
theorem eqItem_self (a0 : Int) (a1 : Int) (a2 : Int) (a3 : Int) (a4 : Bool) (a5 : Int) (a6 : Int) (a7 : Int) (a8 : Int) : laws_eqItem.f a0 a1 a2 a3 a4 a5 a6 a7 a8 a0 a1 a2 a3 a4 a5 a6 a7 a8 = some true := by
  simp [laws_eqItem.f, eqPlaced_self]
theorem eqItemS_ev (xs : List S159) (h : xs.length ≤ 1048576) : Ev (fun k => laws_eqItemS.f k xs xs) true := by
  refine ev_pos rfl (ev_alike_self laws_eqItemS.l0 (fun k xs ys i => laws_eqItem.f ((rd_T159 xs i).f0) ((rd_T159 xs i).f1) ((rd_T159 xs i).f2) ((rd_T159 xs i).f3) ((rd_T159 xs i).f4) ((rd_T159 xs i).f5.f0) ((rd_T159 xs i).f5.f1) ((rd_T159 xs i).f5.f2) ((rd_T159 xs i).f5.f3) ((rd_T159 ys i).f0) ((rd_T159 ys i).f1) ((rd_T159 ys i).f2) ((rd_T159 ys i).f3) ((rd_T159 ys i).f4) ((rd_T159 ys i).f5.f0) ((rd_T159 ys i).f5.f1) ((rd_T159 ys i).f5.f2) ((rd_T159 ys i).f5.f3)) (fun _ _ _ _ => rfl) xs (by have := h; omega) (fun i hi => ?_))
  · exact ev_eq (eqItem_self _ _ _ _ _ _ _ _ _)
def MarkItemS (x : S159) (c d : Int) : Prop := x = (⟨c, c + 1, c + 1 + 1, c + 1 + 1 + 1, (Int.tmod (c + 1 + 1 + 1 + 1) 3 == 0), (⟨c + 1 + 1 + 1 + 1 + 1, c + 1 + 1 + 1 + 1 + 1 + 1, c + 1 + 1 + 1 + 1 + 1 + 1 + 1, c + 1 + 1 + 1 + 1 + 1 + 1 + 1 + 1⟩ : S53)⟩ : S159) ∧ d = c + 1 + 1 + 1 + 1 + 1 + 1 + 1 + 1 + 1
theorem rd_set159 {xs : List S159} {i : Nat} (h : i < xs.length) (v : S159) : rd_T159 (xs.set i v) (i : Int) = v := by
  unfold rd_T159
  rw [getD_get (by simpa using h), List.getElem_set_self]
theorem markItemS_ev (xs : List S159) (hl : xs.length ≤ 1048576) (c : Int) (hc0 : 0 ≤ c) (hc1 : c ≤ 1152921504606846976) :
    ∃ ys d, Chain MarkItemS ys c d ∧ c ≤ d ∧ d ≤ c + 9 * xs.length ∧ ys.length = xs.length ∧ Ev (fun k => laws_markItemS.f k xs c) (d, ys) := by
  refine ev_mark (fun k zs c i => laws_markItemS.l0 k zs c (i : Int)) MarkItemS (fun _ => True) 9 (by omega) (by omega) ?_ ?_ xs (fun _ _ => trivial) hl c hc0 hc1
  · intro zs c
    exact Ev.step (fun _ => rfl) (ev_neg (by omega) (ev_some rfl))
  · intro zs c i hi h20 _ h0 h1
    refine ⟨_, _, ⟨rfl, rfl⟩, by omega, by omega, fun r hr => Ev.step (fun _ => rfl) (ev_pos (by omega) (ev_pos (by omega) ?_))⟩
    simp only [Option.bind_some, Int.toNat_natCast, rd_set159 hi, List.set_set, w64s i (by omega), w64 (n := c + 1) (by omega) (by omega), w64 (n := c + 1 + 1) (by omega) (by omega), w64 (n := c + 1 + 1 + 1) (by omega) (by omega), w64 (n := c + 1 + 1 + 1 + 1) (by omega) (by omega), w64 (n := c + 1 + 1 + 1 + 1 + 1) (by omega) (by omega), w64 (n := c + 1 + 1 + 1 + 1 + 1 + 1) (by omega) (by omega), w64 (n := c + 1 + 1 + 1 + 1 + 1 + 1 + 1) (by omega) (by omega), w64 (n := c + 1 + 1 + 1 + 1 + 1 + 1 + 1 + 1) (by omega) (by omega), w64 (n := c + 1 + 1 + 1 + 1 + 1 + 1 + 1 + 1 + 1) (by omega) (by omega)]
    exact hr
def MarkIntS (x : Int) (c d : Int) : Prop := x = c ∧ d = c + 1
theorem markIntS_ev (xs : List Int) (hl : xs.length ≤ 1048576) (c : Int) (hc0 : 0 ≤ c) (hc1 : c ≤ 1152921504606846976) :
    ∃ ys d, Chain MarkIntS ys c d ∧ c ≤ d ∧ d ≤ c + 1 * xs.length ∧ ys.length = xs.length ∧ Ev (fun k => laws_markIntS.f k xs c) (d, ys) := by
  refine ev_mark (fun k zs c i => laws_markIntS.l0 k zs c (i : Int)) MarkIntS (fun _ => True) 1 (by omega) (by omega) ?_ ?_ xs (fun _ _ => trivial) hl c hc0 hc1
  · intro zs c
    exact Ev.step (fun _ => rfl) (ev_neg (by omega) (ev_some rfl))
  · intro zs c i hi h20 _ h0 h1
    refine ⟨_, _, ⟨rfl, rfl⟩, by omega, by omega, fun r hr => Ev.step (fun _ => rfl) (ev_pos (by omega) (ev_pos (by omega) ?_))⟩
    simp only [Int.toNat_natCast, w64s i (by omega), w64 (n := c + 1) (by omega) (by omega)]
    exact hr
theorem heldIntS_ev (ys : List Int) (hl : ys.length ≤ 1048576) (c d : Int) (hc : 0 ≤ c) (hd : d ≤ 2305843009213693952) (h : Chain MarkIntS ys c d) : Ev (fun k => laws_heldIntS.f k ys c) d := by
  refine ev_held (fun k zs c i => laws_heldIntS.l0 k zs c (i : Int)) MarkIntS (fun x c d h => by have := h.2; omega) ?_ ?_ ys hl c d hc hd h
  · intro zs c
    exact Ev.step (fun _ => rfl) (ev_neg (by omega) (ev_some rfl))
  · intro zs c c' i hi h20 hE h0 h1 r hr
    obtain ⟨hx, rfl⟩ := hE
    have hg : rd zs (i : Int) = c := (rd_get hi).trans hx
    refine Ev.step (fun _ => rfl) (ev_pos (by omega) (ev_pos (by omega) ?_))
    rw [hg]
    simp only [w64s i (by omega), w64 (n := c + 1) (by omega) (by omega)]
    exact ev_pos (by trivial) (hr)

/-! ### what both hold of one item -/
theorem box_total (a b c d : Int) : ∃ t, spec_l20Box.f a b c d = some t := by
  simp only [spec_l20Box.f, in_some, Option.bind_some]
  repeat' (first | exact ⟨_, rfl⟩ | split)
theorem box_alike (a b c d : Int) : impl_isBox.f a b c d = spec_l20Box.f a b c d := by
  simp only [spec_l20Box.f, impl_isBox.f, impl_isRoom.f, in_same, in_some, Option.bind_some]
theorem good_total (a b c d : Int) (e : Bool) (f g h i : Int) : ∃ t, spec_GoodItem.f a b c d e f g h i = some t := by
  obtain ⟨t, ht⟩ := box_total f g h i
  simp only [spec_GoodItem.f, in_some, Option.bind_some, ht]
  repeat' (first | exact ⟨_, rfl⟩ | split)
theorem good_alike (a b c d : Int) (e : Bool) (f g h i : Int) : impl_GoodItem.f a b c d e f g h i = spec_GoodItem.f a b c d e f g h i := by
  simp only [spec_GoodItem.f, impl_GoodItem.f, in_same, in_some, Option.bind_some, box_alike]
theorem meet_total (a b c d e f g h : Int) : ∃ t, spec_l20Meet.f a b c d e f g h = some t := by
  simp only [spec_l20Meet.f]
  repeat' (first | exact ⟨_, rfl⟩ | split)
theorem meet_alike (a b c d e f g h : Int) : impl_overlaps.f a b c d e f g h = spec_l20Meet.f a b c d e f g h := rfl
/-! ### those that are met, in order -/
def hits (M : Nat → Bool) : Nat → List Int
  | 0 => []
  | i + 1 => if M i = true then hits M i ++ [(i : Int)] else hits M i
theorem hits_len (M : Nat → Bool) : ∀ i, (hits M i).length ≤ i
  | 0 => Nat.le_refl _
  | i + 1 => by
    have := hits_len M i
    unfold hits
    split
    · rw [List.length_append]; simp; omega
    · omega
theorem seen_impl (xs : List S159) (hx : xs.length ≤ 60) (a b c d : Int) (M : Nat → Bool)
    (hM : ∀ i : Nat, spec_l20Meet.f ((rd_T159 xs i).f5.f0) ((rd_T159 xs i).f5.f1) ((rd_T159 xs i).f5.f2) ((rd_T159 xs i).f5.f3) a b c d = some (M i)) :
    Ev (fun k => impl_Seen.l0 k [] xs (xs.length : Int) 0 a b c d) (hits M xs.length, true) := by
  refine ev_for1 xs.length (fun k i s => impl_Seen.l0 k s xs (xs.length : Int) (i : Int) a b c d) (fun i s => s = hits M i) (hits M xs.length, true) ?_ ?_ 0 [] (Nat.zero_le _) rfl
  · intro s hs
    subst hs
    exact st_impl_Seen_l0 (ev_neg (by omega) (ev_some rfl))
  · intro i s hi hs
    subst hs
    have hl := hits_len M i
    refine .inr ⟨hits M (i + 1), rfl, fun r hr => st_impl_Seen_l0 (ev_pos (by omega) (ev_pos (by omega) (ev_pos (by omega) (ev_bindc ((meet_alike _ _ _ _ _ _ _ _).trans (hM i)) ?_))))⟩
    rw [w64s i (by omega)]
    by_cases hm : M i = true
    · refine ev_pos hm (ev_pos (by omega) ?_)
      have e : hits M (i + 1) = hits M i ++ [(i : Int)] := if_pos hm
      rw [e] at hr
      exact hr
    · refine ev_neg hm ?_
      have e : hits M (i + 1) = hits M i := if_neg hm
      rw [e] at hr
      exact hr
theorem seen_spec (xs : List S159) (hx : xs.length ≤ 60) (a b c d : Int) (M G : Nat → Bool)
    (hM : ∀ i : Nat, spec_l20Meet.f ((rd_T159 xs i).f5.f0) ((rd_T159 xs i).f5.f1) ((rd_T159 xs i).f5.f2) ((rd_T159 xs i).f5.f3) a b c d = some (M i))
    (hG : ∀ i : Nat, spec_GoodItem.f ((rd_T159 xs i).f0) ((rd_T159 xs i).f1) ((rd_T159 xs i).f2) ((rd_T159 xs i).f3) ((rd_T159 xs i).f4) ((rd_T159 xs i).f5.f0) ((rd_T159 xs i).f5.f1) ((rd_T159 xs i).f5.f2) ((rd_T159 xs i).f5.f3) = some (G i))
    (r : List Int × Bool) (hall : (∀ i, i < xs.length → G i = true) → r = (hits M xs.length, true)) (hbad : ¬ (∀ i, i < xs.length → G i = true) → r = ([], false)) :
    Ev (fun k => spec_Seen.l0 k [] xs (xs.length : Int) 0 a b c d) r := by
  refine ev_for1 xs.length (fun k i s => spec_Seen.l0 k s xs (xs.length : Int) (i : Int) a b c d) (fun i s => s = hits M i ∧ ∀ j, j < i → G j = true) r ?_ ?_ 0 [] (Nat.zero_le _) ⟨rfl, fun j hj => by omega⟩
  · intro s ⟨hs, hg⟩
    subst hs
    exact st_spec_Seen_l0 (ev_neg (by omega) (ev_some (hall hg).symm))
  · intro i s hi ⟨hs, hg⟩
    subst hs
    have hl := hits_len M i
    by_cases hgi : G i = true
    · refine .inr ⟨hits M (i + 1), ⟨rfl, fun j hj => ?_⟩, fun r hr => st_spec_Seen_l0 (ev_pos (by omega) (ev_pos (by omega) (ev_pos (by omega) (ev_bindc (hG i) (ev_pos hgi (ev_bindc (hM i) ?_))))))⟩
      · rcases Nat.lt_or_ge j i with h1 | h1
        · exact hg j h1
        · obtain rfl : j = i := by omega
          exact hgi
      · rw [w64s i (by omega)]
        by_cases hm : M i = true
        · refine ev_pos hm (ev_pos (by omega) ?_)
          have e : hits M (i + 1) = hits M i ++ [(i : Int)] := if_pos hm
          rw [e] at hr
          exact hr
        · refine ev_neg hm ?_
          have e : hits M (i + 1) = hits M i := if_neg hm
          rw [e] at hr
          exact hr
    · exact .inl (st_spec_Seen_l0 (ev_pos (by omega) (ev_pos (by omega) (ev_pos (by omega) (ev_bindc (hG i) (ev_neg hgi (ev_some (hbad fun h => hgi (h i hi)).symm)))))))
theorem seen_same (xs : List S159) (hx : xs.length ≤ 1048576) (a b c d : Int) :
    ∃ (l : List Int) (t : Bool), Ev (fun k => spec_Seen.f k xs a b c d) (l, t) ∧ Ev (fun k => impl_Seen.f k xs a b c d) (l, t) ∧ l.length ≤ 60 := by
  by_cases h1 : (xs.length : Int) > 60
  · exact ⟨[], false, ev_pos h1 (st_spec_Seen_j0 (ev_pos rfl (ev_some rfl))), ev_pos h1 (st_impl_Seen_j0 (ev_pos rfl (ev_some rfl))), by simp⟩
  obtain ⟨t, ht⟩ := box_total a b c d
  have ht' := (box_alike a b c d).trans ht
  cases t with
  | false => exact ⟨[], false, ev_neg h1 (ev_bindc ht (st_spec_Seen_j0 (ev_pos rfl (ev_some rfl)))), ev_neg h1 (ev_bindc ht' (ev_neg (by simp) (st_impl_Seen_j0 (ev_pos rfl (ev_some rfl))))), by simp⟩
  | true =>
    obtain ⟨M, hM⟩ := Classical.axiomOfChoice (fun i : Nat => meet_total ((rd_T159 xs i).f5.f0) ((rd_T159 xs i).f5.f1) ((rd_T159 xs i).f5.f2) ((rd_T159 xs i).f5.f3) a b c d)
    obtain ⟨G, hG⟩ := Classical.axiomOfChoice (fun i : Nat => good_total ((rd_T159 xs i).f0) ((rd_T159 xs i).f1) ((rd_T159 xs i).f2) ((rd_T159 xs i).f3) ((rd_T159 xs i).f4) ((rd_T159 xs i).f5.f0) ((rd_T159 xs i).f5.f1) ((rd_T159 xs i).f5.f2) ((rd_T159 xs i).f5.f3))
    have hc : ∀ c : Bool, (c = true ↔ ∃ i, i < xs.length ∧ (!G i) = true) → Ev (fun k => slices_ContainsFunc_w112.f k xs) c := fun c hc =>
      ev_contains slices_IndexFunc_w112.l0 (fun _ xs i => impl_Seen_1.f ((rd_T159 xs i).f0) ((rd_T159 xs i).f1) ((rd_T159 xs i).f2) ((rd_T159 xs i).f3) ((rd_T159 xs i).f4) ((rd_T159 xs i).f5.f0) ((rd_T159 xs i).f5.f1) ((rd_T159 xs i).f5.f2) ((rd_T159 xs i).f5.f3)) (fun _ _ _ _ => rfl) xs (by omega) (fun i => !G i)
        (fun i _ => ev_bindc ((good_alike _ _ _ _ _ _ _ _ _).trans (hG i)) (ev_some rfl)) c hc
    by_cases hall : ∀ i, i < xs.length → G i = true
    · refine ⟨hits M xs.length, true, ev_neg h1 (ev_bindc ht (st_spec_Seen_j0 (ev_neg (by simp) (seen_spec xs (by omega) a b c d M G hM hG _ (fun _ => rfl) (fun h => absurd hall h))))),
        ev_neg h1 (ev_bindc ht' (ev_pos rfl (Ev.bind (hc false ⟨fun h => by simp at h, fun ⟨i, hi, h⟩ => ?_⟩) (st_impl_Seen_j0 (ev_neg (by simp) (seen_impl xs (by omega) a b c d M hM)))))), ?_⟩
      · rw [hall i hi] at h
        simp at h
      · have := hits_len M xs.length
        omega
    · refine ⟨[], false, ev_neg h1 (ev_bindc ht (st_spec_Seen_j0 (ev_neg (by simp) (seen_spec xs (by omega) a b c d M G hM hG _ (fun h => absurd h hall) (fun _ => rfl))))),
        ev_neg h1 (ev_bindc ht' (ev_pos rfl (Ev.bind (hc true ⟨fun _ => ?_, fun _ => rfl⟩) (st_impl_Seen_j0 (ev_pos rfl (ev_some rfl)))))), by simp⟩
      refine Classical.byContradiction fun hno => hall fun i hi => ?_
      cases hGi : G i with
      | true => rfl
      | false => exact absurd ⟨i, hi, by rw [hGi]; rfl⟩ hno
theorem FnExactSeen : ∀ (l0 : List (S164)) (a1_0 : Int) (a1_1 : Int) (a1_2 : Int) (a1_3 : Int), (l0.length * 72 ≤ 140737488351232 ∧ ∀ y ∈ l0, Ok164 y) → (In64 a1_0) → (In64 a1_1) → (In64 a1_2) → (In64 a1_3) → ∃ k, laws_FnExactSeen.f k l0 a1_0 a1_1 a1_2 a1_3 = some true := by
  intro xs a b c d gl _ _ _ _
  refine Ev.rounds (g := fun k => laws_FnExactSeen.f k xs a b c d) ?_
  obtain ⟨r, hr, h | ⟨h0, h1, hx⟩⟩ := szItemS_some xs gl 1048576 (by omega) (by omega)
  · exact Ev.bind hr (ev_pos h (ev_some rfl))
  · have tx := toItemS_ev xs hx
    have hx' : (xs.map cv164).length ≤ 1048576 := by rw [List.length_map]; exact hx
    obtain ⟨l, t, hs, hi, hl⟩ := seen_same (xs.map cv164) hx' a b c d
    obtain ⟨m, q, _, q0, _, _, hm⟩ := markItemS_ev (xs.map cv164) hx' 1 (by omega) (by omega)
    obtain ⟨m', q', hch, q0', q1', ml, hm'⟩ := markIntS_ev l (by omega) 1 (by omega) (by omega)
    have hh := heldIntS_ev m' (by omega) 1 q' (by omega) (by omega) hch
    have ee := eqIntS_ev l (by omega)
    refine Ev.bind hr (ev_neg (by omega) (Ev.bind tx (ev_bindc rfl (Ev.bind hs (Ev.bind tx (ev_bindc rfl (Ev.bind hi (Ev.bind ee (ev_pos rfl ?_)))))))))
    refine st_laws_FnExactSeen_j0 (ev_neg (by simp) (Ev.bind tx (Ev.bind (eqItemS_ev _ hx') (ev_pos rfl (Ev.bind hm (ev_neg (by omega) (Ev.bind ee (ev_pos rfl ?_))))))))
    refine st_laws_FnExactSeen_j1 (ev_neg (by simp) (Ev.bind hm' (Ev.bind hh (ev_neg (by omega) (ev_pos rfl (Ev.bind tx (ev_bindc rfl (Ev.bind hi (Ev.bind ee (ev_pos rfl ?_))))))))))
    exact st_laws_FnExactSeen_j2 (ev_neg (by simp) (Ev.bind hh (ev_neg (by omega) (ev_pos rfl (ev_some rfl)))))
end Go.Proofs.Ytligkajfedkldaa.Pure
