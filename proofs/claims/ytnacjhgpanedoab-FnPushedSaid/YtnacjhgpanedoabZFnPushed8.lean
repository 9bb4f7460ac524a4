/- Texts of a row. -/
import Derived.Test.YtnacjhgpanedoabZFnPushed7
namespace Go.Proofs.Ytnacjhgpanedoab.Pure
open Go.RowKit Go.Proofs.Ytnacjhgpanedoab.PFnPushed Go.Proofs.Ytnacjhgpanedoab.OFnPushed Go.Proofs.YtnacjhgpanedoabW.PrintWords Go.Proofs.YtnacjhgpanedoabW.PrintLast Go.Proofs.YtnacjhgpanedoabW.PrintMore Go.Proofs.YtnacjhgpanedoabO
set_option linter.unusedVariables false
set_option linter.unusedSimpArgs false
theorem st_spec_l10Pair_j0 {r : (Int × Int × Int × Int × Int × Int × Int × Int)} {x2 : Int} {x26 : Bool} {x286000 : Int} {x286001 : Int} {x286002 : Int} {x286003 : Int} {x287000 : Int} {x287001 : Int} {x287002 : Int} {x287003 : Int} (h : Ev (fun k => if x26 = true then (some (x286000, x286001, x286002, x286003, x287000, x287001, x287002, x287003)) else (if x286002 = 0 then (spec_l10Pair.j1 k (wrap64 (Int.tdiv (wrap64 ((wrap64 (100 + x2)) * (wrap64 (-x287001)))) 100)) x286000 x286001 x286002 x286003 x287000 x287001 x287002 x287003) else (if x287002 = 0 then (spec_l10Pair.j1 k (wrap64 (Int.tdiv (wrap64 ((wrap64 (100 + x2)) * x286001)) 100)) x286000 x286001 x286002 x286003 x287000 x287001 x287002 x287003) else (if (wrap64 (100 * (wrap64 (x286002 + x287002)))) = 0 then (none) else (spec_l10Pair.j1 k (wrap64 (Int.tdiv (wrap64 ((wrap64 (100 + x2)) * (wrap64 ((wrap64 (x286001 * x287002)) - (wrap64 (x287001 * x286002)))))) (wrap64 (100 * (wrap64 (x286002 + x287002)))))) x286000 x286001 x286002 x286003 x287000 x287001 x287002 x287003))))) r) : Ev (fun k => spec_l10Pair.j0 k x2 x26 x286000 x286001 x286002 x286003 x287000 x287001 x287002 x287003) r := Ev.step (fun k => by rw [spec_l10Pair.j0]) h
theorem st_spec_l10Pair_j1 {r : (Int × Int × Int × Int × Int × Int × Int × Int)} {x9 : Int} {x286000 : Int} {x286001 : Int} {x286002 : Int} {x286003 : Int} {x287000 : Int} {x287001 : Int} {x287002 : Int} {x287003 : Int} (h : Ev (fun k => if x286002 > 0 then (spec_l10Pair.j2 k x9 x286000 (wrap64 (x286001 - x9)) x286002 x286003 x287000 x287001 x287002 x287003) else (spec_l10Pair.j2 k x9 x286000 x286001 x286002 x286003 x287000 x287001 x287002 x287003)) r) : Ev (fun k => spec_l10Pair.j1 k x9 x286000 x286001 x286002 x286003 x287000 x287001 x287002 x287003) r := Ev.step (fun k => by rw [spec_l10Pair.j1]) h
theorem st_spec_l10Pair_j2 {r : (Int × Int × Int × Int × Int × Int × Int × Int)} {x9 : Int} {x286000 : Int} {x286001 : Int} {x286002 : Int} {x286003 : Int} {x287000 : Int} {x287001 : Int} {x287002 : Int} {x287003 : Int} (h : Ev (fun _ => if x287002 > 0 then (some (x286000, x286001, x286002, x286003, x287000, wrap64 (x287001 + x9), x287002, x287003)) else (some (x286000, x286001, x286002, x286003, x287000, x287001, x287002, x287003))) r) : Ev (fun k => spec_l10Pair.j2 k x9 x286000 x286001 x286002 x286003 x287000 x287001 x287002 x287003) r := Ev.step (fun k => by rw [spec_l10Pair.j2]) h
theorem st_spec_l10Push_j0 {r : ((List (S33)) × Bool)} {x0 : List (S33)} {x1 : Int} {x2 : Int} {x24 : Bool} (h : Ev (fun k => if x24 = true then (some (([] : List (S33)), false)) else ((some (([] : List (S33)) : List (S33))).bind fun y293 => (if y293.length + x0.length < 4398046511104 then (spec_l10Push.l0 k x1 x2 (y293 ++ x0)) else (none)))) r) : Ev (fun k => spec_l10Push.j0 k x0 x1 x2 x24) r := Ev.step (fun k => by rw [spec_l10Push.j0]) h
theorem st_spec_l10Push_l0 {r : ((List (S33)) × Bool)} {x1 : Int} {x2 : Int} {x8 : List (S33)} (h : Ev (fun k => if x2 > 0 then (spec_l10Push.l1 k x1 x2 x8 0) else (some (x8, true))) r) : Ev (fun k => spec_l10Push.l0 k x1 x2 x8) r := Ev.step (fun k => by rw [spec_l10Push.l0]) h
theorem st_spec_l10Push_l1 {r : ((List (S33)) × Bool)} {x1 : Int} {x2 : Int} {x8 : List (S33)} {x9 : Int} (h : Ev (fun k => if (wrap64 (x9 + 1)) < (x8.length : Int) then (if 0 ≤ x9 then (if x9 < (x8.length : Int) then (if 0 ≤ (wrap64 (x9 + 1)) then ((spec_l10Pair.f k ((rd_T33 x8 x9).f0) ((rd_T33 x8 x9).f1) ((rd_T33 x8 x9).f2) ((rd_T33 x8 x9).f3) ((rd_T33 x8 (wrap64 (x9 + 1))).f0) ((rd_T33 x8 (wrap64 (x9 + 1))).f1) ((rd_T33 x8 (wrap64 (x9 + 1))).f2) ((rd_T33 x8 (wrap64 (x9 + 1))).f3) x1).bind fun bt301 => ((spec_l10Body.f bt301.1 bt301.2.1 bt301.2.2.1 bt301.2.2.2.1).bind fun t311 => (if t311 = true then ((spec_l10Body.f bt301.2.2.2.2.1 bt301.2.2.2.2.2.1 bt301.2.2.2.2.2.2.1 bt301.2.2.2.2.2.2.2).bind fun t312 => (if t312 = true then (spec_l10Push.l1 k x1 x2 ((x8.set (x9 : Int).toNat (⟨bt301.1, bt301.2.1, bt301.2.2.1, bt301.2.2.2.1⟩ : S33)).set ((wrap64 (x9 + 1)) : Int).toNat (⟨bt301.2.2.2.2.1, bt301.2.2.2.2.2.1, bt301.2.2.2.2.2.2.1, bt301.2.2.2.2.2.2.2⟩ : S33)) (wrap64 (x9 + 1))) else (some (([] : List (S33)), false)))) else (some (([] : List (S33)), false))))) else (none)) else (none)) else (none)) else (spec_l10Push.l0 k x1 (wrap64 (x2 - 1)) x8)) r) : Ev (fun k => spec_l10Push.l1 k x1 x2 x8 x9) r := Ev.step (fun k => by rw [spec_l10Push.l1]) h
theorem st_impl_common_l0 {r : (Int)} {x0 : Int} {x1 : Int} (h : Ev (fun k => if x1 = 0 then (some x0) else (impl_common.l0 k x1 (Int.tmod x0 x1))) r) : Ev (fun k => impl_common.l0 k x0 x1) r := Ev.step (fun k => by rw [impl_common.l0]) h
theorem st_impl_BookOf_l0 {r : (Int × Int × Int × Bool)} {x13 : List (S33)} {x14 : Int} {x15 : Int} {x322000 : Int} {x322001 : Int} {x322002 : Int} (h : Ev (fun k => if x15 < x14 then (if 0 ≤ x15 then (if x15 < (x13.length : Int) then (if ((rd_T33 x13 x15).f2) > 0 then (if (wrap64 (2 * ((rd_T33 x13 x15).f2))) = 0 then (none) else (impl_BookOf.l0 k x13 x14 (wrap64 (x15 + 1)) (wrap64 (x322000 + ((rd_T33 x13 x15).f1))) (wrap64 (x322001 + (wrap64 ((wrap64 (((rd_T33 x13 x15).f1) * ((rd_T33 x13 x15).f1))) * (wrap64 (Int.tdiv (55440 : Int) (wrap64 (2 * ((rd_T33 x13 x15).f2))))))))) x322002)) else (impl_BookOf.l0 k x13 x14 (wrap64 (x15 + 1)) (wrap64 (x322000 + ((rd_T33 x13 x15).f1))) x322001 x322002)) else (none)) else (none)) else ((impl_common.f k x322001 x322002).bind fun t324 => (if t324 = 0 then (none) else (some (x322000, wrap64 (Int.tdiv x322001 t324), wrap64 (Int.tdiv x322002 t324), true))))) r) : Ev (fun k => impl_BookOf.l0 k x13 x14 x15 x322000 x322001 x322002) r := Ev.step (fun k => by rw [impl_BookOf.l0]) h
theorem st_impl_MoveLine_j0 {r : ((List (S33)) × Bool)} {x0 : List (S33)} {x1 : Int} {x17 : Bool} (h : Ev (fun k => if x17 = true then (some (([] : List (S33)), false)) else ((impl_Body_21.f x0).bind fun t327 => (impl_MoveLine.l0 k x1 t327 x0 (x0.length : Int) 0))) r) : Ev (fun k => impl_MoveLine.j0 k x0 x1 x17) r := Ev.step (fun k => by rw [impl_MoveLine.j0]) h
theorem st_impl_MoveLine_l0 {r : ((List (S33)) × Bool)} {x1 : Int} {x6 : List (S33)} {x20 : List (S33)} {x21 : Int} {x22 : Int} (h : Ev (fun k => if x22 < x21 then (if 0 ≤ x22 then (if x22 < (x20.length : Int) then (if ((rd_T33 x20 x22).f2) = 0 then (impl_MoveLine.l0 k x1 x6 x20 x21 (wrap64 (x22 + 1))) else (if x22 < (x6.length : Int) then ((some (x6.set (x22 : Int).toNat (⟨wrap64 (((rd_T33 x6 x22).f0) + (wrap64 (Int.tdiv (wrap64 (((rd_T33 x20 x22).f1) * x1)) ((rd_T33 x20 x22).f2)))), (rd_T33 x6 x22).f1, (rd_T33 x6 x22).f2, (rd_T33 x6 x22).f3⟩ : S33) : List (S33))).bind fun y333 => (if x22 > 0 then (if 0 ≤ (wrap64 (x22 - 1)) then (if (wrap64 (x22 - 1)) < (x6.length : Int) then (impl_MoveLine.l0 k x1 (y333.set (x22 : Int).toNat (⟨mx ((rd_T33 y333 x22).f0) (wrap64 ((wrap64 (((rd_T33 y333 (wrap64 (x22 - 1))).f0) + ((rd_T33 y333 (wrap64 (x22 - 1))).f3))) + ((rd_T33 x20 x22).f3))), (rd_T33 y333 x22).f1, (rd_T33 y333 x22).f2, (rd_T33 y333 x22).f3⟩ : S33)) x20 x21 (wrap64 (x22 + 1))) else (none)) else (none)) else (impl_MoveLine.l0 k x1 y333 x20 x21 (wrap64 (x22 + 1))))) else (none))) else (none)) else (none)) else (impl_MoveLine.l1 k x6 (wrap64 ((x6.length : Int) - 2)))) r) : Ev (fun k => impl_MoveLine.l0 k x1 x6 x20 x21 x22) r := Ev.step (fun k => by rw [impl_MoveLine.l0]) h
theorem st_impl_MoveLine_l1 {r : ((List (S33)) × Bool)} {x6 : List (S33)} {x9 : Int} (h : Ev (fun k => if x9 ≥ 0 then (if 0 ≤ x9 then (if x9 < (x6.length : Int) then (if ((rd_T33 x6 x9).f2) > 0 then (if 0 ≤ (wrap64 (x9 + 1)) then (if (wrap64 (x9 + 1)) < (x6.length : Int) then (impl_MoveLine.l1 k (x6.set (x9 : Int).toNat (⟨mn ((rd_T33 x6 x9).f0) (wrap64 ((wrap64 (((rd_T33 x6 (wrap64 (x9 + 1))).f0) - ((rd_T33 x6 (wrap64 (x9 + 1))).f3))) - ((rd_T33 x6 x9).f3))), (rd_T33 x6 x9).f1, (rd_T33 x6 x9).f2, (rd_T33 x6 x9).f3⟩ : S33)) (wrap64 (x9 - 1))) else (none)) else (none)) else (impl_MoveLine.l1 k x6 (wrap64 (x9 - 1)))) else (none)) else (none)) else ((impl_GoodLine.f k x6).bind fun t344 => (if t344 = true then (some (x6, true)) else (some (([] : List (S33)), false))))) r) : Ev (fun k => impl_MoveLine.l1 k x6 x9) r := Ev.step (fun k => by rw [impl_MoveLine.l1]) h
theorem st_spec_l10Move_j0 {r : ((List (S33)) × Bool)} {x0 : List (S33)} {x1 : Int} {x18 : Bool} (h : Ev (fun k => if x18 = true then (some (([] : List (S33)), false)) else ((some (([] : List (S33)) : List (S33))).bind fun y347 => (if y347.length + x0.length < 4398046511104 then ((some (y347 ++ x0 : List (S33))).bind fun y350 => (spec_l10Move.l0 k x1 y350 (y350.length : Int) 0)) else (none)))) r) : Ev (fun k => spec_l10Move.j0 k x0 x1 x18) r := Ev.step (fun k => by rw [spec_l10Move.j0]) h
theorem st_spec_l10Move_l0 {r : ((List (S33)) × Bool)} {x1 : Int} {x6 : List (S33)} {x23 : Int} {x24 : Int} (h : Ev (fun k => if x24 < x23 then (if 0 ≤ x24 then (if x24 < (x6.length : Int) then (if ((rd_T33 x6 x24).f2) > 0 then (if ((rd_T33 x6 x24).f2) = 0 then (none) else ((some (x6.set (x24 : Int).toNat (⟨wrap64 (((rd_T33 x6 x24).f0) + (wrap64 (Int.tdiv (wrap64 (((rd_T33 x6 x24).f1) * x1)) ((rd_T33 x6 x24).f2)))), (rd_T33 x6 x24).f1, (rd_T33 x6 x24).f2, (rd_T33 x6 x24).f3⟩ : S33) : List (S33))).bind fun y357 => (if x24 > 0 then (if 0 ≤ (wrap64 (x24 - 1)) then (if (wrap64 (x24 - 1)) < (x6.length : Int) then (if ((rd_T33 y357 x24).f0) < (wrap64 ((wrap64 (((rd_T33 y357 (wrap64 (x24 - 1))).f0) + ((rd_T33 y357 (wrap64 (x24 - 1))).f3))) + ((rd_T33 y357 x24).f3))) then (spec_l10Move.l0 k x1 (y357.set (x24 : Int).toNat (⟨wrap64 ((wrap64 (((rd_T33 y357 (wrap64 (x24 - 1))).f0) + ((rd_T33 y357 (wrap64 (x24 - 1))).f3))) + ((rd_T33 y357 x24).f3)), (rd_T33 y357 x24).f1, (rd_T33 y357 x24).f2, (rd_T33 y357 x24).f3⟩ : S33)) x23 (wrap64 (x24 + 1))) else (spec_l10Move.l0 k x1 y357 x23 (wrap64 (x24 + 1)))) else (none)) else (none)) else (spec_l10Move.l0 k x1 y357 x23 (wrap64 (x24 + 1)))))) else (spec_l10Move.l0 k x1 x6 x23 (wrap64 (x24 + 1)))) else (none)) else (none)) else (spec_l10Move.l1 k x6 (wrap64 ((x6.length : Int) - 2)))) r) : Ev (fun k => spec_l10Move.l0 k x1 x6 x23 x24) r := Ev.step (fun k => by rw [spec_l10Move.l0]) h
theorem st_spec_l10Move_l1 {r : ((List (S33)) × Bool)} {x6 : List (S33)} {x9 : Int} (h : Ev (fun k => if x9 ≥ 0 then (if 0 ≤ (wrap64 (x9 + 1)) then (if (wrap64 (x9 + 1)) < (x6.length : Int) then (if 0 ≤ x9 then (if x9 < (x6.length : Int) then (if ((rd_T33 x6 x9).f2) > 0 then (if ((rd_T33 x6 x9).f0) > (wrap64 ((wrap64 (((rd_T33 x6 (wrap64 (x9 + 1))).f0) - ((rd_T33 x6 (wrap64 (x9 + 1))).f3))) - ((rd_T33 x6 x9).f3))) then (spec_l10Move.l1 k (x6.set (x9 : Int).toNat (⟨wrap64 ((wrap64 (((rd_T33 x6 (wrap64 (x9 + 1))).f0) - ((rd_T33 x6 (wrap64 (x9 + 1))).f3))) - ((rd_T33 x6 x9).f3)), (rd_T33 x6 x9).f1, (rd_T33 x6 x9).f2, (rd_T33 x6 x9).f3⟩ : S33)) (wrap64 (x9 - 1))) else (spec_l10Move.l1 k x6 (wrap64 (x9 - 1)))) else (spec_l10Move.l1 k x6 (wrap64 (x9 - 1)))) else (none)) else (none)) else (none)) else (none)) else ((spec_GoodLine.f k x6).bind fun t369 => (if t369 = true then (some (x6, true)) else (some (([] : List (S33)), false))))) r) : Ev (fun k => spec_l10Move.l1 k x6 x9) r := Ev.step (fun k => by rw [spec_l10Move.l1]) h
theorem st_spec_DrawStepIslands_l0 {r : ((List (List (S33))) × Int × Int × Int)} {x7 : List (List (S33))} {x8 : Int} {x387000 : List Int} {x387001 : Int} {x387002 : Int} (h : Ev (fun k => if x8 > 0 then ((spec_l1Cur_line10.f k x387000 x387001 x387002).bind fun bt390 => (if x7.length < 5864062014805 then (spec_DrawStepIslands.l0 k (x7 ++ [bt390.1]) (wrap64 (x8 - 1)) x387000 bt390.2.1 bt390.2.2) else (none))) else ((spec_l1Cur_bounceOf.f x387000 x387001 x387002).bind fun bt398 => ((spec_l1Cur_pick.f x387000 bt398.2.1 bt398.2.2 5).bind fun bt401 => ((spec_l1Cur_span10.f x387000 bt401.2.1 bt401.2.2).bind fun bt404 => (some (x7, bt398.1, bt401.1, bt404.1)))))) r) : Ev (fun k => spec_DrawStepIslands.l0 k x7 x8 x387000 x387001 x387002) r := Ev.step (fun k => by rw [spec_DrawStepIslands.l0]) h
theorem st_impl_StepIslands_l0 {r : ((List (List (S33))) × Bool)} {x1 : Int} {x2 : Int} {x3 : Int} {x10 : List (List (S33))} {x19 : List (List (S33))} {x20 : Int} {x21 : Int} (h : Ev (fun k => if x21 < x20 then (if 0 ≤ x21 then (if x21 < (x19.length : Int) then ((impl_StepLine.f k (rd_L3 x19 x21) x1 x2 x3).bind fun bt419 => (if bt419.2 = true then (if x10.length < 5864062014805 then (impl_StepIslands.l0 k x1 x2 x3 (x10 ++ [bt419.1]) x19 x20 (wrap64 (x21 + 1))) else (none)) else (some (([] : List (List (S33))), false)))) else (none)) else (none)) else (some (x10, true))) r) : Ev (fun k => impl_StepIslands.l0 k x1 x2 x3 x10 x19 x20 x21) r := Ev.step (fun k => by rw [impl_StepIslands.l0]) h
theorem st_laws_FnPushed_j4 {r : (Bool)} {x1 : List Int} (h : Ev (fun k => (spec_DrawStepIslands.f k x1).bind fun bt466 => ((impl_StepIslands.f k bt466.1 bt466.2.1 bt466.2.2.1 bt466.2.2.2).bind fun bt472 => (if bt472.2 = true then (laws_FnPushed.l2 k bt466.2.1 bt466.2.2.1 bt466.2.2.2 bt472.1 bt466.1 (bt466.1.length : Int) 0) else (some ((bt472.1.length : Int) == 0))))) r) : Ev (fun k => laws_FnPushed.j4 k x1) r := Ev.step (fun k => by rw [laws_FnPushed.j4]) h
theorem st_laws_FnPushed_l2 {r : (Bool)} {x26 : Int} {x27 : Int} {x28 : Int} {x29 : List (List (S33))} {x210 : List (List (S33))} {x211 : Int} {x212 : Int} (h : Ev (fun k => if x212 < x211 then (if 0 ≤ x212 then (if x212 < (x210.length : Int) then ((impl_StepLine.f k (rd_L3 x210 x212) x26 x27 x28).bind fun bt477 => (if bt477.2 = true then (if x212 < (x29.length : Int) then (laws_FnPushed.j6 k x26 x27 x28 x29 x212 bt477.1 x210 x211 x212 ((bt477.1.length : Int) != ((rd_L3 x29 x212).length : Int))) else (none)) else (laws_FnPushed.j6 k x26 x27 x28 x29 x212 bt477.1 x210 x211 x212 true))) else (none)) else (none)) else (some true)) r) : Ev (fun k => laws_FnPushed.l2 k x26 x27 x28 x29 x210 x211 x212) r := Ev.step (fun k => by rw [laws_FnPushed.l2]) h
theorem st_laws_FnPushed_j6 {r : (Bool)} {x26 : Int} {x27 : Int} {x28 : Int} {x29 : List (List (S33))} {x31 : Int} {x33 : List (S33)} {x210 : List (List (S33))} {x211 : Int} {x212 : Int} {x236 : Bool} (h : Ev (fun k => if x236 = true then (some false) else (laws_FnPushed.l3 k x26 x27 x28 x29 x31 x33 x210 x211 x212 (x33.length : Int) 0)) r) : Ev (fun k => laws_FnPushed.j6 k x26 x27 x28 x29 x31 x33 x210 x211 x212 x236) r := Ev.step (fun k => by rw [laws_FnPushed.j6]) h
theorem st_laws_FnPushed_l3 {r : (Bool)} {x26 : Int} {x27 : Int} {x28 : Int} {x29 : List (List (S33))} {x31 : Int} {x33 : List (S33)} {x210 : List (List (S33))} {x211 : Int} {x212 : Int} {x238 : Int} {x239 : Int} (h : Ev (fun k => if x239 < x238 then (if 0 ≤ x239 then (if x239 < (x33.length : Int) then (if 0 ≤ x31 then (if x31 < (x29.length : Int) then (if x239 < ((rd_L3 x29 x31).length : Int) then (if (!(((rd_T33 x33 x239).f0) == ((rd_T33 (rd_L3 x29 x31) x239).f0)) || (!(((rd_T33 x33 x239).f1) == ((rd_T33 (rd_L3 x29 x31) x239).f1)) || (!(((rd_T33 x33 x239).f2) == ((rd_T33 (rd_L3 x29 x31) x239).f2)) || (!(((rd_T33 x33 x239).f3) == ((rd_T33 (rd_L3 x29 x31) x239).f3)))))) = true then (some false) else (laws_FnPushed.l3 k x26 x27 x28 x29 x31 x33 x210 x211 x212 x238 (wrap64 (x239 + 1)))) else (none)) else (none)) else (none)) else (none)) else (none)) else (laws_FnPushed.l2 k x26 x27 x28 x29 x210 x211 (wrap64 (x212 + 1)))) r) : Ev (fun k => laws_FnPushed.l3 k x26 x27 x28 x29 x31 x33 x210 x211 x212 x238 x239) r := Ev.step (fun k => by rw [laws_FnPushed.l3]) h
theorem st_laws_FnPushed_l0 {r : (Bool)} {x1 : List Int} {x7 : Int} {x8 : List (S33)} {x13 : Bool} {x15 : Bool} {x16 : Bool} {x76 : List (S33)} {x77 : Int} {x78 : Int} {x444000 : Int} {x444001 : Int} {x444002 : Int} {x449000 : Int} {x449001 : Int} {x449002 : Int} (h : Ev (fun k => if x78 < x77 then (if 0 ≤ x78 then (if x78 < (x76.length : Int) then (if x16 = true then (laws_FnPushed.l0 k x1 x7 x8 x13 x15 true x76 x77 (wrap64 (x78 + 1)) x444000 x444001 x444002 x449000 x449001 x449002) else (laws_FnPushed.l0 k x1 x7 x8 x13 x15 (((rd_T33 x76 x78).f2) == 0) x76 x77 (wrap64 (x78 + 1)) x444000 x444001 x444002 x449000 x449001 x449002)) else (none)) else (none)) else (if x13 = true then (if x15 = true then (if x444002 < 1 then (laws_FnPushed.j1 k x1 x7 x8 true x444000 x444001 x444002 x449000 x449001 x449002) else (if x449002 < 1 then (laws_FnPushed.j1 k x1 x7 x8 true x444000 x444001 x444002 x449000 x449001 x449002) else (if x16 = true then (laws_FnPushed.j1 k x1 x7 x8 false x444000 x444001 x444002 x449000 x449001 x449002) else (laws_FnPushed.j1 k x1 x7 x8 (x444000 != x449000) x444000 x444001 x444002 x449000 x449001 x449002)))) else (laws_FnPushed.j1 k x1 x7 x8 true x444000 x444001 x444002 x449000 x449001 x449002)) else (laws_FnPushed.j1 k x1 x7 x8 true x444000 x444001 x444002 x449000 x449001 x449002))) r) : Ev (fun k => laws_FnPushed.l0 k x1 x7 x8 x13 x15 x16 x76 x77 x78 x444000 x444001 x444002 x449000 x449001 x449002) r := Ev.step (fun k => by rw [laws_FnPushed.l0]) h
theorem st_laws_FnPushed_j1 {r : (Bool)} {x1 : List Int} {x7 : Int} {x8 : List (S33)} {x115 : Bool} {x444000 : Int} {x444001 : Int} {x444002 : Int} {x449000 : Int} {x449001 : Int} {x449002 : Int} (h : Ev (fun k => if x115 = true then (some false) else (if x449002 = 0 then (none) else (if x444002 = 0 then (none) else (if (wrap64 (x449001 * (wrap64 (Int.tdiv (55440 : Int) x449002)))) > (wrap64 (x444001 * (wrap64 (Int.tdiv (55440 : Int) x444002)))) then (some false) else ((impl_MoveLine.f k x8 x7).bind fun bt451 => ((spec_MoveLine.f k x8 x7).bind fun bt455 => (if (bt451.2 != bt455.2) = true then (some false) else (laws_FnPushed.l1 k x1 x8 bt451.1 bt451.1 (bt451.1.length : Int) 0)))))))) r) : Ev (fun k => laws_FnPushed.j1 k x1 x7 x8 x115 x444000 x444001 x444002 x449000 x449001 x449002) r := Ev.step (fun k => by rw [laws_FnPushed.j1]) h
theorem st_laws_FnPushed_l1 {r : (Bool)} {x1 : List Int} {x8 : List (S33)} {x19 : List (S33)} {x144 : List (S33)} {x145 : Int} {x146 : Int} (h : Ev (fun k => if x146 < x145 then (if 0 ≤ x146 then (if x146 < (x144.length : Int) then (if ((rd_T33 x144 x146).f2) = 0 then (if x146 < (x8.length : Int) then (if ((rd_T33 x144 x146).f0) = ((rd_T33 x8 x146).f0) then (if x146 > 0 then (if 0 ≤ (wrap64 (x146 - 1)) then (if (wrap64 (x146 - 1)) < (x19.length : Int) then (laws_FnPushed.j3 k x1 x8 x19 x144 x145 x146 (decide ((wrap64 (((rd_T33 x19 (wrap64 (x146 - 1))).f0) + ((rd_T33 x19 (wrap64 (x146 - 1))).f3))) > (wrap64 (((rd_T33 x144 x146).f0) - ((rd_T33 x144 x146).f3)))))) else (none)) else (none)) else (laws_FnPushed.j3 k x1 x8 x19 x144 x145 x146 false)) else (laws_FnPushed.j3 k x1 x8 x19 x144 x145 x146 true)) else (none)) else (if x146 > 0 then (if 0 ≤ (wrap64 (x146 - 1)) then (if (wrap64 (x146 - 1)) < (x19.length : Int) then (laws_FnPushed.j3 k x1 x8 x19 x144 x145 x146 (decide ((wrap64 (((rd_T33 x19 (wrap64 (x146 - 1))).f0) + ((rd_T33 x19 (wrap64 (x146 - 1))).f3))) > (wrap64 (((rd_T33 x144 x146).f0) - ((rd_T33 x144 x146).f3)))))) else (none)) else (none)) else (laws_FnPushed.j3 k x1 x8 x19 x144 x145 x146 false))) else (none)) else (none)) else (laws_FnPushed.j4 k x1)) r) : Ev (fun k => laws_FnPushed.l1 k x1 x8 x19 x144 x145 x146) r := Ev.step (fun k => by rw [laws_FnPushed.l1]) h
theorem st_laws_FnPushed_j3 {r : (Bool)} {x1 : List Int} {x8 : List (S33)} {x19 : List (S33)} {x144 : List (S33)} {x145 : Int} {x146 : Int} {x188 : Bool} (h : Ev (fun k => if x188 = true then (some false) else (laws_FnPushed.l1 k x1 x8 x19 x144 x145 (wrap64 (x146 + 1)))) r) : Ev (fun k => laws_FnPushed.j3 k x1 x8 x19 x144 x145 x146 x188) r := Ev.step (fun k => by rw [laws_FnPushed.j3]) h
theorem st_spec_l1Cur_line10_j0 {r : ((List (S33)) × Int × Int)} {x3 : List (S33)} {x4 : Int} {x1000 : List Int} {x1001 : Int} {x1002 : Int} (h : Ev (fun k => (spec_l1Cur_pick.f x1000 x1001 x1002 200).bind fun bt124 => (spec_l1Cur_line10.l0 k x3 x4 (wrap64 (bt124.1 - 100)) x1000 bt124.2.1 bt124.2.2)) r) : Ev (fun k => spec_l1Cur_line10.j0 k x3 x4 x1000 x1001 x1002) r := Ev.step (fun k => by rw [spec_l1Cur_line10.j0]) h
theorem st_spec_l1Cur_line10_l0 {r : ((List (S33)) × Int × Int)} {x3 : List (S33)} {x4 : Int} {x5 : Int} {x1000 : List Int} {x1001 : Int} {x1002 : Int} (h : Ev (fun k => if x4 > 0 then ((spec_l1Cur_pick.f x1000 x1001 x1002 9).bind fun bt127 => ((spec_l1Cur_pick.f x1000 bt127.2.1 bt127.2.2 5).bind fun bt130 => ((spec_l1Cur_pick.f x1000 bt130.2.1 bt130.2.2 2001).bind fun bt133 => ((spec_l1Cur_one.f x1000 bt133.2.1 bt133.2.2 6).bind fun bt137 => (if bt137.1 = true then (spec_l1Cur_line10.j2 k x3 x4 x5 x1000 bt137.2.1 bt137.2.2 0 0 0 (wrap64 (1 + bt130.1))) else (spec_l1Cur_line10.j2 k x3 x4 x5 x1000 bt137.2.1 bt137.2.2 0 (wrap64 (bt133.1 - 1000)) (wrap64 (1 + bt127.1)) (wrap64 (1 + bt130.1)))))))) else (some (x3, x1001, x1002))) r) : Ev (fun k => spec_l1Cur_line10.l0 k x3 x4 x5 x1000 x1001 x1002) r := Ev.step (fun k => by rw [spec_l1Cur_line10.l0]) h
theorem st_spec_l1Cur_line10_j2 {r : ((List (S33)) × Int × Int)} {x3 : List (S33)} {x4 : Int} {x5 : Int} {x1000 : List Int} {x1001 : Int} {x1002 : Int} {x137000 : Int} {x137001 : Int} {x137002 : Int} {x137003 : Int} (h : Ev (fun k => (spec_l1Cur_one.f x1000 x1001 x1002 2).bind fun bt140 => (if bt140.1 = true then ((spec_l1Cur_pick.f x1000 bt140.2.1 bt140.2.2 20).bind fun bt143 => (spec_l1Cur_line10.j3 k x3 x4 (wrap64 ((wrap64 ((wrap64 (x5 + x137003)) + x137003)) + bt143.1)) x1000 bt143.2.1 bt143.2.2 (wrap64 (x5 + x137003)) x137001 x137002 x137003)) else (spec_l1Cur_line10.j3 k x3 x4 (wrap64 ((wrap64 (x5 + x137003)) + x137003)) x1000 bt140.2.1 bt140.2.2 (wrap64 (x5 + x137003)) x137001 x137002 x137003))) r) : Ev (fun k => spec_l1Cur_line10.j2 k x3 x4 x5 x1000 x1001 x1002 x137000 x137001 x137002 x137003) r := Ev.step (fun k => by rw [spec_l1Cur_line10.j2]) h
theorem st_spec_l1Cur_line10_j3 {r : ((List (S33)) × Int × Int)} {x3 : List (S33)} {x4 : Int} {x5 : Int} {x1000 : List Int} {x1001 : Int} {x1002 : Int} {x137000 : Int} {x137001 : Int} {x137002 : Int} {x137003 : Int} (h : Ev (fun k => (spec_l1Cur_pick.f x1000 x1001 x1002 120).bind fun bt146 => (if bt146.1 = 0 then ((spec_l1Cur_among.f x1000 bt146.2.1 bt146.2.2 (([1000000, (-1000000), 1000001] : List Int))).bind fun bt152 => (if x3.length < 4398046511104 then (spec_l1Cur_line10.l0 k (x3 ++ [(⟨x137000, bt152.1, x137002, x137003⟩ : S33)]) (wrap64 (x4 - 1)) x5 x1000 bt152.2.1 bt152.2.2) else (none))) else (if bt146.1 = 1 then ((spec_l1Cur_among.f x1000 bt146.2.1 bt146.2.2 (([1000000000, 1000000001, 9223372036854775807] : List Int))).bind fun bt161 => (if x3.length < 4398046511104 then (spec_l1Cur_line10.l0 k (x3 ++ [(⟨bt161.1, x137001, x137002, x137003⟩ : S33)]) (wrap64 (x4 - 1)) x5 x1000 bt161.2.1 bt161.2.2) else (none))) else (if bt146.1 = 2 then ((spec_l1Cur_among.f x1000 bt146.2.1 bt146.2.2 (([(-1), 12, 13] : List Int))).bind fun bt170 => (if x3.length < 4398046511104 then (spec_l1Cur_line10.l0 k (x3 ++ [(⟨x137000, x137001, bt170.1, x137003⟩ : S33)]) (wrap64 (x4 - 1)) x5 x1000 bt170.2.1 bt170.2.2) else (none))) else (if bt146.1 = 3 then ((spec_l1Cur_among.f x1000 bt146.2.1 bt146.2.2 (([0, 1000, 1001] : List Int))).bind fun bt179 => (if x3.length < 4398046511104 then (spec_l1Cur_line10.l0 k (x3 ++ [(⟨x137000, x137001, x137002, bt179.1⟩ : S33)]) (wrap64 (x4 - 1)) x5 x1000 bt179.2.1 bt179.2.2) else (none))) else (if x3.length < 4398046511104 then (spec_l1Cur_line10.l0 k (x3 ++ [(⟨x137000, x137001, x137002, x137003⟩ : S33)]) (wrap64 (x4 - 1)) x5 x1000 bt146.2.1 bt146.2.2) else (none))))))) r) : Ev (fun k => spec_l1Cur_line10.j3 k x3 x4 x5 x1000 x1001 x1002 x137000 x137001 x137002 x137003) r := Ev.step (fun k => by rw [spec_l1Cur_line10.j3]) h
theorem st_impl_apart_l0 {r : (Bool)} {x0 : List (S33)} {x3 : Int} (h : Ev (fun k => if x3 < (x0.length : Int) then (if 0 ≤ (wrap64 (x3 - 1)) then (if (wrap64 (x3 - 1)) < (x0.length : Int) then (if 0 ≤ x3 then (if (wrap64 (((rd_T33 x0 (wrap64 (x3 - 1))).f0) + ((rd_T33 x0 (wrap64 (x3 - 1))).f3))) > (wrap64 (((rd_T33 x0 x3).f0) - ((rd_T33 x0 x3).f3))) then (some false) else (impl_apart.l0 k x0 (wrap64 (x3 + 1)))) else (none)) else (none)) else (none)) else (some true)) r) : Ev (fun k => impl_apart.l0 k x0 x3) r := Ev.step (fun k => by rw [impl_apart.l0]) h
theorem st_impl_pushed_j0 {r : (Int × Int × Int × Int × Int × Int × Int × Int)} {x2 : Int} {x8 : Int} {x47 : Bool} {x246000 : Int} {x246001 : Int} {x246002 : Int} {x246003 : Int} {x247000 : Int} {x247001 : Int} {x247002 : Int} {x247003 : Int} (h : Ev (fun k => if x47 = true then (some (x246000, x246001, x246002, x246003, x247000, x247001, x247002, x247003)) else (if x247002 = 0 then (impl_pushed.j1 k (wrap64 (Int.tdiv (wrap64 ((wrap64 (100 + x2)) * x246001)) 100)) x246000 x246001 x246002 x246003 x247000 x247001 x247002 x247003) else (if x246002 = 0 then (impl_pushed.j1 k (wrap64 (Int.tdiv (wrap64 ((wrap64 (100 + x2)) * (wrap64 (-x247001)))) 100)) x246000 x246001 x246002 x246003 x247000 x247001 x247002 x247003) else (if (wrap64 (100 * (wrap64 (x246002 + x247002)))) = 0 then (none) else (impl_pushed.j1 k (wrap64 (Int.tdiv (wrap64 ((wrap64 (100 + x2)) * x8)) (wrap64 (100 * (wrap64 (x246002 + x247002)))))) x246000 x246001 x246002 x246003 x247000 x247001 x247002 x247003))))) r) : Ev (fun k => impl_pushed.j0 k x2 x8 x47 x246000 x246001 x246002 x246003 x247000 x247001 x247002 x247003) r := Ev.step (fun k => by rw [impl_pushed.j0]) h
theorem st_impl_pushed_j1 {r : (Int × Int × Int × Int × Int × Int × Int × Int)} {x9 : Int} {x246000 : Int} {x246001 : Int} {x246002 : Int} {x246003 : Int} {x247000 : Int} {x247001 : Int} {x247002 : Int} {x247003 : Int} (h : Ev (fun k => if x246002 > 0 then (impl_pushed.j2 k x9 x246000 (wrap64 (x246001 - x9)) x246002 x246003 x247000 x247001 x247002 x247003) else (impl_pushed.j2 k x9 x246000 x246001 x246002 x246003 x247000 x247001 x247002 x247003)) r) : Ev (fun k => impl_pushed.j1 k x9 x246000 x246001 x246002 x246003 x247000 x247001 x247002 x247003) r := Ev.step (fun k => by rw [impl_pushed.j1]) h
theorem st_impl_pushed_j2 {r : (Int × Int × Int × Int × Int × Int × Int × Int)} {x9 : Int} {x246000 : Int} {x246001 : Int} {x246002 : Int} {x246003 : Int} {x247000 : Int} {x247001 : Int} {x247002 : Int} {x247003 : Int} (h : Ev (fun _ => if x247002 > 0 then (some (x246000, x246001, x246002, x246003, x247000, wrap64 (x247001 + x9), x247002, x247003)) else (some (x246000, x246001, x246002, x246003, x247000, x247001, x247002, x247003))) r) : Ev (fun k => impl_pushed.j2 k x9 x246000 x246001 x246002 x246003 x247000 x247001 x247002 x247003) r := Ev.step (fun k => by rw [impl_pushed.j2]) h
theorem st_impl_PushLine_j0 {r : ((List (S33)) × Bool)} {x0 : List (S33)} {x1 : Int} {x2 : Int} {x22 : Bool} (h : Ev (fun k => if x22 = true then (some (([] : List (S33)), false)) else ((impl_Body_21.f x0).bind fun t252 => (impl_PushLine.l0 k x1 t252 x2 0))) r) : Ev (fun k => impl_PushLine.j0 k x0 x1 x2 x22) r := Ev.step (fun k => by rw [impl_PushLine.j0]) h
theorem st_impl_PushLine_l0 {r : ((List (S33)) × Bool)} {x1 : Int} {x8 : List (S33)} {x25 : Int} {x26 : Int} (h : Ev (fun k => if x26 < x25 then (impl_PushLine.l1 k x1 x8 1 x25 x26) else (some (x8, true))) r) : Ev (fun k => impl_PushLine.l0 k x1 x8 x25 x26) r := Ev.step (fun k => by rw [impl_PushLine.l0]) h
theorem st_impl_PushLine_l1 {r : ((List (S33)) × Bool)} {x1 : Int} {x8 : List (S33)} {x9 : Int} {x25 : Int} {x26 : Int} (h : Ev (fun k => if x9 < (x8.length : Int) then (if 0 ≤ (wrap64 (x9 - 1)) then (if (wrap64 (x9 - 1)) < (x8.length : Int) then (if 0 ≤ x9 then ((impl_pushed.f k ((rd_T33 x8 (wrap64 (x9 - 1))).f0) ((rd_T33 x8 (wrap64 (x9 - 1))).f1) ((rd_T33 x8 (wrap64 (x9 - 1))).f2) ((rd_T33 x8 (wrap64 (x9 - 1))).f3) ((rd_T33 x8 x9).f0) ((rd_T33 x8 x9).f1) ((rd_T33 x8 x9).f2) ((rd_T33 x8 x9).f3) x1).bind fun bt257 => ((some ((x8.set ((wrap64 (x9 - 1)) : Int).toNat (⟨bt257.1, bt257.2.1, bt257.2.2.1, bt257.2.2.2.1⟩ : S33)).set (x9 : Int).toNat (⟨bt257.2.2.2.2.1, bt257.2.2.2.2.2.1, bt257.2.2.2.2.2.2.1, bt257.2.2.2.2.2.2.2⟩ : S33) : List (S33))).bind fun y266 => ((impl_isBody.f ((rd_T33 y266 (wrap64 (x9 - 1))).f0) ((rd_T33 y266 (wrap64 (x9 - 1))).f1) ((rd_T33 y266 (wrap64 (x9 - 1))).f2) ((rd_T33 y266 (wrap64 (x9 - 1))).f3)).bind fun t268 => (if t268 = true then ((impl_isBody.f ((rd_T33 y266 x9).f0) ((rd_T33 y266 x9).f1) ((rd_T33 y266 x9).f2) ((rd_T33 y266 x9).f3)).bind fun t270 => (if t270 = true then (impl_PushLine.l1 k x1 y266 (wrap64 (x9 + 1)) x25 x26) else (some (([] : List (S33)), false)))) else (some (([] : List (S33)), false)))))) else (none)) else (none)) else (none)) else (impl_PushLine.l0 k x1 x8 x25 (wrap64 (x26 + 1)))) r) : Ev (fun k => impl_PushLine.l1 k x1 x8 x9 x25 x26) r := Ev.step (fun k => by rw [impl_PushLine.l1]) h
theorem st_spec_GoodLine_l0 {r : (Bool)} {x0 : List (S33)} {x8 : List (S33)} {x9 : Int} {x10 : Int} (h : Ev (fun k => if x10 < x9 then (if 0 ≤ x10 then (if x10 < (x8.length : Int) then ((spec_l10Body.f ((rd_T33 x8 x10).f0) ((rd_T33 x8 x10).f1) ((rd_T33 x8 x10).f2) ((rd_T33 x8 x10).f3)).bind fun t279 => (if t279 = true then (if x10 > 0 then (if 0 ≤ (wrap64 (x10 - 1)) then (if (wrap64 (x10 - 1)) < (x0.length : Int) then (if (wrap64 (((rd_T33 x0 (wrap64 (x10 - 1))).f0) + ((rd_T33 x0 (wrap64 (x10 - 1))).f3))) > (wrap64 (((rd_T33 x8 x10).f0) - ((rd_T33 x8 x10).f3))) then (some false) else (spec_GoodLine.l0 k x0 x8 x9 (wrap64 (x10 + 1)))) else (none)) else (none)) else (spec_GoodLine.l0 k x0 x8 x9 (wrap64 (x10 + 1)))) else (some false))) else (none)) else (none)) else (some true)) r) : Ev (fun k => spec_GoodLine.l0 k x0 x8 x9 x10) r := Ev.step (fun k => by rw [spec_GoodLine.l0]) h
theorem st_spec_l10Near_j0 {r : (Bool)} {x5 : Bool} {x284000 : Int} {x284001 : Int} {x284002 : Int} {x284003 : Int} {x285000 : Int} {x285001 : Int} {x285002 : Int} {x285003 : Int} (h : Ev (fun _ => if x5 = true then (some false) else (if x284002 = 0 then (some (decide (x285001 < 0))) else (if x285002 = 0 then (some (decide (x284001 > 0))) else (some (decide ((wrap64 (x284001 * x285002)) > (wrap64 (x285001 * x284002)))))))) r) : Ev (fun k => spec_l10Near.j0 k x5 x284000 x284001 x284002 x284003 x285000 x285001 x285002 x285003) r := Ev.step (fun k => by rw [spec_l10Near.j0]) h
theorem inr_some (a b c : Int) : impl_inRange.f a b c = some (decide (b ≤ a ∧ a ≤ c)) := by
 unfold impl_inRange.f
 split <;> simp_all <;> omega
theorem in_some (a b c : Int) : spec_l1In.f a b c = some (decide (b ≤ a ∧ a ≤ c)) := by
 unfold spec_l1In.f
 split <;> simp_all <;> omega
theorem and255 (a : Int) : 0 ≤ Go.bits .and .u64 a 255 ∧ Go.bits .and .u64 a 255 ≤ 255 := by
 have h : (BitVec.ofInt 64 a &&& BitVec.ofInt 64 255).toNat ≤ 255 := by
  rw [BitVec.toNat_and]
  exact Nat.le_trans Nat.and_le_right (by decide)
 have e : Go.bits .and .u64 a 255 = IntKind.u64.wrap (((BitVec.ofInt 64 a &&& BitVec.ofInt 64 255).toNat : Nat) : Int) := rfl
 rw [e, wrap_u64 (by omega) (by omega)]
 omega
theorem next_some (code : List Int) (hc : ∀ y ∈ code, InU8 y) (at_ seed : Int) (h0 : 0 ≤ at_) (h1 : at_ ≤ 1099511627776) : ∃ v s, spec_l1Cur_next.f code at_ seed = some (v, at_ + 1, s) ∧ 0 ≤ v ∧ v < 256 := by
 have e : wrap64 (at_ + 1) = at_ + 1 := w64 (by omega) (by omega)
 have hw : ∀ a : Int, wrap64 (Go.bits .and .u64 a 255) = Go.bits .and .u64 a 255 := fun a => by have := and255 a; exact w64 (by omega) (by omega)
 unfold spec_l1Cur_next.f
 rw [e]
 by_cases h : at_ < (code.length : Int)
 ·obtain ⟨i, rfl⟩ : ∃ i : Nat, at_ = (i : Int) := ⟨at_.toNat, by omega⟩
  have hv : 0 ≤ rd code (i : Int) ∧ rd code (i : Int) < 256 := by
   rw [rd_get (by omega)]
   have := hc _ (List.getElem_mem (by omega : i < code.length))
   exact ⟨this.1, by have := this.2; omega⟩
  have hr : wrap64 (rd code (i : Int)) = rd code (i : Int) := w64 (by omega) (by omega)
  rw [if_pos h, if_pos h0, hr]
  by_cases h2 : (i : Int) + 1 ≤ (code.length : Int)
  ·rw [if_pos h2]; exact ⟨_, _, rfl, hv.1, hv.2⟩
  ·rw [if_neg h2, hw]; exact ⟨_, _, rfl, (and255 _).1, by have := (and255 (IntKind.u64.wrap ((IntKind.u64.wrap ((IntKind.u64.wrap (seed * 6364136223846793005)) + (IntKind.u64.wrap (rd code (i : Int))))) + 1442695040888963407) / 1099511627776)).2; omega⟩
 ·rw [if_neg h]
  by_cases h2 : at_ + 1 ≤ (code.length : Int)
  ·rw [if_pos h2]; exact ⟨0, _, rfl, by omega, by omega⟩
  ·rw [if_neg h2, hw]; exact ⟨_, _, rfl, (and255 _).1, by have := (and255 (IntKind.u64.wrap ((IntKind.u64.wrap ((IntKind.u64.wrap (seed * 6364136223846793005)))) + 1442695040888963407) / 1099511627776)).2; omega⟩
theorem pick_some (code : List Int) (hc : ∀ y ∈ code, InU8 y) (at_ seed n : Int) (h0 : 0 ≤ at_) (h1 : at_ ≤ 1099511627776) (n1 : 1 ≤ n) (n2 : n ≤ 200) : ∃ v a s, spec_l1Cur_pick.f code at_ seed n = some (v, a, s) ∧ 0 ≤ v ∧ v < n ∧ at_ ≤ a ∧ a ≤ at_ + 1 := by
 unfold spec_l1Cur_pick.f
 by_cases h : n ≤ 1
 ·rw [if_pos h]; exact ⟨0, at_, seed, rfl, by omega, by omega, by omega, by omega⟩
 ·obtain ⟨v, s, hv, v0, v1⟩ := next_some code hc at_ seed h0 h1
  rw [if_neg h, hv]
  simp only [Option.bind_some]
  rw [if_neg (by omega), if_neg (by omega)]
  refine ⟨Int.tmod v n, at_ + 1, s, rfl, Int.tmod_nonneg _ v0, Int.tmod_lt_of_pos _ (by omega), by omega, by omega⟩
theorem pick_any (code : List Int) (hc : ∀ y ∈ code, InU8 y) (at_ seed n : Int) (h0 : 0 ≤ at_) (h1 : at_ ≤ 1000000000) (n1 : 1 ≤ n) : ∃ v a s, spec_l1Cur_pick.f code at_ seed n = some (v, a, s) ∧ at_ ≤ a ∧ a ≤ at_ + 2 := by
 unfold spec_l1Cur_pick.f
 by_cases h : n ≤ 1
 ·rw [if_pos h]; exact ⟨0, at_, seed, rfl, by omega, by omega⟩
 ·obtain ⟨v, s, hv, _, _⟩ := next_some code hc at_ seed h0 (by omega)
  rw [if_neg h, hv]
  simp only [Option.bind_some]
  by_cases h2 : n > 200
  ·obtain ⟨v2, s2, hv2, _, _⟩ := next_some code hc (at_ + 1) s (by omega) (by omega)
   rw [if_pos h2, hv2]
   simp only [Option.bind_some]
   rw [if_neg (by omega)]
   exact ⟨_, _, _, rfl, by omega, by omega⟩
  ·rw [if_neg h2, if_neg (by omega)]
   exact ⟨_, _, _, rfl, by omega, by omega⟩
theorem one_any (code : List Int) (hc : ∀ y ∈ code, InU8 y) (at_ seed n : Int) (h0 : 0 ≤ at_) (h1 : at_ ≤ 1000000000) (n1 : 1 ≤ n) : ∃ v a s, spec_l1Cur_one.f code at_ seed n = some (v, a, s) ∧ at_ ≤ a ∧ a ≤ at_ + 2 := by
 obtain ⟨v, a, s, h, h2⟩ := pick_any code hc at_ seed n h0 h1 n1
 exact ⟨_, _, _, by unfold spec_l1Cur_one.f; rw [h]; rfl, h2⟩
theorem among_any (code : List Int) (hc : ∀ y ∈ code, InU8 y) (at_ seed : Int) (l : List Int) (h0 : 0 ≤ at_) (h1 : at_ ≤ 1000000000) (n1 : 1 ≤ l.length) (n2 : l.length ≤ 200) : ∃ v a s, spec_l1Cur_among.f code at_ seed l = some (v, a, s) ∧ v ∈ l ∧ at_ ≤ a ∧ a ≤ at_ + 2 := by
 obtain ⟨v, a, s, h, v0, v1, a0, a1⟩ := pick_some code hc at_ seed (l.length : Int) h0 (by omega) (by omega) (by omega)
 obtain ⟨i, rfl⟩ : ∃ i : Nat, v = (i : Int) := ⟨v.toNat, by omega⟩
 refine ⟨rd l (i : Int), a, s, ?_, ?_, a0, by omega⟩
 ·unfold spec_l1Cur_among.f
  rw [h]
  simp only [Option.bind_some]
  rw [if_pos v0, if_pos v1]
 ·rw [rd_get (by omega)]; exact List.getElem_mem _
def Bod (b : S33) : Prop := (-1000000000 ≤ b.f0 ∧ b.f0 ≤ 1000000000) ∧ (-1000000 ≤ b.f1 ∧ b.f1 ≤ 1000000) ∧ (0 ≤ b.f2 ∧ b.f2 ≤ 12) ∧ (b.f2 > 0 ∨ b.f1 = 0) ∧ (1 ≤ b.f3 ∧ b.f3 ≤ 1000)
instance (b : S33) : Decidable (Bod b) := by unfold Bod; infer_instance
theorem body_impl (b : S33) : impl_isBody.f b.f0 b.f1 b.f2 b.f3 = some (decide (Bod b)) := by
 unfold impl_isBody.f Bod
 simp only [inr_some, Option.bind_some, decide_eq_true_eq]
 by_cases h1 : -1000000000 ≤ b.f0 ∧ b.f0 ≤ 1000000000
 ·by_cases h2 : -1000000 ≤ b.f1 ∧ b.f1 ≤ 1000000
  ·by_cases h3 : 0 ≤ b.f2 ∧ b.f2 ≤ 12
   ·by_cases h4 : b.f2 > 0
    ·rw [if_pos h1, if_pos h2, if_pos h3, if_pos h4]; simp [h1, h2, h3, h4]
    ·by_cases h5 : b.f1 = 0
     ·rw [if_pos h1, if_pos h2, if_pos h3, if_neg h4, if_pos h5]; simp [h1, h2, h3, h5]
     ·rw [if_pos h1, if_pos h2, if_pos h3, if_neg h4, if_neg h5]; simp [h4, h5]
   ·rw [if_pos h1, if_pos h2, if_neg h3]; simp [h3]
  ·rw [if_pos h1, if_neg h2]; simp [h2]
 ·rw [if_neg h1]; simp [h1]
theorem body_spec (b : S33) : spec_l10Body.f b.f0 b.f1 b.f2 b.f3 = some (decide (Bod b)) := by
 have h := body_impl b
 unfold impl_isBody.f at h
 unfold spec_l10Body.f
 simp only [inr_some] at h
 simp only [in_some]
 exact h
def bo (l : List S33) (i : Nat) : S33 := rd_T33 l (i : Int)
theorem bo_get {l : List S33} {i : Nat} (h : i < l.length) : bo l i = l[i] := rdOf_get h
def Nx (l : List S33) (i : Nat) : Prop := (bo l i).f0 + (bo l i).f3 ≤ (bo l (i + 1)).f0 - (bo l (i + 1)).f3
def Bods (l : List S33) : Prop := ∀ i, i < l.length → Bod (bo l i)
def Apart (l : List S33) : Prop := ∀ i, i + 1 < l.length → Nx l i
def GoodL (l : List S33) : Prop := l.length ≤ 20 ∧ Bods l ∧ Apart l
theorem wp1 (i : Nat) (h : i < 1048576) : wrap64 (((i + 1 : Nat) : Int) - 1) = (i : Int) := by rw [w64 (by omega) (by omega)]; omega
theorem near_w {l : List S33} {i : Nat} (g1 : Bod (bo l i)) (g2 : Bod (bo l (i + 1))) : (wrap64 ((bo l i).f0 + (bo l i).f3) > wrap64 ((bo l (i + 1)).f0 - (bo l (i + 1)).f3)) ↔ ¬ Nx l i := by
 unfold Bod at g1 g2
 unfold Nx
 rw [w64 (by omega) (by omega), w64 (by omega) (by omega)]
 omega
theorem apart_ev (l : List S33) (hl : l.length ≤ 1048575) (hb : Bods l) (b : Bool) (hB : b = true ↔ Apart l) : Ev (fun k => impl_apart.f k l) b := by
 unfold impl_apart.f
 have e : (1 : Int) = ((0 + 1 : Nat) : Int) := rfl
 rw [e]
 refine ev_all (l.length - 1) (fun k i => impl_apart.l0 k l ((i + 1 : Nat) : Int)) (Nx l) true b (by rw [hB]; unfold Apart; exact ⟨fun h => ⟨rfl, fun i hi => h i (by omega)⟩, fun h i hi => h.2 i (by omega)⟩) ?_ ?_ ?_
 ·refine st_impl_apart_l0 (ev_neg (by omega) (ev_some rfl))
 ·intro i hi _ ho r hr
  refine st_impl_apart_l0 (ev_pos (by omega) ?_)
  rw [wp1 i (by omega)]
  refine ev_pos (by omega) (ev_pos (by omega) (ev_pos (by omega) (ev_neg ?_ ?_)))
  ·exact fun h => (near_w (hb i (by omega)) (hb (i + 1) (by omega))).1 h ho
  ·rw [w64s (i + 1) (by omega)]
   exact hr
 ·intro i hi _ ho
  refine st_impl_apart_l0 (ev_pos (by omega) ?_)
  rw [wp1 i (by omega)]
  exact ev_pos (by omega) (ev_pos (by omega) (ev_pos (by omega) (ev_pos ((near_w (hb i (by omega)) (hb (i + 1) (by omega))).2 ho) (ev_some rfl))))
theorem good_impl (l : List S33) (hl : l.length ≤ 1048575) (b : Bool) (hB : b = true ↔ GoodL l) : Ev (fun k => impl_GoodLine.f k l) b := by
 unfold impl_GoodLine.f
 by_cases h20 : l.length ≤ 20
 ·obtain ⟨c, hc⟩ := bool_of (∃ i, i < l.length ∧ (!decide (Bod (bo l i))) = true)
  have hcont : Ev (fun k => slices_ContainsFunc_w30.f k l) c := by
   unfold slices_ContainsFunc_w30.f slices_IndexFunc_w30.f
   refine ev_contains (fun k xs n i => slices_IndexFunc_w30.l0 k xs n i) (fun k xs i => impl_GoodLine_1.f (rd_T33 xs i).f0 (rd_T33 xs i).f1 (rd_T33 xs i).f2 (rd_T33 xs i).f3) (fun k xs n i => by rw [slices_IndexFunc_w30.l0]) l (by omega) (fun i => !decide (Bod (bo l i))) (fun i hi => ?_) c hc
   unfold impl_GoodLine_1.f
   rw [body_impl]
   exact ev_eq rfl
  refine ev_pos (by omega) (Ev.bind hcont ?_)
  cases c with
  | true =>
   obtain ⟨i, hi, h⟩ := hc.1 rfl
   refine ev_pos rfl (ev_some (bool_false hB fun hg => ?_).symm)
   have := hg.2.1 i hi
   simp [this] at h
  | false =>
   have hb : Bods l := by
    intro i hi
    apply Classical.byContradiction
    intro h
    have := hc.2 ⟨i, hi, by simp [h]⟩
    cases this
   exact ev_neg (by decide) (Ev.bind (apart_ev l hl hb b (by rw [hB]; unfold GoodL; exact ⟨fun h => h.2.2, fun h => ⟨h20, hb, h⟩⟩)) (ev_some rfl))
 ·exact ev_neg (by omega) (ev_some (bool_false hB fun h => h20 h.1).symm)
def Ok1 (l : List S33) (i : Nat) : Prop := Bod (bo l i) ∧ (0 < i → Nx l (i - 1))
theorem good_spec (l : List S33) (b : Bool) (hB : b = true ↔ GoodL l) : Ev (fun k => spec_GoodLine.f k l) b := by
 unfold spec_GoodLine.f
 by_cases h20 : l.length ≤ 20
 ·refine ev_neg (by omega) ?_
  have near : ∀ i, 0 < i → i < l.length → Bod (bo l (i - 1)) → Bod (bo l i) → wrap64 ((i : Int) - 1) = ((i - 1 : Nat) : Int) ∧ ((wrap64 ((rd_T33 l ((i - 1 : Nat) : Int)).f0 + (rd_T33 l ((i - 1 : Nat) : Int)).f3) > wrap64 ((rd_T33 l (i : Int)).f0 - (rd_T33 l (i : Int)).f3)) ↔ ¬ Nx l (i - 1)) := by
   intro i h0 hi g1 g2
   obtain ⟨j, rfl⟩ : ∃ j, i = j + 1 := ⟨i - 1, by omega⟩
   exact ⟨wp1 j (by omega), near_w g1 g2⟩
  refine ev_all l.length (fun k i => spec_GoodLine.l0 k l l (l.length : Int) (i : Int)) (Ok1 l) true b ?_ ?_ ?_ ?_
  ·rw [hB]
   constructor
   ·rintro ⟨_, h2, h3⟩
    exact ⟨rfl, fun i hi => ⟨h2 i hi, fun h0 => h3 (i - 1) (by omega)⟩⟩
   ·rintro ⟨_, h⟩
    exact ⟨h20, fun i hi => (h i hi).1, fun i hi => (h (i + 1) hi).2 (by omega)⟩
  ·exact st_spec_GoodLine_l0 (ev_neg (by omega) (ev_some rfl))
  ·intro i hi hp ho r hr
   obtain ⟨g1, g2⟩ := ho
   refine st_spec_GoodLine_l0 (ev_pos (by omega) (ev_pos (by omega) (ev_pos (by omega) ?_)))
   rw [body_spec]
   refine ev_bindc rfl (ev_pos (decide_eq_true g1) ?_)
   rw [w64s i (by omega)]
   by_cases h0 : 0 < i
   ·obtain ⟨n1, n2⟩ := near i h0 hi (hp (i - 1) (by omega)).1 g1
    rw [n1]
    exact ev_pos (by omega) (ev_pos (by omega) (ev_pos (by omega) (ev_neg (fun h => n2.1 h (g2 h0)) hr)))
   ·exact ev_neg (by omega) hr
  ·intro i hi hp ho
   refine st_spec_GoodLine_l0 (ev_pos (by omega) (ev_pos (by omega) (ev_pos (by omega) ?_)))
   rw [body_spec]
   refine ev_bindc rfl ?_
   by_cases g1 : Bod (bo l i)
   ·refine ev_pos (decide_eq_true g1) ?_
    have h0 : 0 < i := Classical.byContradiction fun h => ho ⟨g1, fun h' => absurd h' h⟩
    obtain ⟨n1, n2⟩ := near i h0 hi (hp (i - 1) (by omega)).1 g1
    rw [n1]
    exact ev_pos (by omega) (ev_pos (by omega) (ev_pos (by omega) (ev_pos (n2.2 fun h => ho ⟨g1, fun _ => h⟩) (ev_some rfl))))
   ·exact ev_neg (fun h => g1 (of_decide_eq_true h)) (ev_some rfl)
 ·exact ev_pos (by omega) (ev_some (bool_false hB fun h => h20 h.1).symm)
theorem mul_bd (x y A B : Int) (h : -A ≤ x ∧ x ≤ A) (h' : -B ≤ y ∧ y ≤ B) : -(A * B) ≤ x * y ∧ x * y ≤ A * B := by
 have h1 : 0 ≤ (A - x) * (B + y) := Int.mul_nonneg (by omega) (by omega)
 have h2 : 0 ≤ (A + x) * (B - y) := Int.mul_nonneg (by omega) (by omega)
 have h3 : 0 ≤ (A - x) * (B - y) := Int.mul_nonneg (by omega) (by omega)
 have h4 : 0 ≤ (A + x) * (B + y) := Int.mul_nonneg (by omega) (by omega)
 have e1 : 2 * (A * B) - 2 * (x * y) = (A - x) * (B + y) + (A + x) * (B - y) := by grind
 have e2 : 2 * (A * B) + 2 * (x * y) = (A - x) * (B - y) + (A + x) * (B + y) := by grind
 omega
def En (x : S33) : Int := if x.f2 > 0 then x.f1 * x.f1 * (27720 / x.f2) else 0
structure After (a b a' b' : S33) : Prop where
 a0 : a'.f0 = a.f0
 a2 : a'.f2 = a.f2
 a3 : a'.f3 = a.f3
 b0 : b'.f0 = b.f0
 b2 : b'.f2 = b.f2
 b3 : b'.f3 = b.f3
 push : 0 < a.f2 → 0 < b.f2 → a'.f1 + b'.f1 = a.f1 + b.f1
 en : En a' + En b' ≤ En a + En b
theorem sq_le (P j : Int) (h : P ≤ j) (h2 : j ≤ 2 * P) (h0 : 0 < P) : (P - j) * (P - j) ≤ P * P := by
 have e : P * P - (P - j) * (P - j) = j * (2 * P - j) := by grind
 have : 0 ≤ j * (2 * P - j) := Int.mul_nonneg (by omega) (by omega)
 omega
theorem quot_of (M : Int) (h0 : 0 < M) (h1 : M ≤ 12) : 27720 / M * M = 27720 ∧ 0 < 27720 / M ∧ 27720 / M ≤ 27720 ∧ Int.tdiv 55440 (2 * M) = 27720 / M := by
 have h : M = 1 ∨ M = 2 ∨ M = 3 ∨ M = 4 ∨ M = 5 ∨ M = 6 ∨ M = 7 ∨ M = 8 ∨ M = 9 ∨ M = 10 ∨ M = 11 ∨ M = 12 := by omega
 rcases h with rfl | rfl | rfl | rfl | rfl | rfl | rfl | rfl | rfl | rfl | rfl | rfl <;> decide
theorem en_both (q1 q2 M1 M2 P1 P2 j : Int) (h1 : q1 * M1 = 27720) (h2 : q2 * M2 = 27720) (m1 : 0 < M1) (m2 : 0 < M2) (hj : 0 ≤ j) (hs : j * (M1 + M2) ≤ 2 * (P1 * M2 - P2 * M1)) :
  (P1 - j) * (P1 - j) * q1 + (P2 + j) * (P2 + j) * q2 ≤ P1 * P1 * q1 + P2 * P2 * q2 := by
 have e : M1 * M2 * (((P1 - j) * (P1 - j) * q1 + (P2 + j) * (P2 + j) * q2) - (P1 * P1 * q1 + P2 * P2 * q2)) = 27720 * (j * (j * (M1 + M2) - 2 * (P1 * M2 - P2 * M1))) := by grind
 generalize (P1 - j) * (P1 - j) * q1 + (P2 + j) * (P2 + j) * q2 = X at e ⊢
 generalize P1 * P1 * q1 + P2 * P2 * q2 = Y at e ⊢
 have hm : 0 < M1 * M2 := Int.mul_pos m1 m2
 have hn : j * (j * (M1 + M2) - 2 * (P1 * M2 - P2 * M1)) ≤ 0 := by
  have : 0 ≤ j * (2 * (P1 * M2 - P2 * M1) - j * (M1 + M2)) := Int.mul_nonneg hj (by omega)
  have e2 : j * (2 * (P1 * M2 - P2 * M1) - j * (M1 + M2)) = -(j * (j * (M1 + M2) - 2 * (P1 * M2 - P2 * M1))) := by grind
  omega
 apply Classical.byContradiction
 intro h
 have : 0 < M1 * M2 * (X - Y) := Int.mul_pos hm (by omega)
 omega
theorem div_bd (X Y : Int) (hX : 0 ≤ X) (hY : 0 < Y) : 0 ≤ Int.tdiv X Y ∧ Int.tdiv X Y * Y ≤ X ∧ Int.tdiv X Y ≤ X ∧ X < (Int.tdiv X Y + 1) * Y := by
 rw [Int.tdiv_eq_ediv_of_nonneg hX]
 have h1 := Int.ediv_mul_le X (show Y ≠ 0 by omega)
 have h2 := Int.lt_ediv_add_one_mul_self X hY
 exact ⟨Int.ediv_nonneg hX (by omega), h1, Int.ediv_le_self Y hX, h2⟩
theorem wall_j (e P : Int) (h0 : 0 ≤ e) (h1 : e ≤ 100) (p0 : 0 < P) (p1 : P ≤ 1000000) : ∃ j, wrap64 (Int.tdiv (wrap64 (wrap64 (100 + e) * P)) 100) = j ∧ P ≤ j ∧ j ≤ 2 * P := by
 have hb := mul_bd (100 + e) P 200 1000000 (by omega) (by omega)
 rw [w64 (n := 100 + e) (by omega) (by omega), w64 (n := (100 + e) * P) (by omega) (by omega)]
 have l1 : 100 * P ≤ (100 + e) * P := Int.mul_le_mul_of_nonneg_right (by omega) (by omega)
 have l2 : (100 + e) * P ≤ 200 * P := Int.mul_le_mul_of_nonneg_right (by omega) (by omega)
 generalize (100 + e) * P = X at *
 have := div_bd X 100 (by omega) (by omega)
 generalize Int.tdiv X 100 = j at *
 exact ⟨j, w64 (by omega) (by omega), by omega, by omega⟩
theorem both_j (e P1 P2 M1 M2 : Int) (h0 : 0 ≤ e) (h1 : e ≤ 100) (p1 : -1000000 ≤ P1 ∧ P1 ≤ 1000000) (p2 : -1000000 ≤ P2 ∧ P2 ≤ 1000000) (m1 : 0 < M1 ∧ M1 ≤ 12) (m2 : 0 < M2 ∧ M2 ≤ 12) (hn : 0 < P1 * M2 - P2 * M1) :
  wrap64 (100 * wrap64 (M1 + M2)) ≠ 0 ∧ ∃ j, wrap64 (Int.tdiv (wrap64 (wrap64 (100 + e) * wrap64 (wrap64 (P1 * M2) - wrap64 (P2 * M1)))) (wrap64 (100 * wrap64 (M1 + M2)))) = j ∧ 0 ≤ j ∧ j ≤ 10000000000 ∧ j * (M1 + M2) ≤ 2 * (P1 * M2 - P2 * M1) := by
 have b1 := mul_bd P1 M2 1000000 12 (by omega) (by omega)
 have b2 := mul_bd P2 M1 1000000 12 (by omega) (by omega)
 rw [w64 (n := 100 + e) (by omega) (by omega), w64 (n := P1 * M2) (by omega) (by omega), w64 (n := P2 * M1) (by omega) (by omega), w64 (n := P1 * M2 - P2 * M1) (by omega) (by omega), w64 (n := M1 + M2) (by omega) (by omega), w64 (n := 100 * (M1 + M2)) (by omega) (by omega)]
 have hn2 : P1 * M2 - P2 * M1 ≤ 24000000 := by omega
 generalize P1 * M2 - P2 * M1 = n at *
 have b3 := mul_bd (100 + e) n 200 24000000 (by omega) (by omega)
 rw [w64 (n := (100 + e) * n) (by omega) (by omega)]
 have l2 : (100 + e) * n ≤ 200 * n := Int.mul_le_mul_of_nonneg_right (by omega) (by omega)
 have l0 : 0 ≤ (100 + e) * n := Int.mul_nonneg (by omega) (by omega)
 generalize (100 + e) * n = X at *
 have := div_bd X (100 * (M1 + M2)) l0 (by omega)
 generalize Int.tdiv X (100 * (M1 + M2)) = j at *
 refine ⟨by omega, j, w64 (by omega) (by omega), by omega, by omega, ?_⟩
 have e2 : j * (100 * (M1 + M2)) = 100 * (j * (M1 + M2)) := by grind
 omega
theorem mx_1 (m : Int) (h : 0 ≤ m) : mx m 1 = if m = 0 then 1 else m := by
 unfold mx
 by_cases h0 : m = 0
 ·subst h0; rfl
 ·rw [if_neg (by omega), if_neg h0]
theorem push_pair (a b : S33) (e : Int) (ha : Bod a) (hb : Bod b) (e0 : 0 ≤ e) (e1 : e ≤ 100) : ∃ a' b' : S33,
  Ev (fun k => impl_pushed.f k a.f0 a.f1 a.f2 a.f3 b.f0 b.f1 b.f2 b.f3 e) (a'.f0, a'.f1, a'.f2, a'.f3, b'.f0, b'.f1, b'.f2, b'.f3) ∧
  Ev (fun k => spec_l10Pair.f k a.f0 a.f1 a.f2 a.f3 b.f0 b.f1 b.f2 b.f3 e) (a'.f0, a'.f1, a'.f2, a'.f3, b'.f0, b'.f1, b'.f2, b'.f3) ∧ After a b a' b' := by
 obtain ⟨x1, p1, m1, r1⟩ := a
 obtain ⟨x2, p2, m2, r2⟩ := b
 unfold Bod at ha hb
 dsimp only at ha hb
 obtain ⟨⟨hx1, hx1'⟩, ⟨hp1, hp1'⟩, ⟨hm1, hm1'⟩, hw1, ⟨hr1, hr1'⟩⟩ := ha
 obtain ⟨⟨hx2, hx2'⟩, ⟨hp2, hp2'⟩, ⟨hm2, hm2'⟩, hw2, ⟨hr2, hr2'⟩⟩ := hb
 dsimp only
 have same : After ⟨x1, p1, m1, r1⟩ ⟨x2, p2, m2, r2⟩ ⟨x1, p1, m1, r1⟩ ⟨x2, p2, m2, r2⟩ := ⟨rfl, rfl, rfl, rfl, rfl, rfl, fun _ _ => rfl, Int.le_refl _⟩
 unfold impl_pushed.f spec_l10Pair.f spec_l10Near.f
 rw [mx_1 m1 hm1, mx_1 m2 hm2]
 by_cases hfar : wrap64 (x1 + r1) < wrap64 (x2 - r2)
 ·exact ⟨⟨x1, p1, m1, r1⟩, ⟨x2, p2, m2, r2⟩, ev_pos hfar (st_impl_pushed_j0 (ev_pos rfl (ev_some rfl))), ev_pos hfar (st_spec_l10Pair_j0 (ev_pos rfl (ev_some rfl))), same⟩
 by_cases z1 : m1 = 0
 ·subst z1
  obtain rfl : p1 = 0 := by omega
  by_cases z2 : m2 = 0
  ·subst z2
   exact ⟨⟨x1, 0, 0, r1⟩, ⟨x2, p2, 0, r2⟩, ev_neg hfar (ev_pos rfl (ev_pos rfl (st_impl_pushed_j0 (ev_pos rfl (ev_some rfl))))), ev_neg hfar (Ev.bind (ev_pos rfl (st_spec_l10Near_j0 (ev_pos rfl (ev_some rfl)))) (st_spec_l10Pair_j0 (ev_pos rfl (ev_some rfl)))), same⟩
  ·have hN : wrap64 (wrap64 (0 * (if m2 = 0 then 1 else m2)) - wrap64 (p2 * (if (0 : Int) = 0 then 1 else 0))) = -p2 := by
    rw [if_neg z2, if_pos rfl, Int.zero_mul, Int.mul_one, w64 (n := 0) (by omega) (by omega), w64 (n := p2) (by omega) (by omega), w64 (by omega) (by omega)]
    omega
   rw [hN]
   have hz : (m2 == 0) = false := by simp [z2]
   by_cases hg : -p2 ≤ 0
   ·refine ⟨⟨x1, 0, 0, r1⟩, ⟨x2, p2, m2, r2⟩, ev_neg hfar (ev_pos rfl (ev_neg z2 (st_impl_pushed_j0 (ev_pos (decide_eq_true hg) (ev_some rfl))))), ev_neg hfar (Ev.bind (ev_pos rfl (st_spec_l10Near_j0 (ev_neg (by rw [hz]; decide) (ev_pos rfl (ev_some rfl))))) (st_spec_l10Pair_j0 (ev_pos ?_ (ev_some rfl)))), same⟩
    rw [decide_eq_false (by omega)]; rfl
   ·obtain ⟨j, hj, j0, j1⟩ := wall_j e (-p2) e0 e1 (by omega) (by omega)
    have hneg : wrap64 (-p2) = -p2 := w64 (by omega) (by omega)
    have ei : wrap64 (p2 + j) = p2 + j := w64 (by omega) (by omega)
    refine ⟨⟨x1, 0, 0, r1⟩, ⟨x2, p2 + j, m2, r2⟩, ev_neg hfar (ev_pos rfl (ev_neg z2 (st_impl_pushed_j0 (ev_neg (by rw [decide_eq_false hg]; decide) (ev_neg z2 (ev_pos rfl ?_)))))), ev_neg hfar (Ev.bind (ev_pos rfl (st_spec_l10Near_j0 (ev_neg (by rw [hz]; decide) (ev_pos rfl (ev_some rfl))))) (st_spec_l10Pair_j0 (ev_neg ?_ (ev_pos rfl ?_)))), ⟨rfl, rfl, rfl, rfl, rfl, rfl, fun h => absurd h (Int.lt_irrefl 0), ?_⟩⟩
    ·rw [hneg, hj]
     exact st_impl_pushed_j1 (ev_neg (by omega) (st_impl_pushed_j2 (ev_pos (by omega) (ev_some (by rw [ei])))))
    ·rw [decide_eq_true (by omega)]; decide
    ·rw [hneg, hj]
     exact st_spec_l10Pair_j1 (ev_neg (by omega) (st_spec_l10Pair_j2 (ev_pos (by omega) (ev_some (by rw [ei])))))
    ·unfold En
     dsimp only
     rw [if_neg (by omega), if_pos (by omega), if_pos (by omega)]
     have hs := sq_le (-p2) j j0 j1 (by omega)
     have e3 : (-p2 - j) * (-p2 - j) = (p2 + j) * (p2 + j) := by grind
     have e4 : -p2 * -p2 = p2 * p2 := by grind
     rw [e3, e4] at hs
     have := Int.mul_le_mul_of_nonneg_right hs (Int.le_of_lt (quot_of m2 (by omega) (by omega)).2.1)
     omega
 ·by_cases z2 : m2 = 0
  ·subst z2
   obtain rfl : p2 = 0 := by omega
   have hN : wrap64 (wrap64 (p1 * (if (0 : Int) = 0 then 1 else 0)) - wrap64 (0 * (if m1 = 0 then 1 else m1))) = p1 := by
    rw [if_neg z1, if_pos rfl, Int.zero_mul, Int.mul_one, w64 (n := 0) (by omega) (by omega), w64 (n := p1) (by omega) (by omega), w64 (by omega) (by omega)]
    omega
   rw [hN]
   by_cases hg : p1 ≤ 0
   ·refine ⟨⟨x1, p1, m1, r1⟩, ⟨x2, 0, 0, r2⟩, ev_neg hfar (ev_neg z1 (st_impl_pushed_j0 (ev_pos (decide_eq_true hg) (ev_some rfl)))), ev_neg hfar (Ev.bind (ev_neg z1 (st_spec_l10Near_j0 (ev_neg (by decide) (ev_neg z1 (ev_pos rfl (ev_some rfl)))))) (st_spec_l10Pair_j0 (ev_pos ?_ (ev_some rfl)))), same⟩
    rw [decide_eq_false (by omega)]; rfl
   ·obtain ⟨j, hj, j0, j1⟩ := wall_j e p1 e0 e1 (by omega) (by omega)
    have ei : wrap64 (p1 - j) = p1 - j := w64 (by omega) (by omega)
    refine ⟨⟨x1, p1 - j, m1, r1⟩, ⟨x2, 0, 0, r2⟩, ev_neg hfar (ev_neg z1 (st_impl_pushed_j0 (ev_neg (by rw [decide_eq_false hg]; decide) (ev_pos rfl ?_)))), ev_neg hfar (Ev.bind (ev_neg z1 (st_spec_l10Near_j0 (ev_neg (by decide) (ev_neg z1 (ev_pos rfl (ev_some rfl)))))) (st_spec_l10Pair_j0 (ev_neg ?_ (ev_neg z1 (ev_pos rfl ?_))))), ⟨rfl, rfl, rfl, rfl, rfl, rfl, fun _ h => absurd h (Int.lt_irrefl 0), ?_⟩⟩
    ·rw [hj]
     exact st_impl_pushed_j1 (ev_pos (by omega) (st_impl_pushed_j2 (ev_neg (by omega) (ev_some (by rw [ei])))))
    ·rw [decide_eq_true (by omega)]; decide
    ·rw [hj]
     exact st_spec_l10Pair_j1 (ev_pos (by omega) (st_spec_l10Pair_j2 (ev_neg (by omega) (ev_some (by rw [ei])))))
    ·unfold En
     dsimp only
     rw [if_pos (by omega), if_neg (by omega), if_pos (by omega)]
     have hs := sq_le p1 j j0 j1 (by omega)
     have := Int.mul_le_mul_of_nonneg_right hs (Int.le_of_lt (quot_of m1 (by omega) (by omega)).2.1)
     omega
  ·have b1 := mul_bd p1 m2 1000000 12 (by omega) (by omega)
   have b2 := mul_bd p2 m1 1000000 12 (by omega) (by omega)
   have w1 : wrap64 (p1 * m2) = p1 * m2 := w64 (by omega) (by omega)
   have w2 : wrap64 (p2 * m1) = p2 * m1 := w64 (by omega) (by omega)
   have w3 : wrap64 (p1 * m2 - p2 * m1) = p1 * m2 - p2 * m1 := w64 (by omega) (by omega)
   rw [if_neg z1, if_neg z2]
   by_cases hg : p1 * m2 - p2 * m1 ≤ 0
   ·refine ⟨⟨x1, p1, m1, r1⟩, ⟨x2, p2, m2, r2⟩, ev_neg hfar (ev_neg z1 (st_impl_pushed_j0 (ev_pos (decide_eq_true (by rw [w1, w2, w3]; exact hg)) (ev_some rfl)))), ev_neg hfar (Ev.bind (ev_neg z1 (st_spec_l10Near_j0 (ev_neg (by decide) (ev_neg z1 (ev_neg z2 (ev_some rfl)))))) (st_spec_l10Pair_j0 (ev_pos ?_ (ev_some rfl)))), same⟩
    rw [w1, w2, decide_eq_false (by omega)]; rfl
   ·obtain ⟨hnz, j, hj, j0, j1, j2⟩ := both_j e p1 p2 m1 m2 e0 e1 (by omega) (by omega) (by omega) (by omega) (by omega)
    have ei : wrap64 (p1 - j) = p1 - j := w64 (by omega) (by omega)
    have ei2 : wrap64 (p2 + j) = p2 + j := w64 (by omega) (by omega)
    refine ⟨⟨x1, p1 - j, m1, r1⟩, ⟨x2, p2 + j, m2, r2⟩, ev_neg hfar (ev_neg z1 (st_impl_pushed_j0 (ev_neg (by rw [w1, w2, w3, decide_eq_false hg]; decide) (ev_neg z2 (ev_neg z1 (ev_neg hnz ?_)))))), ev_neg hfar (Ev.bind (ev_neg z1 (st_spec_l10Near_j0 (ev_neg (by decide) (ev_neg z1 (ev_neg z2 (ev_some rfl)))))) (st_spec_l10Pair_j0 (ev_neg ?_ (ev_neg z1 (ev_neg z2 (ev_neg hnz ?_)))))), ⟨rfl, rfl, rfl, rfl, rfl, rfl, fun _ _ => ?_, ?_⟩⟩
    ·rw [hj]
     exact st_impl_pushed_j1 (ev_pos (by omega) (st_impl_pushed_j2 (ev_pos (by omega) (ev_some (by rw [ei, ei2])))))
    ·rw [w1, w2, decide_eq_true (by omega)]; decide
    ·rw [hj]
     exact st_spec_l10Pair_j1 (ev_pos (by omega) (st_spec_l10Pair_j2 (ev_pos (by omega) (ev_some (by rw [ei, ei2])))))
    ·dsimp only; omega
    ·unfold En
     dsimp only
     rw [if_pos (by omega), if_pos (by omega), if_pos (by omega), if_pos (by omega)]
     have q1 := quot_of m1 (by omega) (by omega)
     have q2 := quot_of m2 (by omega) (by omega)
     exact en_both _ _ m1 m2 p1 p2 j q1.1 q2.1 (by omega) (by omega) j0 j2
theorem bo_set {x : List S33} {i : Nat} (a : S33) (h : i < x.length) (j : Nat) : bo (x.set i a) j = if i = j then a else bo x j := by
 by_cases e : i = j
 ·subst e
  rw [if_pos rfl, bo_get (by simpa using h), List.getElem_set_self]
 ·rw [if_neg e]
  by_cases hj : j < x.length
  ·rw [bo_get (by simpa using hj), bo_get hj, List.getElem_set_ne e]
  ·simp [bo, rd_T33, rdOf, List.getD_eq_getElem?_getD, List.getElem?_eq_none (Nat.le_of_not_lt hj), e]
theorem sum_set {f : S33 → Int} : ∀ (x : List S33) (i : Nat) (a : S33), ∀ h : i < x.length, ((x.set i a).map f).sum = (x.map f).sum - f x[i] + f a
 | [], i, a, h => absurd h (Nat.not_lt_zero _)
 | y :: x, 0, a, h => by simp; omega
 | y :: x, i + 1, a, h => by
  have := sum_set (f := f) x i a (by simpa using h)
  simp only [List.set_cons_succ, List.map_cons, List.sum_cons, List.getElem_cons_succ]
  omega
def sumP (x : List S33) : Int := (x.map fun b => b.f1).sum
def sumE (x : List S33) : Int := (x.map En).sum
def Movable (l : List S33) : Prop := ∀ i, i < l.length → (bo l i).f2 ≠ 0
def Still (l x : List S33) : Prop := ∀ i, (bo x i).f0 = (bo l i).f0 ∧ (bo x i).f2 = (bo l i).f2 ∧ (bo x i).f3 = (bo l i).f3
structure Line (l x : List S33) : Prop where
 len : x.length = l.length
 bods : Bods x
 still : Still l x
 push : Movable l → sumP x = sumP l
 en : sumE x ≤ sumE l
def Pushed (l : List S33) (r : List S33 × Bool) : Prop := r = ([], false) ∨ ∃ x, r = (x, true) ∧ Line l x
theorem line_step {l x : List S33} (h : Line l x) {i : Nat} (hi : i + 1 < x.length) {a' b' : S33} (ha : After (bo x i) (bo x (i + 1)) a' b') (g1 : Bod a') (g2 : Bod b') : Line l ((x.set i a').set (i + 1) b') := by
 have hi0 : i < x.length := Nat.lt_of_succ_lt hi
 have hi1 : i + 1 < (x.set i a').length := by simpa using hi
 have key : ∀ j, bo ((x.set i a').set (i + 1) b') j = if i + 1 = j then b' else if i = j then a' else bo x j := fun j => by rw [bo_set b' hi1 j, bo_set a' hi0 j]
 have hsum : ∀ f : S33 → Int, (((x.set i a').set (i + 1) b').map f).sum = (x.map f).sum - f (bo x i) + f a' - f (bo x (i + 1)) + f b' := by
  intro f
  rw [sum_set _ _ _ hi1, sum_set _ _ _ hi0, bo_get hi0, bo_get hi, List.getElem_set_ne (by omega)]
 refine ⟨by simpa using h.len, fun j hj => ?_, fun j => ?_, fun hm => ?_, ?_⟩
 ·rw [key]
  split
  ·exact g2
  ·split
   ·exact g1
   ·exact h.bods j (by simpa using hj)
 ·rw [key]
  have s1 := h.still
  split
  ·rename_i e; subst e
   exact ⟨ha.b0.trans (s1 _).1, ha.b2.trans (s1 _).2.1, ha.b3.trans (s1 _).2.2⟩
  ·split
   ·rename_i e; subst e
    exact ⟨ha.a0.trans (s1 _).1, ha.a2.trans (s1 _).2.1, ha.a3.trans (s1 _).2.2⟩
   ·exact s1 j
 ·have p1 : 0 < (bo x i).f2 := by
   have := hm i (by rw [← h.len]; exact hi0)
   have e := (h.still i).2.1
   have g := (h.bods i hi0).2.2.1.1
   rw [e] at g ⊢
   omega
  have p2 : 0 < (bo x (i + 1)).f2 := by
   have := hm (i + 1) (by rw [← h.len]; exact hi)
   have e := (h.still (i + 1)).2.1
   have g := (h.bods (i + 1) hi).2.2.1.1
   rw [e] at g ⊢
   omega
  have := ha.push p1 p2
  have hp := h.push hm
  unfold sumP at hp ⊢
  rw [hsum]
  omega
 ·have := ha.en
  have he := h.en
  unfold sumE at he ⊢
  rw [hsum]
  omega
theorem push_inner (l : List S33) (e N : Int) (r m : Int) (hl : l.length ≤ 20) (e0 : 0 ≤ e) (e1 : e ≤ 100)
  (next : ∀ y, Line l y → ∃ q, Ev (fun k => impl_PushLine.l0 k e y N (wrap64 (r + 1))) q ∧ Ev (fun k => spec_l10Push.l0 k e (wrap64 (m - 1)) y) q ∧ Pushed l q) :
  ∀ (d i : Nat) (x : List S33), Line l x → x.length ≤ i + 1 + d → i ≤ 40 → ∃ q, Ev (fun k => impl_PushLine.l1 k e x ((i + 1 : Nat) : Int) N r) q ∧ Ev (fun k => spec_l10Push.l1 k e m x (i : Int)) q ∧ Pushed l q
 | d, i, x, hx, hd, hi40 => by
  have hlen := hx.len
  have ei : wrap64 ((i : Int) + 1) = ((i + 1 : Nat) : Int) := w64s i (by omega)
  by_cases hi : i + 1 < x.length
  ·cases d with
   | zero => omega
   | succ d =>
    obtain ⟨a', b', h1, h2, ha⟩ := push_pair (bo x i) (bo x (i + 1)) e (hx.bods i (by omega)) (hx.bods (i + 1) hi) e0 e1
    have hi0 : i < x.length := by omega
    have hi1 : i + 1 < (x.set i a').length := by simpa using hi
    have y0 : bo ((x.set i a').set (i + 1) b') i = a' := by rw [bo_set b' hi1, if_neg (by omega), bo_set a' hi0, if_pos rfl]
    have y1 : bo ((x.set i a').set (i + 1) b') (i + 1) = b' := by rw [bo_set b' hi1, if_pos rfl]
    have t0 : ((i : Int)).toNat = i := rfl
    have t1 : ((i + 1 : Nat) : Int).toNat = i + 1 := rfl
    have eu : wrap64 (((i + 1 : Nat) : Int) + 1) = ((i + 1 + 1 : Nat) : Int) := w64s (i + 1) (by omega)
    by_cases g1 : Bod a'
    ·by_cases g2 : Bod b'
     ·obtain ⟨q, q1, q2, q3⟩ := push_inner l e N r m hl e0 e1 next d (i + 1) _ (line_step hx hi ha g1 g2) (by simp; omega) (by omega)
      refine ⟨q, st_impl_PushLine_l1 (ev_pos (by omega) ?_), st_spec_l10Push_l1 (ev_pos (by rw [ei]; omega) (ev_pos (by omega) (ev_pos (by omega) ?_))), q3⟩
      ·rw [wp1 i (by omega)]
       refine ev_pos (by omega) (ev_pos (by omega) (ev_pos (by omega) (Ev.bind h1 (ev_bindc rfl ?_))))
       rw [t0, t1]
       have b1 := body_impl a'
       have b2 := body_impl b'
       rw [← y0] at b1
       rw [← y1] at b2
       refine ev_bindc b1 (ev_pos (by rw [y0]; exact decide_eq_true g1) (ev_bindc b2 (ev_pos (by rw [y1]; exact decide_eq_true g2) ?_)))
       rw [eu]
       exact q1
      ·rw [ei]
       refine ev_pos (by omega) (Ev.bind h2 ?_)
       refine ev_bindc (body_spec a') (ev_pos (decide_eq_true g1) (ev_bindc (body_spec b') (ev_pos (decide_eq_true g2) ?_)))
       exact q2
     ·refine ⟨([], false), st_impl_PushLine_l1 (ev_pos (by omega) ?_), st_spec_l10Push_l1 (ev_pos (by rw [ei]; omega) (ev_pos (by omega) (ev_pos (by omega) ?_))), .inl rfl⟩
      ·rw [wp1 i (by omega)]
       refine ev_pos (by omega) (ev_pos (by omega) (ev_pos (by omega) (Ev.bind h1 (ev_bindc rfl ?_))))
       rw [t0, t1]
       have b1 := body_impl a'
       have b2 := body_impl b'
       rw [← y0] at b1
       rw [← y1] at b2
       exact ev_bindc b1 (ev_pos (by rw [y0]; exact decide_eq_true g1) (ev_bindc b2 (ev_neg (by rw [y1]; exact fun h => g2 (of_decide_eq_true h)) (ev_some rfl))))
      ·rw [ei]
       refine ev_pos (by omega) (Ev.bind h2 ?_)
       exact ev_bindc (body_spec a') (ev_pos (decide_eq_true g1) (ev_bindc (body_spec b') (ev_neg (fun h => g2 (of_decide_eq_true h)) (ev_some rfl))))
    ·refine ⟨([], false), st_impl_PushLine_l1 (ev_pos (by omega) ?_), st_spec_l10Push_l1 (ev_pos (by rw [ei]; omega) (ev_pos (by omega) (ev_pos (by omega) ?_))), .inl rfl⟩
     ·rw [wp1 i (by omega)]
      refine ev_pos (by omega) (ev_pos (by omega) (ev_pos (by omega) (Ev.bind h1 (ev_bindc rfl ?_))))
      rw [t0, t1]
      have b1 := body_impl a'
      rw [← y0] at b1
      exact ev_bindc b1 (ev_neg (by rw [y0]; exact fun h => g1 (of_decide_eq_true h)) (ev_some rfl))
     ·rw [ei]
      refine ev_pos (by omega) (Ev.bind h2 ?_)
      exact ev_bindc (body_spec a') (ev_neg (fun h => g1 (of_decide_eq_true h)) (ev_some rfl))
  ·obtain ⟨q, q1, q2, q3⟩ := next x hx
   exact ⟨q, st_impl_PushLine_l1 (ev_neg (by omega) q1), st_spec_l10Push_l1 (ev_neg (by rw [ei]; omega) q2), q3⟩
theorem push_outer (l : List S33) (e : Int) (N : Nat) (hN : N ≤ 50) (hl : l.length ≤ 20) (e0 : 0 ≤ e) (e1 : e ≤ 100) :
  ∀ (m r : Nat) (x : List S33), r + m = N → Line l x → ∃ q, Ev (fun k => impl_PushLine.l0 k e x (N : Int) (r : Int)) q ∧ Ev (fun k => spec_l10Push.l0 k e (m : Int) x) q ∧ Pushed l q
 | 0, r, x, h, hx => ⟨(x, true), st_impl_PushLine_l0 (ev_neg (by omega) (ev_some rfl)), st_spec_l10Push_l0 (ev_neg (by omega) (ev_some rfl)), .inr ⟨x, rfl, hx⟩⟩
 | m + 1, r, x, h, hx => by
  have e2 : wrap64 (((m + 1 : Nat) : Int) - 1) = (m : Int) := wp1 m (by omega)
  obtain ⟨q, q1, q2, q3⟩ := push_inner l e (N : Int) (r : Int) ((m + 1 : Nat) : Int) hl e0 e1 (fun y hy => by
   rw [w64s r (by omega), e2]
   exact push_outer l e N hN hl e0 e1 m (r + 1) y (by omega) hy) 20 0 x hx (by have := hx.len; omega) (by omega)
  exact ⟨q, st_impl_PushLine_l0 (ev_pos (by omega) q1), st_spec_l10Push_l0 (ev_pos (by omega) q2), q3⟩
theorem push_line (l : List S33) (hl : l.length ≤ 1048575) (e r : Int) : ∃ q, Ev (fun k => impl_PushLine.f k l e r) q ∧ Ev (fun k => spec_PushLine.f k l e r) q ∧ (q = ([], false) ∨ GoodL l ∧ 0 ≤ r ∧ r ≤ 50 ∧ ∃ x, q = (x, true) ∧ Line l x) := by
 obtain ⟨b, hB⟩ := bool_of (GoodL l)
 have h1 := good_impl l hl b hB
 have h2 := good_spec l b hB
 suffices h : ∃ q, Ev (fun k => impl_PushLine.f k l e r) q ∧ Ev (fun k => spec_l10Push.f k l e r) q ∧ (q = ([], false) ∨ GoodL l ∧ 0 ≤ r ∧ r ≤ 50 ∧ ∃ x, q = (x, true) ∧ Line l x) by
  obtain ⟨q, q1, q2, q3⟩ := h
  exact ⟨q, q1, Ev.bind q2 (ev_some rfl), q3⟩
 unfold impl_PushLine.f spec_l10Push.f
 have bad : ∃ q, Ev (fun k => impl_PushLine.j0 k l e r true) q ∧ Ev (fun k => spec_l10Push.j0 k l e r true) q ∧ (q = ([], false) ∨ GoodL l ∧ 0 ≤ r ∧ r ≤ 50 ∧ ∃ x, q = (x, true) ∧ Line l x) := ⟨([], false), st_impl_PushLine_j0 (ev_pos rfl (ev_some rfl)), st_spec_l10Push_j0 (ev_pos rfl (ev_some rfl)), .inl rfl⟩
 cases b with
 | false =>
  obtain ⟨q, q1, q2, q3⟩ := bad
  exact ⟨q, Ev.bind h1 (ev_neg (by decide) q1), Ev.bind h2 (ev_neg (by decide) q2), q3⟩
 | true =>
  have hg := hB.1 rfl
  have i1 : impl_isBounce.f e = some (decide (0 ≤ e ∧ e ≤ 100)) := by unfold impl_isBounce.f; rw [inr_some]; rfl
  have i2 : spec_l10Bounce.f e = some (decide (0 ≤ e ∧ e ≤ 100)) := by unfold spec_l10Bounce.f; rw [in_some]; rfl
  by_cases he : 0 ≤ e ∧ e ≤ 100
  ·by_cases hr : 0 ≤ r ∧ r ≤ 50
   ·obtain ⟨N, rfl⟩ : ∃ N : Nat, r = (N : Int) := ⟨r.toNat, by omega⟩
    obtain ⟨q, q1, q2, q3⟩ := push_outer l e N (by omega) hg.1 he.1 he.2 N 0 l (by omega) ⟨rfl, hg.2.1, fun i => ⟨rfl, rfl, rfl⟩, fun _ => rfl, Int.le_refl _⟩
    refine ⟨q, Ev.bind h1 (ev_pos rfl (ev_bindc i1 (ev_pos (decide_eq_true he) (ev_bindc (inr_some _ _ _) (st_impl_PushLine_j0 (ev_neg (by rw [decide_eq_true hr]; decide) (ev_bindc (show impl_Body_21.f l = some l by unfold impl_Body_21.f; rw [if_pos (by omega)]) q1))))))), Ev.bind h2 (ev_pos rfl (ev_bindc i2 (ev_pos (decide_eq_true he) (ev_bindc (in_some _ _ _) (st_spec_l10Push_j0 (ev_neg (by rw [decide_eq_true hr]; decide) (ev_bindc rfl (ev_pos (by simp; omega) q2)))))))), ?_⟩
    rcases q3 with q3 | ⟨x, q3, q4⟩
    ·exact .inl q3
    ·exact .inr ⟨hg, hr.1, hr.2, x, q3, q4⟩
   ·obtain ⟨q, q1, q2, q3⟩ := bad
    refine ⟨q, Ev.bind h1 (ev_pos rfl (ev_bindc i1 (ev_pos (decide_eq_true he) (ev_bindc (inr_some _ _ _) ?_)))), Ev.bind h2 (ev_pos rfl (ev_bindc i2 (ev_pos (decide_eq_true he) (ev_bindc (in_some _ _ _) ?_)))), q3⟩
    ·rw [decide_eq_false hr]; exact q1
    ·rw [decide_eq_false hr]; exact q2
  ·obtain ⟨q, q1, q2, q3⟩ := bad
   exact ⟨q, Ev.bind h1 (ev_pos rfl (ev_bindc i1 (ev_neg (fun h => he (of_decide_eq_true h)) q1))), Ev.bind h2 (ev_pos rfl (ev_bindc i2 (ev_neg (fun h => he (of_decide_eq_true h)) q2))), q3⟩
theorem common_ev : ∀ (n : Nat) (a b : Int), 0 ≤ a → 0 ≤ b → b ≤ n → (0 < a ∨ 0 < b) → ∃ g, Ev (fun k => impl_common.l0 k a b) g ∧ 0 < g ∧ g ∣ a ∧ g ∣ b
 | 0, a, b, ha, hb, hn, h => by
  obtain rfl : b = 0 := by omega
  exact ⟨a, st_impl_common_l0 (ev_pos rfl (ev_some rfl)), by omega, Int.dvd_refl a, Int.dvd_zero a⟩
 | n + 1, a, b, ha, hb, hn, h => by
  by_cases h0 : b = 0
  ·subst h0
   exact ⟨a, st_impl_common_l0 (ev_pos rfl (ev_some rfl)), by omega, Int.dvd_refl a, Int.dvd_zero a⟩
  ·have e : Int.tmod a b = a % b := Int.tmod_eq_emod_of_nonneg ha
   have l1 := Int.emod_nonneg a h0
   have l2 := Int.emod_lt_of_pos a (show 0 < b by omega)
   obtain ⟨g, g1, g2, g3, g4⟩ := common_ev n b (a % b) hb l1 (by omega) (.inl (by omega))
   refine ⟨g, st_impl_common_l0 (ev_neg h0 (by rw [e]; exact g1)), g2, ?_, g3⟩
   have := Int.dvd_add (Int.dvd_trans g3 (Int.dvd_mul_right b (a / b))) g4
   rwa [Int.mul_ediv_add_emod] at this
theorem common_f (a b : Int) (ha : 0 ≤ a) (hb : 0 < b) : ∃ g, Ev (fun k => impl_common.f k a b) g ∧ 0 < g ∧ g ∣ a ∧ g ∣ b := by
 unfold impl_common.f
 exact common_ev b.toNat a b ha (by omega) (by omega) (.inr hb)
theorem en_bd (b : S33) (h : Bod b) : 0 ≤ En b ∧ En b ≤ 27720000000000000 := by
 obtain ⟨_, h1, h2, _, _⟩ := h
 unfold En
 split
 ·have q := quot_of b.f2 (by omega) (by omega)
  have b1 := mul_bd b.f1 b.f1 1000000 1000000 (by omega) (by omega)
  have b0 : 0 ≤ b.f1 * b.f1 := by
   rcases Int.le_total 0 b.f1 with h | h
   ·exact Int.mul_nonneg h h
   ·exact Int.mul_nonneg_of_nonpos_of_nonpos h h
  have b2 := mul_bd (b.f1 * b.f1) (27720 / b.f2) 1000000000000 27720 (by omega) (by omega)
  exact ⟨Int.mul_nonneg b0 (by omega), by omega⟩
 ·omega
theorem sums_take (l : List S33) (f : S33 → Int) (i : Nat) (hi : i < l.length) : ((l.take (i + 1)).map f).sum = ((l.take i).map f).sum + f (bo l i) := by
 rw [List.take_succ_eq_append_getElem hi, List.map_append, List.sum_append, bo_get hi]
 simp
theorem wadd (s f i : Int) (hi : i ≤ 20) (p0 : -(1000000 * i) ≤ s) (p1 : s ≤ 1000000 * i) (h : -1000000 ≤ f ∧ f ≤ 1000000) : wrap64 (s + f) = s + f ∧ -(1000000 * (i + 1)) ≤ s + f ∧ s + f ≤ 1000000 * (i + 1) := ⟨w64 (by omega) (by omega), by omega, by omega⟩
theorem tadd (t n M md : Int) (hM : 27720000000000000 ≤ M) (h0 : 0 ≤ md) (t0 : 0 ≤ t) (h : t + (md + M) ≤ 600000000000000000) (hn : 0 ≤ n ∧ n ≤ 27720000000000000) : 0 ≤ t + n ∧ t + n + md ≤ 600000000000000000 ∧ wrap64 n = n ∧ wrap64 (t + n) = t + n := ⟨by omega, by omega, w64 (by omega) (by omega), w64 (by omega) (by omega)⟩
theorem book_loop (l : List S33) (hl : l.length ≤ 20) (hb : Bods l) (M : Int) (hM : 27720000000000000 ≤ M) : ∀ (d i : Nat) (s t : Int), i + d = l.length → sumP (l.take i) = s → sumE (l.take i) = t → -(1000000 * (i : Int)) ≤ s → s ≤ 1000000 * i → 0 ≤ t → t + M * d ≤ 600000000000000000 →
  ∃ g u : Int, sumE l = u ∧ Ev (fun k => impl_BookOf.l0 k l (l.length : Int) (i : Int) s t 55440) (sumP l, Int.tdiv u g, Int.tdiv 55440 g, true) ∧ 0 < g ∧ g ∣ u ∧ g ∣ 55440 ∧ 0 ≤ u ∧ u ≤ 600000000000000000
 | 0, i, s, t, hi, hs, ht, p0, p1, s0, s1 => by
  obtain rfl : i = l.length := by omega
  rw [List.take_length] at hs ht
  obtain ⟨g, g1, g2, g3, g4⟩ := common_f t 55440 s0 (by omega)
  have ed : ((s, wrap64 (Int.tdiv t g), wrap64 (Int.tdiv 55440 g), true) : Int × Int × Int × Bool) = (sumP l, Int.tdiv t g, Int.tdiv 55440 g, true) := by
   have d1 := div_bd t g s0 g2
   have d2 := div_bd 55440 g (by decide) g2
   rw [hs]
   clear g3 g4 g1 hb hs ht p0 p1
   generalize Int.tdiv t g = u at *
   generalize Int.tdiv 55440 g = v at *
   rw [w64 (by omega) (by omega), w64 (by omega) (by omega)]
  have hs2 : t ≤ 600000000000000000 := by clear g1 g3 g4 ed hs ht; simpa using s1
  exact ⟨g, t, ht, st_impl_BookOf_l0 (ev_neg (Int.lt_irrefl _) (Ev.bind g1 (ev_neg (Int.ne_of_gt g2) (ev_some ed)))), g2, g3, g4, s0, hs2⟩
 | d + 1, i, s, t, hi, hs, ht, p0, p1, s0, s1 => by
  have hlt : i < l.length := by omega
  have hB := hb i hlt
  have he := en_bd _ hB
  have eP : sumP (l.take (i + 1)) = s + (bo l i).f1 := by rw [← hs]; exact sums_take l (fun b => b.f1) i hlt
  have eE : sumE (l.take (i + 1)) = t + En (bo l i) := by rw [← ht]; exact sums_take l En i hlt
  obtain ⟨_, h1, h2, h3, _⟩ := hB
  obtain ⟨n, hn⟩ : ∃ n, En (bo l i) = n := ⟨_, rfl⟩
  rw [hn] at eE he
  have e0 : M * ((d + 1 : Nat) : Int) = M * (d : Int) + M := by rw [Int.natCast_add, Int.mul_add]; simp
  rw [e0] at s1
  have hM0 : 0 ≤ M * (d : Int) := Int.mul_nonneg (Int.le_trans (by decide) hM) (Int.natCast_nonneg d)
  have wa := wadd s (bo l i).f1 (i : Int) (by clear e0 s1 hM0 eP eE hs ht hn; omega) p0 p1 h1
  have ta := tadd t n M _ hM hM0 s0 s1 he
  have ec : (((i + 1 : Nat) : Int)) = (i : Int) + 1 := rfl
  obtain ⟨g, u, gu, g1, g2⟩ := book_loop l hl hb M hM d (i + 1) (s + (bo l i).f1) (t + n) (by clear e0 s1 hM0 eP eE hs ht hn wa ta; omega) eP eE (by rw [ec]; exact wa.2.1) (by rw [ec]; exact wa.2.2) ta.1 ta.2.1
  refine ⟨g, u, gu, st_impl_BookOf_l0 (ev_pos (by omega) (ev_pos (by omega) (ev_pos (by omega) ?_))), g2⟩
  clear eP eE hs ht gu g2 e0 s1 hM0
  have e1 : wrap64 ((i : Int) + 1) = ((i + 1 : Nat) : Int) := w64s i (by omega)
  have e2' : wrap64 (s + (rd_T33 l (i : Int)).f1) = s + (bo l i).f1 := wa.1
  by_cases hm : (bo l i).f2 > 0
  ·have q := quot_of (bo l i).f2 hm (by omega)
   have b1 := mul_bd (bo l i).f1 (bo l i).f1 1000000 1000000 (by omega) (by omega)
   have eEn : n = (bo l i).f1 * (bo l i).f1 * (27720 / (bo l i).f2) := by rw [← hn]; unfold En; rw [if_pos hm]
   clear hn
   have e3 : wrap64 (t + wrap64 (wrap64 ((bo l i).f1 * (bo l i).f1) * wrap64 (Int.tdiv (55440 : Int) (wrap64 (2 * (bo l i).f2))))) = t + n := by
    rw [w64 (n := 2 * (bo l i).f2) (by omega) (by omega), q.2.2.2, w64 (n := 27720 / (bo l i).f2) (by omega) (by omega), w64 (n := (bo l i).f1 * (bo l i).f1) (by omega) (by omega), ← eEn, ta.2.2.1]
    exact ta.2.2.2
   have e3' : wrap64 (t + wrap64 (wrap64 ((rd_T33 l (i : Int)).f1 * (rd_T33 l (i : Int)).f1) * wrap64 (Int.tdiv (55440 : Int) (wrap64 (2 * (rd_T33 l (i : Int)).f2))))) = t + n := e3
   refine ev_pos hm (ev_neg (fun h => ?_) ?_)
   ·have h' : wrap64 (2 * (bo l i).f2) = 0 := h
    rw [w64 (by omega) (by omega)] at h'
    omega
   ·rw [e1, e2', e3']
    exact g1
  ·refine ev_neg hm ?_
   have eEn : n = 0 := by rw [← hn]; unfold En; rw [if_neg hm]
   rw [e1, e2']
   rw [eEn, Int.add_zero] at g1
   exact g1
theorem book_ev (l : List S33) (h : GoodL l) : ∃ g u : Int, sumE l = u ∧ Ev (fun k => impl_BookOf.f k l) (sumP l, Int.tdiv u g, Int.tdiv 55440 g, true) ∧ 0 < g ∧ g ∣ u ∧ g ∣ 55440 ∧ 0 ≤ u ∧ u ≤ 600000000000000000 := by
 obtain ⟨g, u, gu, g1, g2⟩ := book_loop l h.1 h.2.1 27720000000000000 (Int.le_refl _) l.length 0 0 0 (by omega) (by simp [sumP]) (by simp [sumE]) (by omega) (by omega) (by omega) (by have := Int.mul_le_mul_of_nonneg_left (show (l.length : Int) ≤ 20 by have := h.1; omega) (show (0 : Int) ≤ 27720000000000000 by decide); omega)
 exact ⟨g, u, gu, Ev.bind (good_impl l (by have := h.1; omega) true ⟨fun _ => h, fun _ => rfl⟩) (ev_pos rfl g1), g2⟩
theorem book_back (s g : Int) (h0 : 0 ≤ s) (h1 : s ≤ 600000000000000000) (hg : 0 < g) (d1 : g ∣ s) (d2 : g ∣ 55440) : 1 ≤ Int.tdiv 55440 g ∧ wrap64 (Int.tdiv s g * wrap64 (Int.tdiv 55440 (Int.tdiv 55440 g))) = s := by
 obtain ⟨p, rfl⟩ := d1
 obtain ⟨q, hq⟩ := d2
 have e1 : Int.tdiv (g * p) g = p := by rw [Int.tdiv_eq_ediv_of_nonneg h0]; exact Int.mul_ediv_cancel_left p (by omega)
 have e2 : Int.tdiv 55440 g = q := by rw [hq, Int.tdiv_eq_ediv_of_nonneg (by omega)]; exact Int.mul_ediv_cancel_left q (by omega)
 have hq0 : 0 < q := by
  apply Classical.byContradiction
  intro h
  have : g * q ≤ 0 := Int.mul_nonpos_of_nonneg_of_nonpos (by omega) (by omega)
  omega
 have e3 : Int.tdiv 55440 q = g := by rw [hq, Int.tdiv_eq_ediv_of_nonneg (by omega)]; exact Int.mul_ediv_cancel g (by omega)
 have hg2 : g ≤ 55440 := by
  have := Int.mul_le_mul_of_nonneg_left (show 1 ≤ q by omega) (show 0 ≤ g by omega)
  omega
 rw [e1, e2, e3, w64 (n := g) (by omega) (by omega), Int.mul_comm p g, w64 (by omega) (by omega)]
 exact ⟨by omega, rfl⟩
theorem div_abs (X M : Int) (hM : 0 < M) (h : -1000000000 ≤ X ∧ X ≤ 1000000000) : -1000000000 ≤ Int.tdiv X M ∧ Int.tdiv X M ≤ 1000000000 := by
 rcases Int.le_total 0 X with h0 | h0
 ·have := div_bd X M h0 hM
  omega
 ·have h1 := div_bd (-X) M (by omega) hM
  rw [Int.neg_tdiv] at h1
  omega
structure Mv (l x : List S33) (B : Int) : Prop where
 len : x.length = l.length
 same : ∀ j, j < l.length → (bo x j).f1 = (bo l j).f1 ∧ (bo x j).f2 = (bo l j).f2 ∧ (bo x j).f3 = (bo l j).f3
 wall : ∀ j, j < l.length → (bo l j).f2 = 0 → (bo x j).f0 = (bo l j).f0
 bd : ∀ j, j < l.length → -B ≤ (bo x j).f0 ∧ (bo x j).f0 ≤ B
theorem mv_set {l x : List S33} {B C : Int} (h : Mv l x B) (hc : B ≤ C) {i : Nat} (hi : i < l.length) (hm : (bo l i).f2 ≠ 0) (n : Int) (hn : -C ≤ n ∧ n ≤ C) : Mv l (x.set i ⟨n, (bo l i).f1, (bo l i).f2, (bo l i).f3⟩) C := by
 have hi' : i < x.length := by rw [h.len]; exact hi
 refine ⟨by simpa using h.len, fun j hj => ?_, fun j hj h0 => ?_, fun j hj => ?_⟩
 ·rw [bo_set _ hi']
  split
  ·rename_i e; subst e; exact ⟨rfl, rfl, rfl⟩
  ·exact h.same j hj
 ·rw [bo_set _ hi']
  split
  ·rename_i e; subst e; exact absurd h0 hm
  ·exact h.wall j hj h0
 ·rw [bo_set _ hi']
  split
  ·exact hn
  ·have := h.bd j hj; omega
def Moved (l : List S33) (r : List S33 × Bool) : Prop := r = ([], false) ∨ ∃ x B, r = (x, true) ∧ GoodL x ∧ Mv l x B
theorem move_back (l : List S33) (hl : l.length ≤ 20) (hb : Bods l) : ∀ (i : Nat) (x : List S33) (B : Int), Mv l x B → i + 1 ≤ l.length → 0 ≤ B → B + 2000 * i ≤ 3000000000 →
  ∃ q, Ev (fun k => impl_MoveLine.l1 k x ((i : Int) - 1)) q ∧ Ev (fun k => spec_l10Move.l1 k x ((i : Int) - 1)) q ∧ Moved l q
 | 0, x, B, hx, hi, h0, hB => by
  obtain ⟨b, hB'⟩ := bool_of (GoodL x)
  have h1 := good_impl x (by rw [hx.len]; omega) b hB'
  have h2 := good_spec x b hB'
  cases b with
  | true => exact ⟨(x, true), st_impl_MoveLine_l1 (ev_neg (by omega) (Ev.bind h1 (ev_pos rfl (ev_some rfl)))), st_spec_l10Move_l1 (ev_neg (by omega) (Ev.bind h2 (ev_pos rfl (ev_some rfl)))), .inr ⟨x, B, rfl, hB'.1 rfl, hx⟩⟩
  | false => exact ⟨([], false), st_impl_MoveLine_l1 (ev_neg (by omega) (Ev.bind h1 (ev_neg (by decide) (ev_some rfl)))), st_spec_l10Move_l1 (ev_neg (by omega) (Ev.bind h2 (ev_neg (by decide) (ev_some rfl)))), .inl rfl⟩
 | i + 1, x, B, hx, hi, h0, hB => by
  have ei : ((i + 1 : Nat) : Int) - 1 = (i : Int) := by omega
  rw [ei]
  have hlen := hx.len
  have hi0 : i < x.length := by omega
  have e1 : wrap64 ((i : Int) + 1) = ((i + 1 : Nat) : Int) := w64s i (by omega)
  have e2 : wrap64 ((i : Int) - 1) = (i : Int) - 1 := w64 (by omega) (by omega)
  have s0 := hx.same i (by omega)
  have s1 := hx.same (i + 1) (by omega)
  have b0 := hx.bd i (by omega)
  have b1 := hx.bd (i + 1) (by omega)
  have g0 := (hb i (by omega)).2.2.2.2
  have g1 := (hb (i + 1) (by omega)).2.2.2.2
  have gm := (hb i (by omega)).2.2.1
  by_cases hm : (bo l i).f2 = 0
  ·obtain ⟨q, q1, q2, q3⟩ := move_back l hl hb i x B hx (by omega) h0 (by omega)
   have hm' : ¬ (rd_T33 x (i : Int)).f2 > 0 := fun h => by
    have h : (bo x i).f2 > 0 := h
    rw [s0.2.1, hm] at h
    exact absurd h (by decide)
   refine ⟨q, st_impl_MoveLine_l1 (ev_pos (by omega) (ev_pos (by omega) (ev_pos (by omega) (ev_neg hm' (by rw [e2]; exact q1))))), st_spec_l10Move_l1 (ev_pos (by omega) ?_), q3⟩
   rw [e1, e2]
   exact ev_pos (by omega) (ev_pos (by omega) (ev_pos (by omega) (ev_pos (by omega) (ev_neg hm' q2))))
  ·have hm' : (rd_T33 x (i : Int)).f2 > 0 := by
    have : (bo x i).f2 > 0 := by rw [s0.2.1]; omega
    exact this
   have w1 : wrap64 (wrap64 ((bo x (i + 1)).f0 - (bo x (i + 1)).f3) - (bo x i).f3) = (bo x (i + 1)).f0 - (bo l (i + 1)).f3 - (bo l i).f3 := by
    rw [s0.2.2, s1.2.2]
    rw [w64 (n := (bo x (i + 1)).f0 - (bo l (i + 1)).f3) (by omega) (by omega)]
    exact w64 (by omega) (by omega)
   obtain ⟨n, hn⟩ : ∃ n, (bo x (i + 1)).f0 - (bo l (i + 1)).f3 - (bo l i).f3 = n := ⟨_, rfl⟩
   rw [hn] at w1
   have w1' : wrap64 (wrap64 ((rd_T33 x ((i + 1 : Nat) : Int)).f0 - (rd_T33 x ((i + 1 : Nat) : Int)).f3) - (rd_T33 x (i : Int)).f3) = n := w1
   have eta : ∀ m, (⟨m, (rd_T33 x (i : Int)).f1, (rd_T33 x (i : Int)).f2, (rd_T33 x (i : Int)).f3⟩ : S33) = ⟨m, (bo l i).f1, (bo l i).f2, (bo l i).f3⟩ := fun m => by
    show (⟨m, (bo x i).f1, (bo x i).f2, (bo x i).f3⟩ : S33) = _
    rw [s0.1, s0.2.1, s0.2.2]
   have ti : ((i : Int)).toNat = i := rfl
   by_cases hlt : n < (bo x i).f0
   ·obtain ⟨q, q1, q2, q3⟩ := move_back l hl hb i _ (B + 2000) (mv_set hx (by omega) (show i < l.length by omega) hm n (by omega)) (by omega) (by omega) (by omega)
    have hmn : mn (rd_T33 x (i : Int)).f0 n = n := by unfold mn; exact if_pos hlt
    refine ⟨q, st_impl_MoveLine_l1 (ev_pos (by omega) (ev_pos (by omega) (ev_pos (by omega) (ev_pos hm' ?_)))), st_spec_l10Move_l1 (ev_pos (by omega) ?_), q3⟩
    ·rw [e1, e2, w1', hmn, eta, ti]
     exact ev_pos (by omega) (ev_pos (by omega) q1)
    ·rw [e1, e2, w1', eta, ti]
     exact ev_pos (by omega) (ev_pos (by omega) (ev_pos (by omega) (ev_pos (by omega) (ev_pos hm' (ev_pos hlt q2)))))
   ·obtain ⟨q, q1, q2, q3⟩ := move_back l hl hb i x B hx (by omega) h0 (by omega)
    have hmn : mn (rd_T33 x (i : Int)).f0 n = (rd_T33 x (i : Int)).f0 := by unfold mn; exact if_neg hlt
    refine ⟨q, st_impl_MoveLine_l1 (ev_pos (by omega) (ev_pos (by omega) (ev_pos (by omega) (ev_pos hm' ?_)))), st_spec_l10Move_l1 (ev_pos (by omega) ?_), q3⟩
    ·rw [e1, e2, w1', hmn, ti]
     have hself : x.set i (⟨(rd_T33 x (i : Int)).f0, (rd_T33 x (i : Int)).f1, (rd_T33 x (i : Int)).f2, (rd_T33 x (i : Int)).f3⟩ : S33) = x := by
      have : (⟨(rd_T33 x (i : Int)).f0, (rd_T33 x (i : Int)).f1, (rd_T33 x (i : Int)).f2, (rd_T33 x (i : Int)).f3⟩ : S33) = x[i] := bo_get hi0
      rw [this, List.set_getElem_self]
     rw [hself]
     exact ev_pos (by omega) (ev_pos (by omega) q1)
    ·rw [e1, e2, w1']
     exact ev_pos (by omega) (ev_pos (by omega) (ev_pos (by omega) (ev_pos (by omega) (ev_pos hm' (ev_neg hlt q2)))))
theorem move_on (l : List S33) (t : Int) (t0 : 0 ≤ t) (t1 : t ≤ 1000) (hl : l.length ≤ 20) (hb : Bods l) : ∀ (d i : Nat) (x : List S33) (B : Int), i + d = l.length → Mv l x B → (∀ j, i ≤ j → j < l.length → (bo x j).f0 = (bo l j).f0) → 2000000000 ≤ B → B + 2000 * d ≤ 2000100000 →
  ∃ q, Ev (fun k => impl_MoveLine.l0 k t x l (l.length : Int) (i : Int)) q ∧ Ev (fun k => spec_l10Move.l0 k t x (x.length : Int) (i : Int)) q ∧ Moved l q
 | 0, i, x, B, hi, hx, hj, h0, hB => by
  have hlen := hx.len
  by_cases hz : l.length = 0
  ·have hx0 : x = [] := List.eq_nil_of_length_eq_zero (by omega)
   have e : wrap64 ((x.length : Int) - 2) = -2 := by rw [w64 (by omega) (by omega)]; omega
   have hg : GoodL x := by subst hx0; exact ⟨by simp, fun i h => absurd h (Nat.not_lt_zero _), fun i h => absurd h (Nat.not_lt_zero _)⟩
   refine ⟨(x, true), st_impl_MoveLine_l0 (ev_neg (by omega) ?_), st_spec_l10Move_l0 (ev_neg (by omega) ?_), .inr ⟨x, B, rfl, hg, hx⟩⟩
   ·rw [e]
    exact st_impl_MoveLine_l1 (ev_neg (by omega) (Ev.bind (good_impl x (by omega) true ⟨fun _ => hg, fun _ => rfl⟩) (ev_pos rfl (ev_some rfl))))
   ·rw [e]
    exact st_spec_l10Move_l1 (ev_neg (by omega) (Ev.bind (good_spec x true ⟨fun _ => hg, fun _ => rfl⟩) (ev_pos rfl (ev_some rfl))))
  ·obtain ⟨q, q1, q2, q3⟩ := move_back l hl hb (l.length - 1) x B hx (by omega) (by omega) (by omega)
   have e : wrap64 ((x.length : Int) - 2) = ((l.length - 1 : Nat) : Int) - 1 := by rw [w64 (by omega) (by omega)]; omega
   refine ⟨q, st_impl_MoveLine_l0 (ev_neg (by omega) (by rw [e]; exact q1)), st_spec_l10Move_l0 (ev_neg (by omega) (by rw [e]; exact q2)), q3⟩
 | d + 1, i, x, B, hi, hx, hj, h0, hB => by
  have hlen := hx.len
  have hlt : i < l.length := by omega
  have hi0 : i < x.length := by omega
  have e1 : wrap64 ((i : Int) + 1) = ((i + 1 : Nat) : Int) := w64s i (by omega)
  have s0 := hx.same i hlt
  have f0 := hj i (Nat.le_refl i) hlt
  have g := hb i hlt
  have ti : ((i : Int)).toNat = i := rfl
  by_cases hm : (bo l i).f2 = 0
  ·obtain ⟨q, q1, q2, q3⟩ := move_on l t t0 t1 hl hb d (i + 1) x B (by omega) hx (fun j h1 h2 => hj j (by omega) h2) h0 (by omega)
   have hm' : ¬ (rd_T33 x (i : Int)).f2 > 0 := fun h => by
    have h : (bo x i).f2 > 0 := h
    rw [s0.2.1, hm] at h
    exact absurd h (by decide)
   refine ⟨q, st_impl_MoveLine_l0 (ev_pos (by omega) (ev_pos (by omega) (ev_pos (by omega) (ev_pos hm (by rw [e1]; exact q1))))), st_spec_l10Move_l0 (ev_pos (by omega) (ev_pos (by omega) (ev_pos (by omega) (ev_neg hm' (by rw [e1]; exact q2))))), q3⟩
  ·obtain ⟨gx, gp, gm, _, gr⟩ := g
   have hm' : (rd_T33 x (i : Int)).f2 > 0 := by
    have : (bo x i).f2 > 0 := by rw [s0.2.1]; omega
    exact this
   have hm2 : ¬ (rd_T33 x (i : Int)).f2 = 0 := fun h => by rw [h] at hm'; exact absurd hm' (by decide)
   have bp := mul_bd (bo l i).f1 t 1000000 1000 gp (by omega)
   have bq := div_abs ((bo l i).f1 * t) (bo l i).f2 (by omega) (by omega)
   obtain ⟨v, hv⟩ : ∃ v, (bo l i).f0 + Int.tdiv ((bo l i).f1 * t) (bo l i).f2 = v := ⟨_, rfl⟩
   have wv : wrap64 ((bo l i).f0 + wrap64 (Int.tdiv (wrap64 ((bo l i).f1 * t)) (bo l i).f2)) = v := by
    rw [w64 (n := (bo l i).f1 * t) (by omega) (by omega), w64 (n := Int.tdiv ((bo l i).f1 * t) (bo l i).f2) (by omega) (by omega), hv]
    exact w64 (by omega) (by omega)
   have iv : wrap64 ((rd_T33 x (i : Int)).f0 + wrap64 (Int.tdiv (wrap64 ((rd_T33 l (i : Int)).f1 * t)) (rd_T33 l (i : Int)).f2)) = v := by
    show wrap64 ((bo x i).f0 + wrap64 (Int.tdiv (wrap64 ((bo l i).f1 * t)) (bo l i).f2)) = v
    rw [f0]; exact wv
   have sv : wrap64 ((rd_T33 x (i : Int)).f0 + wrap64 (Int.tdiv (wrap64 ((rd_T33 x (i : Int)).f1 * t)) (rd_T33 x (i : Int)).f2)) = v := by
    show wrap64 ((bo x i).f0 + wrap64 (Int.tdiv (wrap64 ((bo x i).f1 * t)) (bo x i).f2)) = v
    rw [f0, s0.1, s0.2.1]; exact wv
   have eta : (⟨v, (rd_T33 x (i : Int)).f1, (rd_T33 x (i : Int)).f2, (rd_T33 x (i : Int)).f3⟩ : S33) = ⟨v, (bo l i).f1, (bo l i).f2, (bo l i).f3⟩ := by
    show (⟨v, (bo x i).f1, (bo x i).f2, (bo x i).f3⟩ : S33) = _
    rw [s0.1, s0.2.1, s0.2.2]
   have bv : -2000000000 ≤ v ∧ v ≤ 2000000000 := by omega
   by_cases hi1 : 0 < i
   ·have yi : bo (x.set i ⟨v, (bo l i).f1, (bo l i).f2, (bo l i).f3⟩) i = ⟨v, (bo l i).f1, (bo l i).f2, (bo l i).f3⟩ := by rw [bo_set _ hi0, if_pos rfl]
    have yp : bo (x.set i ⟨v, (bo l i).f1, (bo l i).f2, (bo l i).f3⟩) (i - 1) = bo x (i - 1) := by rw [bo_set _ hi0, if_neg (by omega)]
    have ep : wrap64 ((i : Int) - 1) = ((i - 1 : Nat) : Int) := by rw [w64 (by omega) (by omega)]; omega
    have sp := hx.same (i - 1) (by omega)
    have bb := hx.bd (i - 1) (by omega)
    have gp2 := (hb (i - 1) (by omega)).2.2.2.2
    obtain ⟨u, hu⟩ : ∃ u, (bo x (i - 1)).f0 + (bo l (i - 1)).f3 + (bo l i).f3 = u := ⟨_, rfl⟩
    have wu : wrap64 (wrap64 ((bo x (i - 1)).f0 + (bo x (i - 1)).f3) + (bo l i).f3) = u := by
     rw [sp.2.2, w64 (n := (bo x (i - 1)).f0 + (bo l (i - 1)).f3) (by omega) (by omega), hu]
     exact w64 (by omega) (by omega)
    have nxt : ∀ n, -(B + 2000) ≤ n ∧ n ≤ B + 2000 → ∃ q, Ev (fun k => impl_MoveLine.l0 k t (x.set i ⟨n, (bo l i).f1, (bo l i).f2, (bo l i).f3⟩) l (l.length : Int) ((i + 1 : Nat) : Int)) q ∧ Ev (fun k => spec_l10Move.l0 k t (x.set i ⟨n, (bo l i).f1, (bo l i).f2, (bo l i).f3⟩) (x.length : Int) ((i + 1 : Nat) : Int)) q ∧ Moved l q := by
     intro n hn
     have := move_on l t t0 t1 hl hb d (i + 1) (x.set i ⟨n, (bo l i).f1, (bo l i).f2, (bo l i).f3⟩) (B + 2000) (by omega) (mv_set hx (by omega) hlt hm n hn) (fun j h1 h2 => by rw [bo_set _ hi0, if_neg (by omega)]; exact hj j (by omega) h2) (by omega) (by omega)
     rw [List.length_set] at this
     exact this
    have iy : ∀ y, y = x.set i ⟨v, (bo l i).f1, (bo l i).f2, (bo l i).f3⟩ → y.set i (⟨mx (rd_T33 y (i : Int)).f0 (wrap64 (wrap64 ((rd_T33 y ((i - 1 : Nat) : Int)).f0 + (rd_T33 y ((i - 1 : Nat) : Int)).f3) + (rd_T33 l (i : Int)).f3)), (rd_T33 y (i : Int)).f1, (rd_T33 y (i : Int)).f2, (rd_T33 y (i : Int)).f3⟩ : S33) = x.set i ⟨mx v u, (bo l i).f1, (bo l i).f2, (bo l i).f3⟩ := by
     intro y hy
     show y.set i (⟨mx (bo y i).f0 (wrap64 (wrap64 ((bo y (i - 1)).f0 + (bo y (i - 1)).f3) + (bo l i).f3)), (bo y i).f1, (bo y i).f2, (bo y i).f3⟩ : S33) = _
     subst hy
     rw [yi, yp, wu, List.set_set]
    by_cases hlt2 : v < u
    ·obtain ⟨q, q1, q2, q3⟩ := nxt u (by omega)
     have hmx : mx v u = u := by unfold mx; rw [if_pos hlt2]
     refine ⟨q, st_impl_MoveLine_l0 (ev_pos (by omega) (ev_pos (by omega) (ev_pos (by omega) (ev_neg hm (ev_pos (by omega) (ev_bindc rfl (ev_pos (by omega) ?_))))))), st_spec_l10Move_l0 (ev_pos (by omega) (ev_pos (by omega) (ev_pos (by omega) (ev_pos hm' (ev_neg hm2 (ev_bindc rfl (ev_pos (by omega) ?_))))))), q3⟩
     ·rw [iv, eta, ti, ep, e1, iy _ rfl, hmx]
      exact ev_pos (by omega) (ev_pos (by omega) q1)
     ·rw [sv, eta, ti, ep, e1]
      have c : (rd_T33 (x.set i ⟨v, (bo l i).f1, (bo l i).f2, (bo l i).f3⟩) (i : Int)).f0 < wrap64 (wrap64 ((rd_T33 (x.set i ⟨v, (bo l i).f1, (bo l i).f2, (bo l i).f3⟩) ((i - 1 : Nat) : Int)).f0 + (rd_T33 (x.set i ⟨v, (bo l i).f1, (bo l i).f2, (bo l i).f3⟩) ((i - 1 : Nat) : Int)).f3) + (rd_T33 (x.set i ⟨v, (bo l i).f1, (bo l i).f2, (bo l i).f3⟩) (i : Int)).f3) := by
       show (bo (x.set i ⟨v, (bo l i).f1, (bo l i).f2, (bo l i).f3⟩) i).f0 < wrap64 (wrap64 ((bo (x.set i ⟨v, (bo l i).f1, (bo l i).f2, (bo l i).f3⟩) (i - 1)).f0 + (bo (x.set i ⟨v, (bo l i).f1, (bo l i).f2, (bo l i).f3⟩) (i - 1)).f3) + (bo (x.set i ⟨v, (bo l i).f1, (bo l i).f2, (bo l i).f3⟩) i).f3)
       rw [yi, yp, wu]
       exact hlt2
      refine ev_pos (by omega) (ev_pos (by omega) (ev_pos c ?_))
      have z : (x.set i ⟨v, (bo l i).f1, (bo l i).f2, (bo l i).f3⟩).set i (⟨wrap64 (wrap64 ((rd_T33 (x.set i ⟨v, (bo l i).f1, (bo l i).f2, (bo l i).f3⟩) ((i - 1 : Nat) : Int)).f0 + (rd_T33 (x.set i ⟨v, (bo l i).f1, (bo l i).f2, (bo l i).f3⟩) ((i - 1 : Nat) : Int)).f3) + (rd_T33 (x.set i ⟨v, (bo l i).f1, (bo l i).f2, (bo l i).f3⟩) (i : Int)).f3), (rd_T33 (x.set i ⟨v, (bo l i).f1, (bo l i).f2, (bo l i).f3⟩) (i : Int)).f1, (rd_T33 (x.set i ⟨v, (bo l i).f1, (bo l i).f2, (bo l i).f3⟩) (i : Int)).f2, (rd_T33 (x.set i ⟨v, (bo l i).f1, (bo l i).f2, (bo l i).f3⟩) (i : Int)).f3⟩ : S33) = x.set i ⟨u, (bo l i).f1, (bo l i).f2, (bo l i).f3⟩ := by
       show (x.set i ⟨v, (bo l i).f1, (bo l i).f2, (bo l i).f3⟩).set i (⟨wrap64 (wrap64 ((bo (x.set i ⟨v, (bo l i).f1, (bo l i).f2, (bo l i).f3⟩) (i - 1)).f0 + (bo (x.set i ⟨v, (bo l i).f1, (bo l i).f2, (bo l i).f3⟩) (i - 1)).f3) + (bo (x.set i ⟨v, (bo l i).f1, (bo l i).f2, (bo l i).f3⟩) i).f3), (bo (x.set i ⟨v, (bo l i).f1, (bo l i).f2, (bo l i).f3⟩) i).f1, (bo (x.set i ⟨v, (bo l i).f1, (bo l i).f2, (bo l i).f3⟩) i).f2, (bo (x.set i ⟨v, (bo l i).f1, (bo l i).f2, (bo l i).f3⟩) i).f3⟩ : S33) = _
       rw [yi, yp, wu, List.set_set]
      rw [z]
      exact q2
    ·obtain ⟨q, q1, q2, q3⟩ := nxt v (by omega)
     have hmx : mx v u = v := by unfold mx; rw [if_neg hlt2]
     refine ⟨q, st_impl_MoveLine_l0 (ev_pos (by omega) (ev_pos (by omega) (ev_pos (by omega) (ev_neg hm (ev_pos (by omega) (ev_bindc rfl (ev_pos (by omega) ?_))))))), st_spec_l10Move_l0 (ev_pos (by omega) (ev_pos (by omega) (ev_pos (by omega) (ev_pos hm' (ev_neg hm2 (ev_bindc rfl (ev_pos (by omega) ?_))))))), q3⟩
     ·rw [iv, eta, ti, ep, e1, iy _ rfl, hmx]
      exact ev_pos (by omega) (ev_pos (by omega) q1)
     ·rw [sv, eta, ti, ep, e1]
      have c : ¬ (rd_T33 (x.set i ⟨v, (bo l i).f1, (bo l i).f2, (bo l i).f3⟩) (i : Int)).f0 < wrap64 (wrap64 ((rd_T33 (x.set i ⟨v, (bo l i).f1, (bo l i).f2, (bo l i).f3⟩) ((i - 1 : Nat) : Int)).f0 + (rd_T33 (x.set i ⟨v, (bo l i).f1, (bo l i).f2, (bo l i).f3⟩) ((i - 1 : Nat) : Int)).f3) + (rd_T33 (x.set i ⟨v, (bo l i).f1, (bo l i).f2, (bo l i).f3⟩) (i : Int)).f3) := by
       show ¬ (bo (x.set i ⟨v, (bo l i).f1, (bo l i).f2, (bo l i).f3⟩) i).f0 < wrap64 (wrap64 ((bo (x.set i ⟨v, (bo l i).f1, (bo l i).f2, (bo l i).f3⟩) (i - 1)).f0 + (bo (x.set i ⟨v, (bo l i).f1, (bo l i).f2, (bo l i).f3⟩) (i - 1)).f3) + (bo (x.set i ⟨v, (bo l i).f1, (bo l i).f2, (bo l i).f3⟩) i).f3)
       rw [yi, yp, wu]
       exact hlt2
      exact ev_pos (by omega) (ev_pos (by omega) (ev_neg c q2))
   ·obtain ⟨q, q1, q2, q3⟩ := move_on l t t0 t1 hl hb d (i + 1) (x.set i ⟨v, (bo l i).f1, (bo l i).f2, (bo l i).f3⟩) B (by omega) (mv_set hx (Int.le_refl B) hlt hm v (by omega)) (fun j h1 h2 => by rw [bo_set _ hi0, if_neg (by omega)]; exact hj j (by omega) h2) h0 (by omega)
    rw [List.length_set] at q2
    refine ⟨q, st_impl_MoveLine_l0 (ev_pos (by omega) (ev_pos (by omega) (ev_pos (by omega) (ev_neg hm (ev_pos (by omega) (ev_bindc rfl (ev_neg (by omega) ?_))))))), st_spec_l10Move_l0 (ev_pos (by omega) (ev_pos (by omega) (ev_pos (by omega) (ev_pos hm' (ev_neg hm2 (ev_bindc rfl (ev_neg (by omega) ?_))))))), q3⟩
    ·rw [iv, eta, ti, e1]; exact q1
    ·rw [sv, eta, ti, e1]; exact q2
theorem move_line (l : List S33) (hl : l.length ≤ 1048575) (t : Int) : ∃ q, Ev (fun k => impl_MoveLine.f k l t) q ∧ Ev (fun k => spec_MoveLine.f k l t) q ∧ Moved l q := by
 obtain ⟨b, hB⟩ := bool_of (GoodL l)
 have h1 := good_impl l hl b hB
 have h2 := good_spec l b hB
 suffices h : ∃ q, Ev (fun k => impl_MoveLine.f k l t) q ∧ Ev (fun k => spec_l10Move.f k l t) q ∧ Moved l q by
  obtain ⟨q, q1, q2, q3⟩ := h
  exact ⟨q, q1, Ev.bind q2 (ev_some rfl), q3⟩
 unfold impl_MoveLine.f spec_l10Move.f
 have bad : ∃ q, Ev (fun k => impl_MoveLine.j0 k l t true) q ∧ Ev (fun k => spec_l10Move.j0 k l t true) q ∧ Moved l q := ⟨([], false), st_impl_MoveLine_j0 (ev_pos rfl (ev_some rfl)), st_spec_l10Move_j0 (ev_pos rfl (ev_some rfl)), .inl rfl⟩
 cases b with
 | false =>
  obtain ⟨q, q1, q2, q3⟩ := bad
  exact ⟨q, Ev.bind h1 (ev_neg (by decide) q1), Ev.bind h2 (ev_neg (by decide) q2), q3⟩
 | true =>
  have hg := hB.1 rfl
  by_cases ht : 0 ≤ t ∧ t ≤ 1000
  ·obtain ⟨q, q1, q2, q3⟩ := move_on l t ht.1 ht.2 hg.1 hg.2.1 l.length 0 l 2000000000 (by omega) ⟨rfl, fun _ _ => ⟨rfl, rfl, rfl⟩, fun _ _ _ => rfl, fun j hj => by have := (hg.2.1 j hj).1; omega⟩ (fun _ _ _ => rfl) (Int.le_refl _) (by have := hg.1; omega)
   refine ⟨q, Ev.bind h1 (ev_pos rfl (ev_bindc (inr_some _ _ _) (st_impl_MoveLine_j0 (ev_neg (by rw [decide_eq_true ht]; decide) (ev_bindc (show impl_Body_21.f l = some l by unfold impl_Body_21.f; rw [if_pos (by omega)]) q1))))), Ev.bind h2 (ev_pos rfl (ev_bindc (in_some _ _ _) (st_spec_l10Move_j0 (ev_neg (by rw [decide_eq_true ht]; decide) (ev_bindc rfl (ev_pos (by simp; omega) (ev_bindc rfl q2))))))), q3⟩
  ·obtain ⟨q, q1, q2, q3⟩ := bad
   refine ⟨q, Ev.bind h1 (ev_pos rfl (ev_bindc (inr_some _ _ _) ?_)), Ev.bind h2 (ev_pos rfl (ev_bindc (in_some _ _ _) ?_)), q3⟩
   ·rw [decide_eq_false ht]; exact q1
   ·rw [decide_eq_false ht]; exact q2
theorem line10_loop (code : List Int) (hc : ∀ y ∈ code, InU8 y) : ∀ (d : Nat) (l : List S33) (v at_ seed : Int), 0 ≤ at_ → at_ + 40 * d ≤ 1000000 → l.length + d ≤ 100 →
  ∃ m a s, Ev (fun k => spec_l1Cur_line10.l0 k l (d : Int) v code at_ seed) (m, a, s) ∧ m.length = l.length + d ∧ at_ ≤ a ∧ a ≤ at_ + 40 * d
 | 0, l, v, at_, seed, h0, h1, hl => ⟨l, at_, seed, st_spec_l1Cur_line10_l0 (ev_neg (by omega) (ev_some rfl)), by omega, by omega, by omega⟩
 | d + 1, l, v, at_, seed, h0, h1, hl => by
  have ed : wrap64 (((d + 1 : Nat) : Int) - 1) = (d : Int) := wp1 d (by omega)
  have app : ∀ (b : S33) (v' a s : Int), at_ ≤ a → a ≤ at_ + 40 → ∃ m a' s', Ev (fun k => spec_l1Cur_line10.l0 k (l ++ [b]) (wrap64 (((d + 1 : Nat) : Int) - 1)) v' code a s) (m, a', s') ∧ m.length = l.length + (d + 1) ∧ at_ ≤ a' ∧ a' ≤ at_ + 40 * ((d + 1 : Nat) : Int) := by
   intro b v' a s g0 g1
   obtain ⟨m, a', s', hm, e1, e2, e3⟩ := line10_loop code hc d (l ++ [b]) v' a s (by omega) (by omega) (by simp; omega)
   exact ⟨m, a', s', by rw [ed]; exact hm, by rw [e1]; simp; omega, by omega, by omega⟩
  have j3 : ∀ (v' a s x p m r : Int), at_ ≤ a → a ≤ at_ + 30 → ∃ q a' s', Ev (fun k => spec_l1Cur_line10.j3 k l ((d + 1 : Nat) : Int) v' code a s x p m r) (q, a', s') ∧ q.length = l.length + (d + 1) ∧ at_ ≤ a' ∧ a' ≤ at_ + 40 * ((d + 1 : Nat) : Int) := by
   intro v' a s x p m r g0 g1
   obtain ⟨n, a1, s1, hn, n0, n1⟩ := pick_any code hc a s 120 (by omega) (by omega) (by omega)
   by_cases z0 : n = 0
   ·obtain ⟨c, a2, s2, hcc, _, d0, d1⟩ := among_any code hc a1 s1 [1000000, -1000000, 1000001] (by omega) (by omega) (by simp) (by simp)
    obtain ⟨q, a', s', hq, hq2⟩ := app ⟨x, c, m, r⟩ v' a2 s2 (by omega) (by omega)
    exact ⟨q, a', s', st_spec_l1Cur_line10_j3 (ev_bindc hn (ev_pos z0 (ev_bindc hcc (ev_pos (by omega) hq)))), hq2⟩
   ·by_cases z1 : n = 1
    ·obtain ⟨c, a2, s2, hcc, _, d0, d1⟩ := among_any code hc a1 s1 [1000000000, 1000000001, 9223372036854775807] (by omega) (by omega) (by simp) (by simp)
     obtain ⟨q, a', s', hq, hq2⟩ := app ⟨c, p, m, r⟩ v' a2 s2 (by omega) (by omega)
     exact ⟨q, a', s', st_spec_l1Cur_line10_j3 (ev_bindc hn (ev_neg z0 (ev_pos z1 (ev_bindc hcc (ev_pos (by omega) hq))))), hq2⟩
    ·by_cases z2 : n = 2
     ·obtain ⟨c, a2, s2, hcc, _, d0, d1⟩ := among_any code hc a1 s1 [-1, 12, 13] (by omega) (by omega) (by simp) (by simp)
      obtain ⟨q, a', s', hq, hq2⟩ := app ⟨x, p, c, r⟩ v' a2 s2 (by omega) (by omega)
      exact ⟨q, a', s', st_spec_l1Cur_line10_j3 (ev_bindc hn (ev_neg z0 (ev_neg z1 (ev_pos z2 (ev_bindc hcc (ev_pos (by omega) hq)))))), hq2⟩
     ·by_cases z3 : n = 3
      ·obtain ⟨c, a2, s2, hcc, _, d0, d1⟩ := among_any code hc a1 s1 [0, 1000, 1001] (by omega) (by omega) (by simp) (by simp)
       obtain ⟨q, a', s', hq, hq2⟩ := app ⟨x, p, m, c⟩ v' a2 s2 (by omega) (by omega)
       exact ⟨q, a', s', st_spec_l1Cur_line10_j3 (ev_bindc hn (ev_neg z0 (ev_neg z1 (ev_neg z2 (ev_pos z3 (ev_bindc hcc (ev_pos (by omega) hq))))))), hq2⟩
      ·obtain ⟨q, a', s', hq, hq2⟩ := app ⟨x, p, m, r⟩ v' a1 s1 (by omega) (by omega)
       exact ⟨q, a', s', st_spec_l1Cur_line10_j3 (ev_bindc hn (ev_neg z0 (ev_neg z1 (ev_neg z2 (ev_neg z3 (ev_pos (by omega) hq)))))), hq2⟩
  have j2 : ∀ (a s x p m r : Int), at_ ≤ a → a ≤ at_ + 20 → ∃ q a' s', Ev (fun k => spec_l1Cur_line10.j2 k l ((d + 1 : Nat) : Int) v code a s x p m r) (q, a', s') ∧ q.length = l.length + (d + 1) ∧ at_ ≤ a' ∧ a' ≤ at_ + 40 * ((d + 1 : Nat) : Int) := by
   intro a s x p m r g0 g1
   obtain ⟨b, a1, s1, hb, n0, n1⟩ := one_any code hc a s 2 (by omega) (by omega) (by omega)
   cases b with
   | true =>
    obtain ⟨n, a2, s2, hn, n2, n3⟩ := pick_any code hc a1 s1 20 (by omega) (by omega) (by omega)
    obtain ⟨q, a', s', hq, hq2⟩ := j3 (wrap64 ((wrap64 ((wrap64 (v + r)) + r)) + n)) a2 s2 (wrap64 (v + r)) p m r (by omega) (by omega)
    exact ⟨q, a', s', st_spec_l1Cur_line10_j2 (ev_bindc hb (ev_pos rfl (ev_bindc hn hq))), hq2⟩
   | false =>
    obtain ⟨q, a', s', hq, hq2⟩ := j3 (wrap64 ((wrap64 (v + r)) + r)) a1 s1 (wrap64 (v + r)) p m r (by omega) (by omega)
    exact ⟨q, a', s', st_spec_l1Cur_line10_j2 (ev_bindc hb (ev_neg (by simp) hq)), hq2⟩
  obtain ⟨p1, a1, s1, q1, g1, g2⟩ := pick_any code hc at_ seed 9 (by omega) (by omega) (by omega)
  obtain ⟨p2, a2, s2, q2, g3, g4⟩ := pick_any code hc a1 s1 5 (by omega) (by omega) (by omega)
  obtain ⟨p3, a3, s3, q3, g5, g6⟩ := pick_any code hc a2 s2 2001 (by omega) (by omega) (by omega)
  obtain ⟨b, a4, s4, q4, g7, g8⟩ := one_any code hc a3 s3 6 (by omega) (by omega) (by omega)
  cases b with
  | true =>
   obtain ⟨q, a', s', hq, hq2⟩ := j2 a4 s4 0 0 0 (wrap64 (1 + p2)) (by omega) (by omega)
   exact ⟨q, a', s', st_spec_l1Cur_line10_l0 (ev_pos (by omega) (ev_bindc q1 (ev_bindc q2 (ev_bindc q3 (ev_bindc q4 (ev_pos rfl hq)))))), hq2⟩
  | false =>
   obtain ⟨q, a', s', hq, hq2⟩ := j2 a4 s4 0 (wrap64 (p3 - 1000)) (wrap64 (1 + p1)) (wrap64 (1 + p2)) (by omega) (by omega)
   exact ⟨q, a', s', st_spec_l1Cur_line10_l0 (ev_pos (by omega) (ev_bindc q1 (ev_bindc q2 (ev_bindc q3 (ev_bindc q4 (ev_neg (by simp) hq)))))), hq2⟩
theorem line10_any (code : List Int) (hc : ∀ y ∈ code, InU8 y) (at_ seed : Int) (h0 : 0 ≤ at_) (h1 : at_ ≤ 100000) : ∃ m a s, Ev (fun k => spec_l1Cur_line10.f k code at_ seed) (m, a, s) ∧ m.length ≤ 30 ∧ at_ ≤ a ∧ a ≤ at_ + 1500 := by
 obtain ⟨p1, a1, s1, q1, x0, x1, g1, g2⟩ := pick_some code hc at_ seed 6 (by omega) (by omega) (by omega) (by omega)
 obtain ⟨b, a2, s2, q2, g3, g4⟩ := one_any code hc a1 s1 20 (by omega) (by omega) (by omega)
 have j0 : ∀ (n : Nat) (a s : Int), n ≤ 30 → at_ ≤ a → a ≤ at_ + 20 → ∃ m a' s', Ev (fun k => spec_l1Cur_line10.j0 k ([] : List S33) (n : Int) code a s) (m, a', s') ∧ m.length ≤ 30 ∧ at_ ≤ a' ∧ a' ≤ at_ + 1500 := by
  intro n a s hn g0 g1
  obtain ⟨p3, a3, s3, q3, g5, g6⟩ := pick_any code hc a s 200 (by omega) (by omega) (by omega)
  obtain ⟨m, a', s', hm, e1, e2, e3⟩ := line10_loop code hc n [] (wrap64 (p3 - 100)) a3 s3 (by omega) (by omega) (by simp; omega)
  exact ⟨m, a', s', st_spec_l1Cur_line10_j0 (ev_bindc q3 hm), by rw [e1]; simpa using hn, by omega, by omega⟩
 unfold spec_l1Cur_line10.f
 cases b with
 | true =>
  obtain ⟨p3, a3, s3, q3, y0, y1, g5, g6⟩ := pick_some code hc a2 s2 2 (by omega) (by omega) (by omega) (by omega)
  have e : wrap64 (20 + p3) = (((20 + p3).toNat : Nat) : Int) := by rw [w64 (by omega) (by omega)]; omega
  obtain ⟨m, a', s', hm, hq⟩ := j0 (20 + p3).toNat a3 s3 (by omega) (by omega) (by omega)
  exact ⟨m, a', s', ev_bindc q1 (ev_bindc q2 (ev_pos rfl (ev_bindc q3 (by dsimp only; rw [e]; exact hm)))), hq⟩
 | false =>
  obtain ⟨n, rfl⟩ : ∃ n : Nat, p1 = (n : Int) := ⟨p1.toNat, by omega⟩
  obtain ⟨m, a', s', hm, hq⟩ := j0 n a2 s2 (by omega) (by omega) (by omega)
  exact ⟨m, a', s', ev_bindc q1 (ev_bindc q2 (ev_neg (by simp) hm)), hq⟩
theorem bounce_any (code : List Int) (hc : ∀ y ∈ code, InU8 y) (at_ seed : Int) (h0 : 0 ≤ at_) (h1 : at_ ≤ 100000000) : ∃ v a s, spec_l1Cur_bounceOf.f code at_ seed = some (v, a, s) ∧ at_ ≤ a ∧ a ≤ at_ + 10 := by
 obtain ⟨b, a2, s2, q2, g3, g4⟩ := one_any code hc at_ seed 30 (by omega) (by omega) (by omega)
 unfold spec_l1Cur_bounceOf.f
 rw [q2]
 cases b with
 | true =>
  obtain ⟨c, d, w, hcc, _, d0, d1⟩ := among_any code hc a2 s2 [-1, 101] (by omega) (by omega) (by simp) (by simp)
  exact ⟨c, d, w, by simp only [Option.bind_some]; rw [if_pos trivial, hcc]; rfl, by omega, by omega⟩
 | false =>
  obtain ⟨c, d, w, hcc, _, d0, d1⟩ := among_any code hc a2 s2 [0, 100, 50, 30, 99] (by omega) (by omega) (by simp) (by simp)
  exact ⟨c, d, w, by simp only [Option.bind_some]; rw [if_neg (by decide), hcc]; rfl, by omega, by omega⟩
theorem span_any (code : List Int) (hc : ∀ y ∈ code, InU8 y) (at_ seed : Int) (h0 : 0 ≤ at_) (h1 : at_ ≤ 100000000) : ∃ v a s, spec_l1Cur_span10.f code at_ seed = some (v, a, s) ∧ at_ ≤ a ∧ a ≤ at_ + 10 := by
 obtain ⟨b, a2, s2, q2, g3, g4⟩ := one_any code hc at_ seed 30 (by omega) (by omega) (by omega)
 unfold spec_l1Cur_span10.f
 rw [q2]
 cases b with
 | true =>
  obtain ⟨c, d, w, hcc, _, d0, d1⟩ := among_any code hc a2 s2 [-1, 1000, 1001] (by omega) (by omega) (by simp) (by simp)
  exact ⟨c, d, w, by simp only [Option.bind_some]; rw [if_pos trivial, hcc]; rfl, by omega, by omega⟩
 | false =>
  obtain ⟨c, d, w, hcc, d0, d1⟩ := pick_any code hc a2 s2 12 (by omega) (by omega) (by omega)
  exact ⟨c, d, w, by simp only [Option.bind_some]; rw [if_neg (by decide), hcc]; rfl, by omega, by omega⟩
theorem draw_push (code : List Int) (hc : ∀ y ∈ code, InU8 y) : ∃ l e r, Ev (fun k => spec_DrawPushLine.f k code) (l, e, r) ∧ l.length ≤ 30 := by
 obtain ⟨l, a1, s1, q1, hl, g1, g2⟩ := line10_any code hc 0 0 (by omega) (by omega)
 obtain ⟨p2, a2, s2, q2, g3, g4⟩ := pick_any code hc a1 s1 8 (by omega) (by omega) (by omega)
 obtain ⟨b, a3, s3, q3, g5, g6⟩ := one_any code hc a2 s2 30 (by omega) (by omega) (by omega)
 unfold spec_DrawPushLine.f
 cases b with
 | true =>
  obtain ⟨c, d, w, hcc, _, d0, d1⟩ := among_any code hc a3 s3 [-1, 50, 51] (by omega) (by omega) (by simp) (by simp)
  obtain ⟨e, a4, s4, q4, _, _⟩ := bounce_any code hc d w (by omega) (by omega)
  exact ⟨l, e, c, Ev.bind q1 (ev_bindc q2 (ev_bindc q3 (ev_pos rfl (ev_bindc hcc (ev_bindc q4 (ev_some rfl)))))), hl⟩
 | false =>
  obtain ⟨e, a4, s4, q4, _, _⟩ := bounce_any code hc a3 s3 (by omega) (by omega)
  exact ⟨l, e, p2, Ev.bind q1 (ev_bindc q2 (ev_bindc q3 (ev_neg (by simp) (ev_bindc q4 (ev_some rfl))))), hl⟩
theorem draw_islands_loop (code : List Int) (hc : ∀ y ∈ code, InU8 y) : ∀ (d : Nat) (ls : List (List S33)) (at_ seed : Int), 0 ≤ at_ → at_ + 1500 * d ≤ 50000 → ls.length + d ≤ 10 → (∀ l ∈ ls, l.length ≤ 30) →
  ∃ m e r t, Ev (fun k => spec_DrawStepIslands.l0 k ls (d : Int) code at_ seed) (m, e, r, t) ∧ m.length ≤ 10 ∧ ∀ l ∈ m, l.length ≤ 30
 | 0, ls, at_, seed, h0, h1, hl, hy => by
  obtain ⟨e, a1, s1, q1, g1, g2⟩ := bounce_any code hc at_ seed (by omega) (by omega)
  obtain ⟨p2, a2, s2, q2, g3, g4⟩ := pick_any code hc a1 s1 5 (by omega) (by omega) (by omega)
  obtain ⟨t, a3, s3, q3, g5, g6⟩ := span_any code hc a2 s2 (by omega) (by omega)
  exact ⟨ls, e, p2, t, st_spec_DrawStepIslands_l0 (ev_neg (by omega) (ev_bindc q1 (ev_bindc q2 (ev_bindc q3 (ev_some rfl))))), by omega, hy⟩
 | d + 1, ls, at_, seed, h0, h1, hl, hy => by
  obtain ⟨l, a1, s1, q1, hl1, g1, g2⟩ := line10_any code hc at_ seed (by omega) (by omega)
  have ed : wrap64 (((d + 1 : Nat) : Int) - 1) = (d : Int) := wp1 d (by omega)
  obtain ⟨m, e, r, t, hm, hq⟩ := draw_islands_loop code hc d (ls ++ [l]) a1 s1 (by omega) (by omega) (by simp; omega) (fun y h => by
   rcases List.mem_append.1 h with h | h
   ·exact hy y h
   ·rw [List.mem_singleton.1 h]; exact hl1)
  exact ⟨m, e, r, t, st_spec_DrawStepIslands_l0 (ev_pos (by omega) (Ev.bind q1 (ev_pos (by omega) (by rw [ed]; exact hm)))), hq⟩
theorem draw_islands (code : List Int) (hc : ∀ y ∈ code, InU8 y) : ∃ m e r t, Ev (fun k => spec_DrawStepIslands.f k code) (m, e, r, t) ∧ m.length ≤ 10 ∧ ∀ l ∈ m, l.length ≤ 30 := by
 obtain ⟨p1, a1, s1, q1, x0, x1, g1, g2⟩ := pick_some code hc 0 0 4 (by omega) (by omega) (by omega) (by omega)
 obtain ⟨n, rfl⟩ : ∃ n : Nat, p1 = (n : Int) := ⟨p1.toNat, by omega⟩
 obtain ⟨m, e, r, t, hm, hq⟩ := draw_islands_loop code hc n [] a1 s1 (by omega) (by omega) (by simp; omega) (fun _ h => absurd h (by simp))
 exact ⟨m, e, r, t, ev_bindc q1 hm, hq⟩
theorem step_line (l : List S33) (hl : l.length ≤ 1048575) (e r t : Int) : ∃ q, Ev (fun k => impl_StepLine.f k l e r t) q ∧ q.1.length ≤ 1048575 := by
 obtain ⟨q, q1, _, q2⟩ := push_line l hl e r
 rcases q2 with rfl | ⟨hg, _, _, x, rfl, hx⟩
 ·exact ⟨([], false), Ev.bind q1 (ev_neg (by decide) (ev_some rfl)), by simp⟩
 ·obtain ⟨p, p1, _, p2⟩ := move_line x (by rw [hx.len]; exact hl) t
  refine ⟨p, Ev.bind q1 (ev_pos rfl (Ev.bind p1 (ev_some rfl))), ?_⟩
  rcases p2 with rfl | ⟨y, B, rfl, hy, _⟩
  ·simp
  ·have := hy.1; show y.length ≤ 1048575; omega
def li (l : List (List S33)) (i : Nat) : List S33 := rd_L3 l (i : Int)
theorem li_get {l : List (List S33)} {i : Nat} (h : i < l.length) : li l i = l[i] := rdOf_get h
def Stepped (m : List (List S33)) (e r t : Int) (i : Nat) (y : List S33) : Prop := Ev (fun k => impl_StepLine.f k (li m i) e r t) (y, true)
theorem islands_loop (m : List (List S33)) (e r t : Int) (hm : m.length ≤ 20) (hs : ∀ i, i < m.length → (li m i).length ≤ 30) : ∀ (d i : Nat) (x : List (List S33)), i + d = m.length → x.length = i → (∀ j, j < i → Stepped m e r t j (li x j)) →
  ∃ q, Ev (fun k => impl_StepIslands.l0 k e r t x m (m.length : Int) (i : Int)) q ∧ (q = ([], false) ∨ ∃ y, q = (y, true) ∧ y.length = m.length ∧ ∀ j, j < m.length → Stepped m e r t j (li y j))
 | 0, i, x, hi, hx, h => ⟨(x, true), st_impl_StepIslands_l0 (ev_neg (by omega) (ev_some rfl)), .inr ⟨x, rfl, by omega, fun j hj => h j (by omega)⟩⟩
 | d + 1, i, x, hi, hx, h => by
  obtain ⟨⟨y, b⟩, hq, hyl⟩ := step_line (li m i) (by have := hs i (by omega); omega) e r t
  cases b with
  | false => exact ⟨([], false), st_impl_StepIslands_l0 (ev_pos (by omega) (ev_pos (by omega) (ev_pos (by omega) (Ev.bind hq (ev_neg (by simp) (ev_some rfl)))))), .inl rfl⟩
  | true =>
   obtain ⟨q, q1, q2⟩ := islands_loop m e r t hm hs d (i + 1) (x ++ [y]) (by omega) (by simp [hx]) (fun j hj => by
    rcases Nat.lt_or_ge j i with hji | hji
    ·have := h j hji
     rw [li_get (show j < (x ++ [y]).length by simp; omega), List.getElem_append_left (by omega)]
     rwa [li_get (by omega)] at this
    ·obtain rfl : j = i := by omega
     rw [li_get (show j < (x ++ [y]).length by simp; omega), List.getElem_append_right (by omega)]
     simp only [hx, Nat.sub_self, List.getElem_cons_zero]
     exact hq)
   refine ⟨q, st_impl_StepIslands_l0 (ev_pos (by omega) (ev_pos (by omega) (ev_pos (by omega) (Ev.bind hq (ev_pos rfl (ev_pos (by omega) ?_)))))), q2⟩
   rw [w64s i (by omega)]
   exact q1
theorem law_islands (code : List Int) (hc : ∀ y ∈ code, InU8 y) : Ev (fun k => laws_FnPushed.j4 k code) true := by
 obtain ⟨m, e, r, t, hd, hm, hs⟩ := draw_islands code hc
 have hs' : ∀ i, i < m.length → (li m i).length ≤ 30 := fun i hi => by rw [li_get hi]; exact hs _ (List.getElem_mem hi)
 obtain ⟨q, q1, q2⟩ := islands_loop m e r t (by omega) hs' m.length 0 [] (by omega) rfl (fun j hj => absurd hj (Nat.not_lt_zero j))
 have q0 : Ev (fun k => impl_StepIslands.f k m e r t) q := by
  unfold impl_StepIslands.f
  exact ev_neg (by omega) q1
 rcases q2 with rfl | ⟨x, rfl, hx, hst⟩
 ·exact st_laws_FnPushed_j4 (Ev.bind hd (Ev.bind q0 (ev_neg (by decide) (ev_some rfl))))
 ·refine st_laws_FnPushed_j4 (Ev.bind hd (Ev.bind q0 (ev_pos rfl ?_)))
  refine ev_for1 m.length (fun k i (_ : Unit) => laws_FnPushed.l2 k e r t x m (m.length : Int) (i : Int)) (fun _ _ => True) true ?_ ?_ 0 () (Nat.zero_le _) trivial
  ·intro _ _
   exact st_laws_FnPushed_l2 (ev_neg (by omega) (ev_some rfl))
  ·intro i _ hi _
   refine .inr ⟨(), trivial, fun ans hans => st_laws_FnPushed_l2 (ev_pos (by omega) (ev_pos (by omega) (ev_pos (by omega) (Ev.bind (hst i hi) (ev_pos rfl (ev_pos (by omega) ?_))))))⟩
   have hne : (((li x i).length : Int) != ((rd_L3 x (i : Int)).length : Int)) = false := by
    show (((li x i).length : Int) != ((li x i).length : Int)) = false
    simp
   have hsz : (li x i).length ≤ 1048575 := by
    obtain ⟨q', hq', hl'⟩ := step_line (li m i) (by have := hs' i hi; omega) e r t
    have := ev_unique hq' (hst i hi)
    rw [this] at hl'
    exact hl'
   dsimp only
   rw [hne]
   refine st_laws_FnPushed_j6 (ev_neg (by decide) ?_)
   refine ev_for1 (li x i).length (fun k j (_ : Unit) => laws_FnPushed.l3 k e r t x (i : Int) (li x i) m (m.length : Int) (i : Int) ((li x i).length : Int) (j : Int)) (fun _ _ => True) ans ?_ ?_ 0 () (Nat.zero_le _) trivial
   ·intro _ _
    refine st_laws_FnPushed_l3 (ev_neg (by omega) ?_)
    rw [w64s i (by omega)]
    exact hans
   ·intro j _ hj _
    refine .inr ⟨(), trivial, fun a2 h2 => st_laws_FnPushed_l3 (ev_pos (by omega) (ev_pos (by omega) (ev_pos (by omega) (ev_pos (by omega) (ev_pos (by omega) (ev_pos (show (j : Int) < ((li x i).length : Int) by omega) (ev_neg ?_ ?_)))))))⟩
    ·show ¬ (!((rd_T33 (li x i) (j : Int)).f0 == (rd_T33 (li x i) (j : Int)).f0) || (!((rd_T33 (li x i) (j : Int)).f1 == (rd_T33 (li x i) (j : Int)).f1) || (!((rd_T33 (li x i) (j : Int)).f2 == (rd_T33 (li x i) (j : Int)).f2) || !((rd_T33 (li x i) (j : Int)).f3 == (rd_T33 (li x i) (j : Int)).f3)))) = true
     simp
    ·rw [w64s j (by omega)]
     exact h2
theorem law_moved (code : List Int) (hc : ∀ y ∈ code, InU8 y) (out x : List S33) (B : Int) (hg : GoodL x) (hx : Mv out x B) : Ev (fun k => laws_FnPushed.l1 k code out x x (x.length : Int) 0) true := by
 have h20 := hg.1
 have hlen := hx.len
 refine ev_for1 x.length (fun k i (_ : Unit) => laws_FnPushed.l1 k code out x x (x.length : Int) (i : Int)) (fun _ _ => True) true ?_ ?_ 0 () (Nat.zero_le _) trivial
 ·intro _ _
  exact st_laws_FnPushed_l1 (ev_neg (by omega) (law_islands code hc))
 ·intro i _ hi _
  refine .inr ⟨(), trivial, fun ans hans => st_laws_FnPushed_l1 (ev_pos (by omega) (ev_pos (by omega) (ev_pos (by omega) ?_)))⟩
  have fin : Ev (fun k => laws_FnPushed.j3 k code out x x (x.length : Int) (i : Int) false) ans := by
   refine st_laws_FnPushed_j3 (ev_neg (by decide) ?_)
   rw [w64s i (by omega)]
   exact hans
  have near : 0 < i → wrap64 ((i : Int) - 1) = ((i - 1 : Nat) : Int) ∧ decide (wrap64 ((rd_T33 x ((i - 1 : Nat) : Int)).f0 + (rd_T33 x ((i - 1 : Nat) : Int)).f3) > wrap64 ((rd_T33 x (i : Int)).f0 - (rd_T33 x (i : Int)).f3)) = false := by
   intro h0
   obtain ⟨j, rfl⟩ : ∃ j, i = j + 1 := ⟨i - 1, by omega⟩
   refine ⟨wp1 j (by omega), decide_eq_false fun h => ?_⟩
   exact (near_w (hg.2.1 j (by omega)) (hg.2.1 (j + 1) hi)).1 h (hg.2.2 j hi)
  have rest : Ev (fun k => if (i : Int) > 0 then (if 0 ≤ (wrap64 ((i : Int) - 1)) then (if (wrap64 ((i : Int) - 1)) < (x.length : Int) then (laws_FnPushed.j3 k code out x x (x.length : Int) (i : Int) (decide ((wrap64 (((rd_T33 x (wrap64 ((i : Int) - 1))).f0) + ((rd_T33 x (wrap64 ((i : Int) - 1))).f3))) > (wrap64 (((rd_T33 x (i : Int)).f0) - ((rd_T33 x (i : Int)).f3)))))) else (none)) else (none)) else (laws_FnPushed.j3 k code out x x (x.length : Int) (i : Int) false)) ans := by
   by_cases h0 : 0 < i
   ·obtain ⟨n1, n2⟩ := near h0
    rw [n1, n2]
    exact ev_pos (by omega) (ev_pos (by omega) (ev_pos (by omega) fin))
   ·exact ev_neg (by omega) fin
  by_cases hm : (bo x i).f2 = 0
  ·have e2 := (hx.same i (by omega)).2.1
   rw [hm] at e2
   have e0 := hx.wall i (by omega) e2.symm
   exact ev_pos hm (ev_pos (by omega) (ev_pos e0 rest))
  ·exact ev_neg hm rest
theorem walls_loop (code : List Int) (t : Int) (out l : List S33) (u0 u1 u2 v0 v1 v2 : Int) (hl : l.length ≤ 30) (hu : 1 ≤ u2) (hv : 1 ≤ v2) (hp : Movable l → u0 = v0)
  (next : Ev (fun k => laws_FnPushed.j1 k code t out false u0 u1 u2 v0 v1 v2) true) : ∀ (d i : Nat) (w : Bool), i + d = l.length → (w = false → ∀ j, j < i → (bo l j).f2 ≠ 0) → Ev (fun k => laws_FnPushed.l0 k code t out true true w l (l.length : Int) (i : Int) u0 u1 u2 v0 v1 v2) true
 | 0, i, w, hi, hw => by
  refine st_laws_FnPushed_l0 (ev_neg (by omega) (ev_pos rfl (ev_pos rfl (ev_neg (by omega) (ev_neg (by omega) ?_)))))
  cases w with
  | true => exact ev_pos rfl next
  | false =>
   have : u0 = v0 := hp fun j hj => hw rfl j (by omega)
   refine ev_neg (by decide) ?_
   rw [show (u0 != v0) = false by simp [this]]
   exact next
 | d + 1, i, w, hi, hw => by
  have e := w64s i (by omega)
  cases w with
  | true =>
   refine st_laws_FnPushed_l0 (ev_pos (by omega) (ev_pos (by omega) (ev_pos (by omega) (ev_pos rfl ?_))))
   rw [e]
   exact walls_loop code t out l u0 u1 u2 v0 v1 v2 hl hu hv hp next d (i + 1) true (by omega) (fun h => by cases h)
  | false =>
   refine st_laws_FnPushed_l0 (ev_pos (by omega) (ev_pos (by omega) (ev_pos (by omega) (ev_neg (by decide) ?_))))
   rw [e]
   refine walls_loop code t out l u0 u1 u2 v0 v1 v2 hl hu hv hp next d (i + 1) _ (by omega) (fun h j hj => ?_)
   rcases Nat.lt_or_ge j i with hji | hji
   ·exact hw rfl j hji
   ·obtain rfl : j = i := by omega
    have h : ((bo l j).f2 == 0) = false := h
    simpa using h
theorem line_good {l x : List S33} (hg : GoodL l) (hx : Line l x) : GoodL x := by
 refine ⟨by rw [hx.len]; exact hg.1, hx.bods, fun i hi => ?_⟩
 have h := hg.2.2 i (by rw [← hx.len]; exact hi)
 unfold Nx at h ⊢
 have s0 := hx.still i
 have s1 := hx.still (i + 1)
 rw [s0.1, s0.2.2, s1.1, s1.2.2]
 exact h
theorem FnPushed : ∀ (l0 : List (Int)) (l1 : List (Int)), (l0.length * 1 ≤ 140737488351232 ∧ ∀ y ∈ l0, InU8 y) → (l1.length * 1 ≤ 140737488351232 ∧ ∀ y ∈ l1, InU8 y) → ∃ k, laws_FnPushed.f k l0 l1 = some true := by
 intro code more hcode hmore
 refine Ev.rounds (g := fun k => laws_FnPushed.f k code more) ?_
 by_cases hlen : wrap64 ((code.length : Int) + (more.length : Int)) > 1048576
 ·exact ev_pos hlen (ev_some rfl)
 ·refine ev_neg hlen ?_
  obtain ⟨l, e, t, hd, hl⟩ := draw_push code hcode.2
  obtain ⟨q, q1, q2, q3⟩ := push_line l (by omega) e t
  have hisl := law_islands more hmore.2
  refine Ev.bind hd (Ev.bind q1 (Ev.bind q2 (ev_neg (by simp) ?_)))
  rcases q3 with rfl | ⟨hg, t0, t1, x, rfl, hx⟩
  ·exact ev_neg (by decide) hisl
  ·have hgx := line_good hg hx
   obtain ⟨g, u, eu, b1, g0, g1, g2, u0, u1⟩ := book_ev l hg
   obtain ⟨h, v, ev, b2, h0, h1, h2, v0, v1⟩ := book_ev x hgx
   obtain ⟨gd, gb⟩ := book_back u g u0 u1 g0 g1 g2
   obtain ⟨hd', hb⟩ := book_back v h v0 v1 h0 h1 h2
   have hen := hx.en
   rw [eu, ev] at hen
   refine ev_pos rfl (Ev.bind b1 (Ev.bind b2 ?_))
   refine walls_loop more t x l (sumP l) (Int.tdiv u g) (Int.tdiv 55440 g) (sumP x) (Int.tdiv v h) (Int.tdiv 55440 h) hl gd hd' (fun hm => (hx.push hm).symm) ?_ l.length 0 false (by omega) (fun _ j hj => absurd hj (Nat.not_lt_zero j))
   obtain ⟨p, p1, p2, p3⟩ := move_line x (by rw [hx.len]; omega) t
   refine st_laws_FnPushed_j1 (ev_neg (by decide) (ev_neg (by omega) (ev_neg (by omega) (ev_neg (by rw [gb, hb]; omega) (Ev.bind p1 (Ev.bind p2 (ev_neg (by simp) ?_)))))))
   rcases p3 with rfl | ⟨y, B, rfl, hy, hmv⟩
   ·exact st_laws_FnPushed_l1 (ev_neg (by decide) hisl)
   ·exact law_moved more hmore.2 x y B hy hmv
end Go.Proofs.Ytnacjhgpanedoab.Pure
