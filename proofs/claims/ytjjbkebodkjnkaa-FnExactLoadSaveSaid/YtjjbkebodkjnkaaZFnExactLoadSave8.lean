/- Texts of a row. -/
import Derived.Test.YtjjbkebodkjnkaaZFnExactLoadSave7
namespace Go.Proofs.Ytjjbkebodkjnkaa.Pure
open Go.RowKit Go.Proofs.Ytjjbkebodkjnkaa.PFnExactLoadSave Go.Proofs.Ytjjbkebodkjnkaa.OFnExactLoadSave Go.Proofs.YtjjbkebodkjnkaaW.PrintWords Go.Proofs.YtjjbkebodkjnkaaW.PrintLast Go.Proofs.YtjjbkebodkjnkaaW.PrintMore Go.Proofs.YtjjbkebodkjnkaaO
set_option linter.unusedVariables false
set_option linter.unusedSimpArgs false
theorem st_spec_GoodName_j0 {r : (Bool)} {x0 : ByteArray} {x16 : Bool} (h : Ev (fun k => if x16 = true then (some false) else (spec_GoodName.l0 k x0 0)) r) : Ev (fun k => spec_GoodName.j0 k x0 x16) r := Ev.step (fun k => by rw [spec_GoodName.j0]) h
theorem st_spec_GoodName_l0 {r : (Bool)} {x0 : ByteArray} {x3 : Int} (h : Ev (fun k => if x3 < (x0.size : Int) then (if 0 ≤ x3 then ((spec_l1Letter.f (bt x0 x3)).bind fun t106 => (if t106 = true then (spec_GoodName.l0 k x0 (wrap64 (x3 + 1))) else ((spec_l1Digit.f (bt x0 x3)).bind fun t107 => (if t107 = true then (spec_GoodName.l0 k x0 (wrap64 (x3 + 1))) else (some false))))) else (none)) else (some true)) r) : Ev (fun k => spec_GoodName.l0 k x0 x3) r := Ev.step (fun k => by rw [spec_GoodName.l0]) h
theorem st_impl_Change_changed_j0 {r : (Int × Bool)} {x1 : Int} {x6 : Bool} {x276000 : Int} {x276001 : Int} {x276002 : ByteArray} {x276003 : ByteArray} {x276004 : Int} (h : Ev (fun k => if x6 = true then ((impl_inRange.f (wrap64 (x1 + x276004)) (-1000000000000000) 1000000000000000).bind fun t277 => (some (wrap64 (x1 + x276004), t277))) else (if x276001 = 3 then (impl_Change_changed.j1 k x1 (x276004 == 0) x276000 x276001 x276002 x276003 x276004) else (impl_Change_changed.j1 k x1 false x276000 x276001 x276002 x276003 x276004))) r) : Ev (fun k => impl_Change_changed.j0 k x1 x6 x276000 x276001 x276002 x276003 x276004) r := Ev.step (fun k => by rw [impl_Change_changed.j0]) h
theorem st_impl_Change_changed_j1 {r : (Int × Bool)} {x1 : Int} {x18 : Bool} {x276000 : Int} {x276001 : Int} {x276002 : ByteArray} {x276003 : ByteArray} {x276004 : Int} (h : Ev (fun _ => if x18 = true then ((impl_inRange.f 0 (-1000000000000000) 1000000000000000).bind fun t278 => (some (0, t278))) else (if x276001 = 3 then ((impl_inRange.f x1 (-1000000000000000) 1000000000000000).bind fun t279 => (if t279 = true then ((impl_size.f x1).bind fun t280 => ((impl_size.f x276004).bind fun t281 => (if t281 = 0 then (none) else (if t280 ≤ (wrap64 (Int.tdiv (1000000000000000 : Int) t281)) then ((impl_inRange.f (wrap64 (x1 * x276004)) (-1000000000000000) 1000000000000000).bind fun t282 => (some (wrap64 (x1 * x276004), t282))) else (some (0, false)))))) else (some (0, false)))) else (some (0, false)))) r) : Ev (fun k => impl_Change_changed.j1 k x1 x18 x276000 x276001 x276002 x276003 x276004) r := Ev.step (fun k => by rw [impl_Change_changed.j1]) h
theorem st_impl_MigrateSave_j0 {r : ((List (S49)) × Bool)} {x0 : Int} {x1 : List (S49)} {x2 : List (S45)} {x24 : Bool} (h : Ev (fun k => if x24 = true then (some (([] : List (S49)), false)) else ((impl_Value_43.f x1).bind fun t317 => (impl_MigrateSave.l0 k x0 t317 x2 (x2.length : Int) 0))) r) : Ev (fun k => impl_MigrateSave.j0 k x0 x1 x2 x24) r := Ev.step (fun k => by rw [impl_MigrateSave.j0]) h
theorem st_impl_MigrateSave_l0 {r : ((List (S49)) × Bool)} {x0 : Int} {x8 : List (S49)} {x27 : List (S45)} {x28 : Int} {x29 : Int} (h : Ev (fun k => if x29 < x28 then (if 0 ≤ x29 then (if x29 < (x27.length : Int) then (if ((rd_T45 x27 x29).f0) < x0 then (impl_MigrateSave.l0 k x0 x8 x27 x28 (wrap64 (x29 + 1))) else ((impl_change.f k x8 ((rd_T45 x27 x29).f0) ((rd_T45 x27 x29).f1) ((rd_T45 x27 x29).f2) ((rd_T45 x27 x29).f3) ((rd_T45 x27 x29).f4)).bind fun bt322 => (if bt322.2 = true then (impl_MigrateSave.l0 k x0 bt322.1 x27 x28 (wrap64 (x29 + 1))) else (some (([] : List (S49)), false))))) else (none)) else (none)) else (some (x8, true))) r) : Ev (fun k => impl_MigrateSave.l0 k x0 x8 x27 x28 x29) r := Ev.step (fun k => by rw [impl_MigrateSave.l0]) h
theorem st_laws_markChangeS_l0 {r : (Int × (List (S45)))} {x0 : List (S45)} {x1 : Int} {x5 : Int} (h : Ev (fun k => if x5 < (x0.length : Int) then (if 0 ≤ x5 then ((some (x0.set (x5 : Int).toNat (⟨x1, (rd_T45 x0 x5).f1, (rd_T45 x0 x5).f2, (rd_T45 x0 x5).f3, (rd_T45 x0 x5).f4⟩ : S45) : List (S45))).bind fun y351 => ((some (y351.set (x5 : Int).toNat (⟨(rd_T45 y351 x5).f0, wrap64 (x1 + 1), (rd_T45 y351 x5).f2, (rd_T45 y351 x5).f3, (rd_T45 y351 x5).f4⟩ : S45) : List (S45))).bind fun y352 => ((laws_markText.f k (wrap64 ((wrap64 (x1 + 1)) + 1))).bind fun t353 => ((some (y352.set (x5 : Int).toNat (⟨(rd_T45 y352 x5).f0, (rd_T45 y352 x5).f1, t353, (rd_T45 y352 x5).f3, (rd_T45 y352 x5).f4⟩ : S45) : List (S45))).bind fun y354 => ((laws_markText.f k (wrap64 ((wrap64 ((wrap64 (x1 + 1)) + 1)) + 1))).bind fun t355 => ((some (y354.set (x5 : Int).toNat (⟨(rd_T45 y354 x5).f0, (rd_T45 y354 x5).f1, (rd_T45 y354 x5).f2, t355, (rd_T45 y354 x5).f4⟩ : S45) : List (S45))).bind fun y356 => (laws_markChangeS.l0 k (y356.set (x5 : Int).toNat (⟨(rd_T45 y356 x5).f0, (rd_T45 y356 x5).f1, (rd_T45 y356 x5).f2, (rd_T45 y356 x5).f3, wrap64 ((wrap64 ((wrap64 ((wrap64 (x1 + 1)) + 1)) + 1)) + 1)⟩ : S45)) (wrap64 ((wrap64 ((wrap64 ((wrap64 ((wrap64 (x1 + 1)) + 1)) + 1)) + 1)) + 1)) (wrap64 (x5 + 1))))))))) else (none)) else (some (x1, x0))) r) : Ev (fun k => laws_markChangeS.l0 k x0 x1 x5) r := Ev.step (fun k => by rw [laws_markChangeS.l0]) h
theorem st_laws_markValueS_l0 {r : (Int × (List (S49)))} {x0 : List (S49)} {x1 : Int} {x5 : Int} (h : Ev (fun k => if x5 < (x0.length : Int) then ((laws_markText.f k x1).bind fun t358 => (if 0 ≤ x5 then ((some (x0.set (x5 : Int).toNat (⟨t358, (rd_T49 x0 x5).f1, (rd_T49 x0 x5).f2⟩ : S49) : List (S49))).bind fun y359 => ((some (y359.set (x5 : Int).toNat (⟨(rd_T49 y359 x5).f0, wrap64 (x1 + 1), (rd_T49 y359 x5).f2⟩ : S49) : List (S49))).bind fun y360 => ((laws_markText.f k (wrap64 ((wrap64 (x1 + 1)) + 1))).bind fun t361 => (laws_markValueS.l0 k (y360.set (x5 : Int).toNat (⟨(rd_T49 y360 x5).f0, (rd_T49 y360 x5).f1, t361⟩ : S49)) (wrap64 ((wrap64 ((wrap64 (x1 + 1)) + 1)) + 1)) (wrap64 (x5 + 1)))))) else (none))) else (some (x1, x0))) r) : Ev (fun k => laws_markValueS.l0 k x0 x1 x5) r := Ev.step (fun k => by rw [laws_markValueS.l0]) h
theorem st_laws_heldValueS_l0 {r : (Int)} {x0 : List (S49)} {x1 : Int} {x5 : Int} (h : Ev (fun k => if x5 < (x0.length : Int) then (if 0 ≤ x5 then ((laws_markText.f k x1).bind fun t364 => (if ((rd_T49 x0 x5).f0).toList = t364.toList then (if ((rd_T49 x0 x5).f1) = (wrap64 (x1 + 1)) then ((laws_markText.f k (wrap64 ((wrap64 (x1 + 1)) + 1))).bind fun t367 => (if ((rd_T49 x0 x5).f2).toList = t367.toList then (laws_heldValueS.l0 k x0 (wrap64 ((wrap64 ((wrap64 (x1 + 1)) + 1)) + 1)) (wrap64 (x5 + 1))) else (some (-1)))) else (some (-1))) else (some (-1)))) else (none)) else (some x1)) r) : Ev (fun k => laws_heldValueS.l0 k x0 x1 x5) r := Ev.step (fun k => by rw [laws_heldValueS.l0]) h
theorem st_laws_FnExactLoadSave_j0 {r : (Bool)} {x0 : List Int} {x1 : List (S40)} {x6 : List (S49)} {x7 : Int} {x8 : List Int} {x9 : List (S45)} {x10 : List (S49)} {x11 : Int} {x51 : Bool} (h : Ev (fun k => if x51 = true then (some false) else ((laws_toByteS.f k x0).bind fun t390 => ((laws_eqByteS.f k x8 t390).bind fun t393 => (if t393 = true then ((laws_toChangeS.f k x1).bind fun t394 => ((laws_eqChangeS.f k x9 t394).bind fun t397 => (if t397 = true then ((laws_markByteS.f k x8 1).bind fun bt398 => ((laws_markChangeS.f k x9 bt398.1).bind fun bt400 => (if bt400.1 < 0 then (laws_FnExactLoadSave.j1 k x0 x1 x6 x7 x10 true) else ((laws_eqValueS.f k x10 x6).bind fun t402 => (if t402 = true then (laws_FnExactLoadSave.j1 k x0 x1 x6 x7 x10 (x11 != x7)) else (laws_FnExactLoadSave.j1 k x0 x1 x6 x7 x10 true)))))) else (some false)))) else (some false))))) r) : Ev (fun k => laws_FnExactLoadSave.j0 k x0 x1 x6 x7 x8 x9 x10 x11 x51) r := Ev.step (fun k => by rw [laws_FnExactLoadSave.j0]) h
theorem st_laws_FnExactLoadSave_j1 {r : (Bool)} {x0 : List Int} {x1 : List (S40)} {x6 : List (S49)} {x7 : Int} {x10 : List (S49)} {x80 : Bool} (h : Ev (fun k => if x80 = true then (some false) else ((laws_markValueS.f k x10 1).bind fun bt403 => ((laws_heldValueS.f k bt403.2 1).bind fun t405 => (if t405 < 0 then (some false) else (if t405 = bt403.1 then ((laws_toByteS.f k x0).bind fun t406 => ((laws_toChangeS.f k x1).bind fun t409 => ((impl_LoadSave.f k t406 t409).bind fun bt412 => ((laws_eqValueS.f k bt412.1 x6).bind fun t416 => (if t416 = true then (laws_FnExactLoadSave.j2 k bt403.2 bt403.1 (bt412.2 != x7)) else (laws_FnExactLoadSave.j2 k bt403.2 bt403.1 true)))))) else (some false)))))) r) : Ev (fun k => laws_FnExactLoadSave.j1 k x0 x1 x6 x7 x10 x80) r := Ev.step (fun k => by rw [laws_FnExactLoadSave.j1]) h
theorem st_laws_FnExactLoadSave_j2 {r : (Bool)} {x10 : List (S49)} {x13 : Int} {x108 : Bool} (h : Ev (fun k => if x108 = true then (some false) else ((laws_heldValueS.f k x10 1).bind fun t417 => (if t417 < 0 then (some false) else (if t417 = x13 then (some true) else (some false))))) r) : Ev (fun k => laws_FnExactLoadSave.j2 k x10 x13 x108) r := Ev.step (fun k => by rw [laws_FnExactLoadSave.j2]) h
theorem st_spec_GoodChanges_l0 {r : (Bool)} {x0 : List (S45)} {x8 : List (S45)} {x9 : Int} {x10 : Int} (h : Ev (fun k => if x10 < x9 then (if 0 ≤ x10 then (if x10 < (x8.length : Int) then ((spec_l1In.f ((rd_T45 x8 x10).f0) 1 2).bind fun t114 => (if t114 = true then (if x10 > 0 then (if 0 ≤ (wrap64 (x10 - 1)) then (if (wrap64 (x10 - 1)) < (x0.length : Int) then (if ((rd_T45 x0 (wrap64 (x10 - 1))).f0) > ((rd_T45 x8 x10).f0) then (spec_GoodChanges.j1 k x0 x8 x9 x10 true ((rd_T45 x8 x10).f0) ((rd_T45 x8 x10).f1) ((rd_T45 x8 x10).f2) ((rd_T45 x8 x10).f3) ((rd_T45 x8 x10).f4)) else ((spec_l1In.f ((rd_T45 x8 x10).f1) 1 5).bind fun t116 => (if t116 = true then ((spec_GoodName.f k ((rd_T45 x8 x10).f2)).bind fun t117 => (if t117 = true then ((spec_l1In.f ((rd_T45 x8 x10).f4) (-1000000) 1000000).bind fun t118 => (spec_GoodChanges.j1 k x0 x8 x9 x10 (!t118) ((rd_T45 x8 x10).f0) ((rd_T45 x8 x10).f1) ((rd_T45 x8 x10).f2) ((rd_T45 x8 x10).f3) ((rd_T45 x8 x10).f4))) else (spec_GoodChanges.j1 k x0 x8 x9 x10 true ((rd_T45 x8 x10).f0) ((rd_T45 x8 x10).f1) ((rd_T45 x8 x10).f2) ((rd_T45 x8 x10).f3) ((rd_T45 x8 x10).f4)))) else (spec_GoodChanges.j1 k x0 x8 x9 x10 true ((rd_T45 x8 x10).f0) ((rd_T45 x8 x10).f1) ((rd_T45 x8 x10).f2) ((rd_T45 x8 x10).f3) ((rd_T45 x8 x10).f4))))) else (none)) else (none)) else ((spec_l1In.f ((rd_T45 x8 x10).f1) 1 5).bind fun t119 => (if t119 = true then ((spec_GoodName.f k ((rd_T45 x8 x10).f2)).bind fun t120 => (if t120 = true then ((spec_l1In.f ((rd_T45 x8 x10).f4) (-1000000) 1000000).bind fun t121 => (spec_GoodChanges.j1 k x0 x8 x9 x10 (!t121) ((rd_T45 x8 x10).f0) ((rd_T45 x8 x10).f1) ((rd_T45 x8 x10).f2) ((rd_T45 x8 x10).f3) ((rd_T45 x8 x10).f4))) else (spec_GoodChanges.j1 k x0 x8 x9 x10 true ((rd_T45 x8 x10).f0) ((rd_T45 x8 x10).f1) ((rd_T45 x8 x10).f2) ((rd_T45 x8 x10).f3) ((rd_T45 x8 x10).f4)))) else (spec_GoodChanges.j1 k x0 x8 x9 x10 true ((rd_T45 x8 x10).f0) ((rd_T45 x8 x10).f1) ((rd_T45 x8 x10).f2) ((rd_T45 x8 x10).f3) ((rd_T45 x8 x10).f4))))) else (spec_GoodChanges.j1 k x0 x8 x9 x10 true ((rd_T45 x8 x10).f0) ((rd_T45 x8 x10).f1) ((rd_T45 x8 x10).f2) ((rd_T45 x8 x10).f3) ((rd_T45 x8 x10).f4)))) else (none)) else (none)) else (some true)) r) : Ev (fun k => spec_GoodChanges.l0 k x0 x8 x9 x10) r := Ev.step (fun k => by rw [spec_GoodChanges.l0]) h
theorem st_spec_GoodChanges_j1 {r : (Bool)} {x0 : List (S45)} {x8 : List (S45)} {x9 : Int} {x10 : Int} {x51 : Bool} {x114000 : Int} {x114001 : Int} {x114002 : ByteArray} {x114003 : ByteArray} {x114004 : Int} (h : Ev (fun k => if x51 = true then (some false) else (if x114001 = 1 then ((spec_GoodName.f k x114003).bind fun t122 => (if t122 = true then (spec_GoodChanges.j2 k x0 x8 x9 x10 false x114000 x114001 x114002 x114003 x114004) else (spec_GoodChanges.j2 k x0 x8 x9 x10 true x114000 x114001 x114002 x114003 x114004))) else (spec_GoodChanges.j2 k x0 x8 x9 x10 (x114003.toList != ([] : List UInt8)) x114000 x114001 x114002 x114003 x114004))) r) : Ev (fun k => spec_GoodChanges.j1 k x0 x8 x9 x10 x51 x114000 x114001 x114002 x114003 x114004) r := Ev.step (fun k => by rw [spec_GoodChanges.j1]) h
theorem st_spec_GoodChanges_j2 {r : (Bool)} {x0 : List (S45)} {x8 : List (S45)} {x9 : Int} {x10 : Int} {x70 : Bool} {x114000 : Int} {x114001 : Int} {x114002 : ByteArray} {x114003 : ByteArray} {x114004 : Int} (h : Ev (fun k => if x70 = true then (some false) else (if x114001 = 1 then (if x114004 = 0 then (spec_GoodChanges.l0 k x0 x8 x9 (wrap64 (x10 + 1))) else (some false)) else (if x114001 = 4 then (if x114004 = 0 then (spec_GoodChanges.l0 k x0 x8 x9 (wrap64 (x10 + 1))) else (some false)) else (spec_GoodChanges.l0 k x0 x8 x9 (wrap64 (x10 + 1)))))) r) : Ev (fun k => spec_GoodChanges.j2 k x0 x8 x9 x10 x70 x114000 x114001 x114002 x114003 x114004) r := Ev.step (fun k => by rw [spec_GoodChanges.j2]) h
theorem st_spec_l22At_l0 {r : (Int)} {x1 : ByteArray} {x7 : List (S49)} {x8 : Int} {x9 : Int} (h : Ev (fun k => if x9 < x8 then (if 0 ≤ x9 then (if x9 < (x7.length : Int) then (if ((rd_T49 x7 x9).f0).toList = x1.toList then (some x9) else (spec_l22At.l0 k x1 x7 x8 (wrap64 (x9 + 1)))) else (none)) else (none)) else (some (-1))) r) : Ev (fun k => spec_l22At.l0 k x1 x7 x8 x9) r := Ev.step (fun k => by rw [spec_l22At.l0]) h
theorem st_spec_l22Put_l0 {r : ((List (S49)))} {x0 : List (S49)} {x5 : Int} {x126000 : ByteArray} {x126001 : Int} {x126002 : ByteArray} (h : Ev (fun k => if x5 < (x0.length : Int) then (if 0 ≤ x5 then (if (Op.bytesLess (((rd_T49 x0 x5).f0).toList) x126000.toList) = true then (spec_l22Put.l0 k x0 (wrap64 (x5 + 1)) x126000 x126001 x126002) else (if x5 ≤ (x0.length : Int) then ((some (x0.take (x5 : Int).toNat : List (S49))).bind fun y127 => (if ([] : List (S49)).length + y127.length < 3518437208883 then ((some (([] : List (S49)) ++ y127 : List (S49))).bind fun y131 => (if y131.length < 3518437208883 then ((some (y131 ++ [(⟨x126000, x126001, x126002⟩ : S49)] : List (S49))).bind fun y134 => ((some (x0.drop (x5 : Int).toNat : List (S49))).bind fun y137 => (if y134.length + y137.length < 3518437208883 then (some (y134 ++ y137)) else (none)))) else (none))) else (none))) else (none))) else (none)) else (if 0 ≤ x5 then (if x5 ≤ (x0.length : Int) then ((some (x0.take (x5 : Int).toNat : List (S49))).bind fun y144 => (if ([] : List (S49)).length + y144.length < 3518437208883 then ((some (([] : List (S49)) ++ y144 : List (S49))).bind fun y148 => (if y148.length < 3518437208883 then ((some (y148 ++ [(⟨x126000, x126001, x126002⟩ : S49)] : List (S49))).bind fun y151 => ((some (x0.drop (x5 : Int).toNat : List (S49))).bind fun y154 => (if y151.length + y154.length < 3518437208883 then (some (y151 ++ y154)) else (none)))) else (none))) else (none))) else (none)) else (none))) r) : Ev (fun k => spec_l22Put.l0 k x0 x5 x126000 x126001 x126002) r := Ev.step (fun k => by rw [spec_l22Put.l0]) h
theorem st_spec_MigrateSave_j0 {r : ((List (S49)) × Bool)} {x0 : Int} {x1 : List (S49)} {x2 : List (S45)} {x27 : Bool} (h : Ev (fun k => if x27 = true then (some (([] : List (S49)), false)) else ((some (([] : List (S49)) : List (S49))).bind fun y187 => (if y187.length + x1.length < 3518437208883 then (spec_MigrateSave.l0 k x0 (y187 ++ x1) x2 (x2.length : Int) 0) else (none)))) r) : Ev (fun k => spec_MigrateSave.j0 k x0 x1 x2 x27) r := Ev.step (fun k => by rw [spec_MigrateSave.j0]) h
theorem st_spec_MigrateSave_l0 {r : ((List (S49)) × Bool)} {x0 : Int} {x8 : List (S49)} {x31 : List (S45)} {x32 : Int} {x33 : Int} (h : Ev (fun k => if x33 < x32 then (if 0 ≤ x33 then (if x33 < (x31.length : Int) then (if ((rd_T45 x31 x33).f0) < x0 then (spec_MigrateSave.l0 k x0 x8 x31 x32 (wrap64 (x33 + 1))) else ((spec_l22At.f k x8 ((rd_T45 x31 x33).f2)).bind fun t195 => (if ((rd_T45 x31 x33).f1) = 5 then (if t195 < 0 then ((spec_l22Put.f k x8 ((rd_T45 x31 x33).f2) ((rd_T45 x31 x33).f4) (⟨#[]⟩ : ByteArray)).bind fun t196 => (if (t196.length : Int) > 30 then (some (([] : List (S49)), false)) else (spec_MigrateSave.l0 k x0 t196 x31 x32 (wrap64 (x33 + 1))))) else (if (x8.length : Int) > 30 then (some (([] : List (S49)), false)) else (spec_MigrateSave.l0 k x0 x8 x31 x32 (wrap64 (x33 + 1))))) else (if t195 < 0 then (spec_MigrateSave.l0 k x0 x8 x31 x32 (wrap64 (x33 + 1))) else (if ((rd_T45 x31 x33).f1) = 1 then ((spec_l22At.f k x8 ((rd_T45 x31 x33).f3)).bind fun t199 => (if t199 ≥ 0 then (some (([] : List (S49)), false)) else (if 0 ≤ t195 then (if t195 < (x8.length : Int) then ((spec_l22Drop.f x8 t195).bind fun t202 => ((spec_l22Put.f k t202 ((rd_T45 x31 x33).f3) ((rd_T49 x8 t195).f1) ((rd_T49 x8 t195).f2)).bind fun t205 => (spec_MigrateSave.l0 k x0 t205 x31 x32 (wrap64 (x33 + 1))))) else (none)) else (none)))) else (if ((rd_T45 x31 x33).f1) = 4 then ((spec_l22Drop.f x8 t195).bind fun t208 => (spec_MigrateSave.l0 k x0 t208 x31 x32 (wrap64 (x33 + 1)))) else (if 0 ≤ t195 then (if t195 < (x8.length : Int) then ((spec_l22Turn.f ((rd_T45 x31 x33).f0) ((rd_T45 x31 x33).f1) ((rd_T45 x31 x33).f2) ((rd_T45 x31 x33).f3) ((rd_T45 x31 x33).f4) ((rd_T49 x8 t195).f1)).bind fun bt212 => (if bt212.2 = true then (spec_MigrateSave.l0 k x0 (x8.set (t195 : Int).toNat (⟨(rd_T49 x8 t195).f0, bt212.1, (rd_T49 x8 t195).f2⟩ : S49)) x31 x32 (wrap64 (x33 + 1))) else (some (([] : List (S49)), false)))) else (none)) else (none)))))))) else (none)) else (none)) else (some (x8, true))) r) : Ev (fun k => spec_MigrateSave.l0 k x0 x8 x31 x32 x33) r := Ev.step (fun k => by rw [spec_MigrateSave.l0]) h
theorem st_impl_GoodName_l0 {r : (Bool)} {x0 : ByteArray} {x5 : Int} {x6 : Int} (h : Ev (fun k => if x6 < x5 then (if 0 ≤ x6 then (if x6 < (x0.size : Int) then ((impl_isLetter.f (bt x0 x6)).bind fun t249 => (if t249 = true then (impl_GoodName.l0 k x0 x5 (wrap64 (x6 + 1))) else (if (bt x0 x6) = 95 then (impl_GoodName.l0 k x0 x5 (wrap64 (x6 + 1))) else (if x6 = 0 then (some false) else ((impl_isDigit.f (bt x0 x6)).bind fun t250 => (if t250 = true then (impl_GoodName.l0 k x0 x5 (wrap64 (x6 + 1))) else (some false))))))) else (none)) else (none)) else ((impl_inRange.f (x0.size : Int) 1 20).bind fun t248 => (some t248))) r) : Ev (fun k => impl_GoodName.l0 k x0 x5 x6) r := Ev.step (fun k => by rw [impl_GoodName.l0]) h
theorem st_impl_isChange_j0 {r : (Bool)} {x3 : Bool} {x257000 : Int} {x257001 : Int} {x257002 : ByteArray} {x257003 : ByteArray} {x257004 : Int} (h : Ev (fun k => if x257001 = 1 then ((impl_GoodName.f k x257003).bind fun t257 => (if t257 = true then (if x3 = true then (impl_isChange.j1 k false x257000 x257001 x257002 x257003 x257004) else (impl_isChange.j1 k (x257004 != 0) x257000 x257001 x257002 x257003 x257004)) else (impl_isChange.j1 k true x257000 x257001 x257002 x257003 x257004))) else (if x257003.toList = ([] : List UInt8) then (if x3 = true then (impl_isChange.j1 k false x257000 x257001 x257002 x257003 x257004) else (impl_isChange.j1 k (x257004 != 0) x257000 x257001 x257002 x257003 x257004)) else (impl_isChange.j1 k true x257000 x257001 x257002 x257003 x257004))) r) : Ev (fun k => impl_isChange.j0 k x3 x257000 x257001 x257002 x257003 x257004) r := Ev.step (fun k => by rw [impl_isChange.j0]) h
theorem st_impl_isChange_j1 {r : (Bool)} {x44 : Bool} {x257000 : Int} {x257001 : Int} {x257002 : ByteArray} {x257003 : ByteArray} {x257004 : Int} (h : Ev (fun k => if x44 = true then (some false) else ((impl_inRange.f x257000 1 2).bind fun t258 => (if t258 = true then ((impl_inRange.f x257001 1 5).bind fun t259 => (if t259 = true then ((impl_GoodName.f k x257002).bind fun t260 => (if t260 = true then ((impl_isFar.f x257004).bind fun t261 => (some t261)) else (some false))) else (some false))) else (some false)))) r) : Ev (fun k => impl_isChange.j1 k x44 x257000 x257001 x257002 x257003 x257004) r := Ev.step (fun k => by rw [impl_isChange.j1]) h
theorem inr_some (a b c : Int) : impl_inRange.f a b c = some (decide (b ≤ a ∧ a ≤ c)) := by
 unfold impl_inRange.f
 split <;> simp_all <;> omega
theorem in_some (a b c : Int) : spec_l1In.f a b c = some (decide (b ≤ a ∧ a ≤ c)) := by
 unfold spec_l1In.f
 split <;> simp_all <;> omega
def nameChar (c : Int) : Bool := decide (97 ≤ c ∧ c ≤ 122) || decide (65 ≤ c ∧ c ≤ 90) || decide (c = 95)
def digitChar (c : Int) : Bool := decide (48 ≤ c ∧ c ≤ 57)
def CharOk (s : ByteArray) (i : Nat) : Prop := nameChar (bt s (i : Int)) = true ∨ 0 < i ∧ digitChar (bt s (i : Int)) = true
def NameOk (s : ByteArray) : Prop := (1 ≤ s.size ∧ s.size ≤ 20) ∧ ∀ i, i < s.size → CharOk s i
theorem letter_spec (c : Int) : spec_l1Letter.f c = some (nameChar c) := by
 unfold spec_l1Letter.f nameChar
 repeat' split
 all_goals (congr 1; rw [Bool.eq_iff_iff]; simp; try omega)
theorem digit_spec (c : Int) : spec_l1Digit.f c = some (digitChar c) := by
 unfold spec_l1Digit.f digitChar
 repeat' split
 all_goals (congr 1; rw [Bool.eq_iff_iff]; simp; try omega)
theorem digit_impl (c : Int) : impl_isDigit.f c = some (digitChar c) := by
 unfold impl_isDigit.f digitChar
 repeat' split
 all_goals (congr 1; rw [Bool.eq_iff_iff]; simp; try omega)
theorem letter_impl (c : Int) : ∃ b, impl_isLetter.f c = some b ∧ (nameChar c = true ↔ b = true ∨ c = 95) := by
 unfold impl_isLetter.f nameChar
 repeat' split
 all_goals (refine ⟨_, rfl, ?_⟩; simp; try omega)
theorem name_impl (s : ByteArray) (hs : s.size ≤ 140737488351232) (b : Bool) (hb : b = true ↔ NameOk s) : Ev (fun k => impl_GoodName.f k s) b := by
 refine ev_all s.size (fun k i => impl_GoodName.l0 k s (s.size : Int) (i : Int)) (CharOk s) (decide (1 ≤ (s.size : Int) ∧ (s.size : Int) ≤ 20)) b ?_ ?_ ?_ ?_
 ·rw [hb]; unfold NameOk; simp; omega
 ·exact st_impl_GoodName_l0 (ev_neg (by omega) (ev_bindc (inr_some _ _ _) (ev_some rfl)))
 ·intro i hi _ ho r hr
  refine st_impl_GoodName_l0 (ev_pos (by omega) (ev_pos (by omega) (ev_pos (by omega) ?_)))
  obtain ⟨q, hq, hn⟩ := letter_impl (bt s (i : Int))
  rw [w64s i (by omega)]
  refine ev_bindc hq (ev_ite (fun _ => hr) fun h1 => ev_ite (fun _ => hr) fun h2 => ?_)
  rcases ho with ho | ⟨ho, hd⟩
  ·rcases hn.1 ho with h | h
   ·exact absurd h h1
   ·exact absurd h h2
  ·exact ev_neg (by omega) (ev_bindc (digit_impl _) (ev_pos hd hr))
 ·intro i hi _ ho
  refine st_impl_GoodName_l0 (ev_pos (by omega) (ev_pos (by omega) (ev_pos (by omega) ?_)))
  obtain ⟨q, hq, hn⟩ := letter_impl (bt s (i : Int))
  refine ev_bindc hq (ev_ite (fun h => absurd (.inl (hn.2 (.inl h))) ho) fun h1 => ev_ite (fun h => absurd (.inl (hn.2 (.inr h))) ho) fun h2 => ev_ite (fun _ => ev_some rfl) fun h3 => ?_)
  exact ev_bindc (digit_impl _) (ev_neg (fun h => ho (.inr ⟨by omega, h⟩)) (ev_some rfl))
theorem name_spec (s : ByteArray) (b : Bool) (hb : b = true ↔ NameOk s) : Ev (fun k => spec_GoodName.f k s) b := by
 have j0t : Ev (fun k => spec_GoodName.j0 k s true) false := st_spec_GoodName_j0 (ev_pos rfl (ev_some rfl))
 by_cases h1 : (s.size : Int) < 1
 ·rw [bool_false hb (fun h => by have := h.1; omega)]
  exact ev_pos h1 j0t
 ·by_cases h2 : (s.size : Int) > 20
  ·rw [bool_false hb (fun h => by have := h.1; omega)]
   exact ev_neg h1 (ev_pos h2 j0t)
  ·refine ev_neg h1 (ev_neg h2 (ev_pos (by omega) (ev_bindc (digit_spec _) ?_)))
   cases hd : digitChar (bt s 0) with
   | true =>
    rw [bool_false hb (fun h => by
     have h0 : CharOk s 0 := h.2 0 (by omega)
     rcases h0 with h0 | h0
     ·have h0 : nameChar (bt s 0) = true := h0
      generalize bt s 0 = c at hd h0
      simp [nameChar, digitChar] at hd h0; omega
     ·omega)]
    exact j0t
   | false =>
    refine st_spec_GoodName_j0 (ev_neg (by decide) ?_)
    refine ev_all s.size (fun k i => spec_GoodName.l0 k s (i : Int)) (CharOk s) true b ?_ ?_ ?_ ?_
    ·rw [hb]; unfold NameOk; constructor
     ·exact fun h => ⟨rfl, h.2⟩
     ·exact fun h => ⟨by omega, h.2⟩
    ·exact st_spec_GoodName_l0 (ev_neg (by omega) (ev_some rfl))
    ·intro i hi _ ho r hr
     refine st_spec_GoodName_l0 (ev_pos (by omega) (ev_pos (by omega) (ev_bindc (letter_spec _) (ev_ite (fun _ => by rw [w64s i (by omega)]; exact hr) fun hl => ev_bindc (digit_spec _) ?_))))
     rcases ho with ho | ⟨_, ho⟩
     ·exact absurd ho hl
     ·refine ev_pos ho ?_
      rw [w64s i (by omega)]; exact hr
    ·intro i hi _ ho
     refine st_spec_GoodName_l0 (ev_pos (by omega) (ev_pos (by omega) (ev_bindc (letter_spec _) (ev_neg (fun h => ho (.inl h)) (ev_bindc (digit_spec _) (ev_neg (fun h => ho ?_) (ev_some rfl)))))))
     rcases Nat.eq_zero_or_pos i with rfl | hp
     ·have h' : digitChar (bt s 0) = true := h
      rw [hd] at h'; cases h'
     ·exact .inr ⟨hp, h⟩
def Fit40 (x : S40) : Prop := (x.f2.size ≤ 1048576) ∧ (x.f3.size ≤ 1048576)
theorem szChange_some (a0 : Int) (a1 : Int) (a2 : ByteArray) (a3 : ByteArray) (a4 : Int) (ga0 : In64 a0) (ga1 : In64 a1) (ga2 : a2.size ≤ 140737488351232) (ga3 : a3.size ≤ 140737488351232) (ga4 : In64 a4) (left : Int) (h0 : 0 ≤ left) (h1 : left ≤ 1048576) : ∃ r, Ev (fun _ => laws_szChange.f a0 a1 a2 a3 a4 left) r ∧ (r < 0 ∨ 0 ≤ r ∧ r ≤ left ∧ (a2.size ≤ 1048576) ∧ (a3.size ≤ 1048576)) := by
 unfold laws_szChange.f
 have e0 : wrap64 (left - (a2.size : Int)) = left - (a2.size : Int) := w64 (by omega) (by omega)
 rw [e0]
 refine exev_ite (fun _ => exev_some (.inl (by omega))) fun c0 => ?_
 have e1 : wrap64 ((left - (a2.size : Int)) - (a3.size : Int)) = (left - (a2.size : Int)) - (a3.size : Int) := w64 (by omega) (by omega)
 rw [e1]
 refine exev_ite (fun _ => exev_some (.inl (by omega))) fun c1 => ?_
 exact exev_some (.inr ⟨by omega, by omega, (by omega), (by omega)⟩)
theorem szChangeS_some (xs : List S40) (g : xs.length * 56 ≤ 140737488351232 ∧ ∀ y ∈ xs, Ok40 y) (left : Int) (h0 : 0 ≤ left) (h1 : left ≤ 1048576) : ∃ r, Ev (fun k => laws_szChangeS.f k xs left) r ∧ (r < 0 ∨ 0 ≤ r ∧ r ≤ left ∧ (xs.length ≤ 1048576 ∧ ∀ y ∈ xs, Fit40 y)) := by
 have g1 := g.1
 unfold laws_szChangeS.f
 rw [w64 (n := left - (xs.length : Int)) (by omega) (by omega)]
 refine exev_ite (fun _ => exev_some (.inl (by omega))) fun hc => ?_
 have he : ∀ i : Nat, ∀ hi : i < xs.length, ∀ c : Int, 0 ≤ c → c ≤ left - (xs.length : Int) → ∃ r, Ev (fun k => laws_szChange.f ((rd_T40 xs (i : Int)).f0) ((rd_T40 xs (i : Int)).f1) ((rd_T40 xs (i : Int)).f2) ((rd_T40 xs (i : Int)).f3) ((rd_T40 xs (i : Int)).f4) c) r ∧ (r < 0 ∨ 0 ≤ r ∧ r ≤ c ∧ Fit40 xs[i]) := by
  intro i hi c h0 h1
  have e : rd_T40 xs (i : Int) = xs[i] := getD_get hi
  rw [e]
  have gx := g.2 _ (List.getElem_mem hi)
  obtain ⟨r, hr, hq⟩ := szChange_some _ _ _ _ _ (gx.1) (gx.2.1) (gx.2.2.1) (gx.2.2.2.1) (gx.2.2.2.2) c h0 (by omega)
  exact ⟨r, hr, hq⟩
 obtain ⟨r, hr, hq⟩ := ev_size laws_szChangeS.l0 (fun _ xs c i => laws_szChange.f ((rd_T40 xs i).f0) ((rd_T40 xs i).f1) ((rd_T40 xs i).f2) ((rd_T40 xs i).f3) ((rd_T40 xs i).f4) c) (fun y => Fit40 y) (fun _ _ _ _ => rfl) xs (by omega) (left - (xs.length : Int)) (by omega) he
 refine ⟨r, hr, ?_⟩
 rcases hq with hq | ⟨q0, q1, q2⟩
 ·exact .inl hq
 ·exact .inr ⟨q0, by omega, by omega, q2⟩
theorem toByteS_ev (xs : List Int) (h : xs.length ≤ 1048576) : Ev (fun k => laws_toByteS.f k xs) xs := by
 refine ev_pos (by omega) (ev_pos (by omega) ?_)
 have := ev_copy laws_toByteS.l0 (fun _ xs i => some (rd xs i)) id (fun _ _ _ _ => rfl) xs (by omega) (fun i hi => ev_some (rd_get hi)) (List.replicate (((xs.length : Int) : Int).toNat) 0) (by simp)
 rwa [List.map_id] at this
def cv40 (x : S40) : S45 := ⟨x.f0, x.f1, x.f2, x.f3, x.f4⟩
def Fit45 (x : S45) : Prop := (x.f2.size ≤ 1048576) ∧ (x.f3.size ≤ 1048576)
theorem fit_cv40 {x : S40} (h : Fit40 x) : Fit45 (cv40 x) := by
 obtain ⟨h0, h1⟩ := h
 exact ⟨h0, h1⟩
theorem toChangeS_ev (xs : List S40) (h : (xs.length ≤ 1048576 ∧ ∀ y ∈ xs, Fit40 y)) : Ev (fun k => laws_toChangeS.f k xs) (xs.map cv40) := by
 refine ev_pos (by omega) (ev_pos (by have := h.1; omega) ?_)
 refine ev_copy2 laws_toChangeS.l0 (fun k xs i => laws_toChange.f ((rd_T40 xs i).f0) ((rd_T40 xs i).f1) ((rd_T40 xs i).f2) ((rd_T40 xs i).f3) ((rd_T40 xs i).f4)) (fun t => (⟨t.1, t.2.1, t.2.2.1, t.2.2.2.1, t.2.2.2.2⟩ : S45)) cv40 (fun _ _ _ _ => rfl) xs (by have := h.1; omega) (fun i hi => ?_) _ (by simp)
 ·have e : rd_T40 xs (i : Int) = xs[i] := getD_get hi
  rw [e]
  exact ⟨_, ev_eq rfl, rfl⟩
def Fit49 (x : S49) : Prop := (x.f0.size ≤ 1048576) ∧ (x.f2.size ≤ 1048576)
theorem eqValue_self (a0 : ByteArray) (a1 : Int) (a2 : ByteArray) : laws_eqValue.f a0 a1 a2 a0 a1 a2 = some true := by
 simp [laws_eqValue.f]
theorem eqValueS_ev (xs : List S49) (h : (xs.length ≤ 1048576 ∧ ∀ y ∈ xs, Fit49 y)) : Ev (fun k => laws_eqValueS.f k xs xs) true := by
 refine ev_pos rfl (ev_alike_self laws_eqValueS.l0 (fun k xs ys i => laws_eqValue.f ((rd_T49 xs i).f0) ((rd_T49 xs i).f1) ((rd_T49 xs i).f2) ((rd_T49 ys i).f0) ((rd_T49 ys i).f1) ((rd_T49 ys i).f2)) (fun _ _ _ _ => rfl) xs (by have := h.1; omega) (fun i hi => ?_))
 ·exact ev_eq (eqValue_self _ _ _)
theorem eqByteS_ev (xs : List Int) (h : xs.length ≤ 1048576) : Ev (fun k => laws_eqByteS.f k xs xs) true := by
 refine ev_pos rfl ?_
 refine ev_for1 xs.length (fun k i (_ : Unit) => laws_eqByteS.l0 k xs xs (i : Int)) (fun _ _ => True) true ?_ ?_ 0 () (Nat.zero_le _) trivial
 ·intro _ _
  exact Ev.step (fun _ => rfl) (ev_neg (by omega) (ev_some rfl))
 ·intro i _ hi _
  refine .inr ⟨(), trivial, fun r hr => Ev.step (fun _ => rfl) (ev_pos (by omega) (ev_pos (by omega) (ev_pos (by omega) ?_)))⟩
  rw [w64s i (by have := h; omega)]
  exact ev_pos rfl hr
theorem eqChange_self (a0 : Int) (a1 : Int) (a2 : ByteArray) (a3 : ByteArray) (a4 : Int) : laws_eqChange.f a0 a1 a2 a3 a4 a0 a1 a2 a3 a4 = some true := by
 simp [laws_eqChange.f]
theorem eqChangeS_ev (xs : List S45) (h : (xs.length ≤ 1048576 ∧ ∀ y ∈ xs, Fit45 y)) : Ev (fun k => laws_eqChangeS.f k xs xs) true := by
 refine ev_pos rfl (ev_alike_self laws_eqChangeS.l0 (fun k xs ys i => laws_eqChange.f ((rd_T45 xs i).f0) ((rd_T45 xs i).f1) ((rd_T45 xs i).f2) ((rd_T45 xs i).f3) ((rd_T45 xs i).f4) ((rd_T45 ys i).f0) ((rd_T45 ys i).f1) ((rd_T45 ys i).f2) ((rd_T45 ys i).f3) ((rd_T45 ys i).f4)) (fun _ _ _ _ => rfl) xs (by have := h.1; omega) (fun i hi => ?_))
 ·exact ev_eq (eqChange_self _ _ _ _ _)
def MarkByteS (x : Int) (c d : Int) : Prop := x = (c) % 256 ∧ d = c + 1
theorem markByteS_ev (xs : List Int) (hl : xs.length ≤ 1048576) (c : Int) (hc0 : 0 ≤ c) (hc1 : c ≤ 1152921504606846976) :
  ∃ ys d, Chain MarkByteS ys c d ∧ c ≤ d ∧ d ≤ c + 1 * xs.length ∧ ys.length = xs.length ∧ Ev (fun k => laws_markByteS.f k xs c) (d, ys) := by
 refine ev_mark (fun k zs c i => laws_markByteS.l0 k zs c (i : Int)) MarkByteS (fun _ => True) 1 (by omega) (by omega) ?_ ?_ xs (fun _ _ => trivial) hl c hc0 hc1
 ·intro zs c
  exact Ev.step (fun _ => rfl) (ev_neg (by omega) (ev_some rfl))
 ·intro zs c i hi h20 _ h0 h1
  refine ⟨_, _, ⟨rfl, rfl⟩, by omega, by omega, fun r hr => Ev.step (fun _ => rfl) (ev_pos (by omega) (ev_pos (by omega) ?_))⟩
  simp only [Int.toNat_natCast, w64s i (by omega), w64 (n := c + 1) (by omega) (by omega)]
  exact hr
def ValueOk (xs : List S49) (i : Nat) : Prop :=
 NameOk (rd_T49 xs i).f0 ∧ (rd_T49 xs i).f2.size ≤ 100 ∧ (0 < i → Op.bytesLess (rd_T49 xs ((i : Int) - 1)).f0.toList (rd_T49 xs i).f0.toList = true)
def ValuesOk (xs : List S49) : Prop := xs.length ≤ 30 ∧ ∀ i, i < xs.length → ValueOk xs i
theorem values_spec (xs : List S49) (b : Bool) (hb : b = true ↔ ValuesOk xs) : Ev (fun k => spec_GoodValues.f k xs) b := by
 refine ev_ite (fun h => ev_some (bool_false hb (fun h' => by have := h'.1; omega)).symm) fun h => ?_
 refine ev_all xs.length (fun k i => spec_GoodValues.l0 k xs xs (xs.length : Int) (i : Int)) (ValueOk xs) true b ?_ ?_ ?_ ?_
 ·rw [hb]; unfold ValuesOk; constructor
  ·exact fun h => ⟨rfl, h.2⟩
  ·exact fun h' => ⟨by omega, h'.2⟩
 ·exact Ev.step (fun _ => rfl) (ev_neg (by omega) (ev_some rfl))
 ·intro i hi _ ⟨h0, h1, h2⟩ r hr
  refine Ev.step (fun _ => rfl) (ev_pos (by omega) (ev_pos (by omega) (ev_pos (by omega) (Ev.bind (name_spec _ true ⟨fun _ => h0, fun _ => rfl⟩) (ev_pos rfl (ev_neg (by omega) ?_))))))
  rw [w64s i (by omega), w64 (n := (i : Int) - 1) (by omega) (by omega)]
  exact ev_ite (fun hp => ev_pos (by omega) (ev_pos (by omega) (ev_pos (h2 (by omega)) hr))) fun _ => hr
 ·intro i hi _ ho
  obtain ⟨c, hc⟩ := bool_of (NameOk (rd_T49 xs i).f0)
  refine Ev.step (fun _ => rfl) (ev_pos (by omega) (ev_pos (by omega) (ev_pos (by omega) (Ev.bind (name_spec _ c hc) (ev_ite (fun h0 => ev_ite (fun _ => ev_some rfl) fun h1 => ?_) fun _ => ev_some rfl)))))
  rw [w64 (n := (i : Int) - 1) (by omega) (by omega)]
  refine ev_ite (fun hp => ev_pos (by omega) (ev_pos (by omega) (ev_ite (fun h2 => absurd ⟨hc.1 h0, by omega, fun _ => h2⟩ ho) fun _ => ev_some rfl))) fun hp => absurd ⟨hc.1 h0, by omega, fun h => by omega⟩ ho
theorem values_impl (xs : List S49) (hx : xs.length ≤ 1048576 ∧ ∀ y ∈ xs, Fit49 y) (b : Bool) (hb : b = true ↔ ValuesOk xs) : Ev (fun k => impl_GoodValues.f k xs) b := by
 have hn : ∀ i : Nat, i < xs.length → (rd_T49 xs i).f0.size ≤ 140737488351232 := by
  intro i hi
  have e : rd_T49 xs (i : Int) = xs[i] := getD_get hi
  rw [e]
  have := (hx.2 _ (List.getElem_mem hi)).1
  omega
 have hl := hx.1
 refine ev_all xs.length (fun k i => impl_GoodValues.l0 k xs xs (xs.length : Int) (i : Int)) (ValueOk xs) (decide ((xs.length : Int) ≤ 30)) b ?_ ?_ ?_ ?_
 ·rw [hb]; unfold ValuesOk; rw [decide_eq_true_eq]; constructor <;> (rintro ⟨h1, h2⟩; exact ⟨by omega, h2⟩)
 ·exact Ev.step (fun _ => rfl) (ev_neg (by omega) (ev_some rfl))
 ·intro i hi _ ⟨h0, h1, h2⟩ r hr
  refine Ev.step (fun _ => rfl) (ev_pos (by omega) (ev_pos (by omega) (ev_pos (by omega) (Ev.bind (name_impl _ (hn i hi) true ⟨fun _ => h0, fun _ => rfl⟩) (ev_pos rfl ?_)))))
  rw [w64s i (by omega), w64 (n := (i : Int) - 1) (by omega) (by omega)]
  exact ev_ite (fun hp => ev_pos (by omega) (ev_pos (by omega) (ev_pos (h2 (by omega)) (ev_neg (by omega) hr)))) fun _ => ev_neg (by omega) hr
 ·intro i hi _ ho
  obtain ⟨c, hc⟩ := bool_of (NameOk (rd_T49 xs i).f0)
  refine Ev.step (fun _ => rfl) (ev_pos (by omega) (ev_pos (by omega) (ev_pos (by omega) (Ev.bind (name_impl _ (hn i hi) c hc) (ev_ite (fun h0 => ?_) fun _ => ev_some rfl)))))
  rw [w64 (n := (i : Int) - 1) (by omega) (by omega)]
  refine ev_ite (fun hp => ev_pos (by omega) (ev_pos (by omega) (ev_ite (fun h2 => ev_ite (fun _ => ev_some rfl) fun h1 => absurd ⟨hc.1 h0, by omega, fun _ => h2⟩ ho) fun _ => ev_some rfl))) fun hp => ev_ite (fun _ => ev_some rfl) fun h1 => absurd ⟨hc.1 h0, by omega, fun h => by omega⟩ ho
theorem values_same (xs : List S49) (hx : xs.length ≤ 1048576 ∧ ∀ y ∈ xs, Fit49 y) : ∃ b, Ev (fun k => spec_GoodValues.f k xs) b ∧ Ev (fun k => impl_GoodValues.f k xs) b ∧ (b = true ↔ ValuesOk xs) := by
 obtain ⟨b, hb⟩ := bool_of (ValuesOk xs)
 exact ⟨b, values_spec xs b hb, values_impl xs hx b hb, hb⟩
def Rest (F K : Int) (N : ByteArray) (B : Int) : Prop := (1 ≤ F ∧ F ≤ 2) ∧ (1 ≤ K ∧ K ≤ 5) ∧ NameOk N ∧ (-1000000 ≤ B ∧ B ≤ 1000000)
def ToOk (K : Int) (T : ByteArray) : Prop := (K = 1 → NameOk T) ∧ (¬ K = 1 → T.toList = [])
def ByOk (K B : Int) : Prop := K = 1 ∨ K = 4 → B = 0
def ChangeOk (F K : Int) (N T : ByteArray) (B : Int) : Prop := Rest F K N B ∧ ToOk K T ∧ ByOk K B
theorem far_some (n : Int) : impl_isFar.f n = some (decide (-1000000 ≤ n ∧ n ≤ 1000000)) := by unfold impl_isFar.f; rw [inr_some]; rfl
theorem ic_j1t (F K : Int) (N T : ByteArray) (B : Int) : Ev (fun k => impl_isChange.j1 k true F K N T B) false := st_impl_isChange_j1 (ev_pos rfl (ev_some rfl))
theorem ic_j1f (F K : Int) (N T : ByteArray) (B : Int) (hN : N.size ≤ 140737488351232) (c : Bool) (hc : c = true ↔ Rest F K N B) : Ev (fun k => impl_isChange.j1 k false F K N T B) c := by
 have no : ¬ Rest F K N B → false = c := fun h => (bool_false hc h).symm
 refine st_impl_isChange_j1 (ev_neg (by decide) (ev_bindc (inr_some _ _ _) (ev_ite (fun h0 => ?_) fun h0 => ev_some (no fun h => h0 (decide_eq_true h.1)))))
 refine ev_bindc (inr_some _ _ _) (ev_ite (fun h1 => ?_) fun h1 => ev_some (no fun h => h1 (decide_eq_true h.2.1)))
 obtain ⟨b, hb⟩ := bool_of (NameOk N)
 refine Ev.bind (name_impl N hN b hb) (ev_ite (fun h2 => ?_) fun h2 => ev_some (no fun h => h2 (hb.2 h.2.2.1)))
 refine ev_bindc (far_some _) (ev_some ?_)
 rw [Bool.eq_iff_iff, hc, decide_eq_true_eq]
 exact ⟨fun h3 => ⟨of_decide_eq_true h0, of_decide_eq_true h1, hb.1 h2, h3⟩, fun h => h.2.2.2⟩
theorem ic_j0 (F K : Int) (N T : ByteArray) (B : Int) (hN : N.size ≤ 140737488351232) (hT : T.size ≤ 140737488351232) (x : Bool) (c : Bool) (hc : c = true ↔ Rest F K N B ∧ ToOk K T ∧ (x = true ∨ B = 0)) : Ev (fun k => impl_isChange.j0 k x F K N T B) c := by
 have no : ¬ (Rest F K N B ∧ ToOk K T ∧ (x = true ∨ B = 0)) → c = false := bool_false hc
 have tail : ToOk K T → Ev (fun k => if x = true then impl_isChange.j1 k false F K N T B else impl_isChange.j1 k (B != 0) F K N T B) c := by
  intro ht
  refine ev_ite (fun hx => ic_j1f F K N T B hN c (hc.trans ⟨fun h => h.1, fun h => ⟨h, ht, .inl hx⟩⟩)) fun hx => ?_
  by_cases hB : B = 0
  ·rw [show (B != 0) = false by simpa using hB]
   exact ic_j1f F K N T B hN c (hc.trans ⟨fun h => h.1, fun h => ⟨h, ht, .inr hB⟩⟩)
  ·rw [show (B != 0) = true by simpa using hB, no (fun h => by rcases h.2.2 with h | h; exact hx h; exact hB h)]
   exact ic_j1t F K N T B
 refine st_impl_isChange_j0 (ev_ite (fun hK => ?_) fun hK => ?_)
 ·obtain ⟨b, hb⟩ := bool_of (NameOk T)
  refine Ev.bind (name_impl T hT b hb) (ev_ite (fun h2 => tail ⟨fun _ => hb.1 h2, fun h => absurd hK h⟩) fun h2 => ?_)
  rw [no (fun h => h2 (hb.2 (h.2.1.1 hK)))]
  exact ic_j1t F K N T B
 ·refine ev_ite (fun h2 => tail ⟨fun h => absurd h hK, fun _ => h2⟩) fun h2 => ?_
  rw [no (fun h => h2 (h.2.1.2 hK))]
  exact ic_j1t F K N T B
theorem ic_impl (F K : Int) (N T : ByteArray) (B : Int) (hN : N.size ≤ 140737488351232) (hT : T.size ≤ 140737488351232) (c : Bool) (hc : c = true ↔ ChangeOk F K N T B) : Ev (fun k => impl_isChange.f k F K N T B) c := by
 unfold ChangeOk ByOk at hc
 refine ev_ite (fun hK => ?_) fun hK => ev_ite (fun hK3 => ?_) fun hK3 => ?_
 ·exact ic_j0 F K N T B hN hT true c (hc.trans ⟨fun h => ⟨h.1, h.2.1, .inl rfl⟩, fun h => ⟨h.1, h.2.1, fun h' => by omega⟩⟩)
 ·exact ic_j0 F K N T B hN hT true c (hc.trans ⟨fun h => ⟨h.1, h.2.1, .inl rfl⟩, fun h => ⟨h.1, h.2.1, fun h' => by omega⟩⟩)
 ·refine ic_j0 F K N T B hN hT (K == 5) c (hc.trans ⟨fun h => ⟨h.1, h.2.1, ?_⟩, fun h => ⟨h.1, h.2.1, fun h' => ?_⟩⟩)
  ·by_cases h5 : K = 5
   ·exact .inl (by simpa using h5)
   ·exact .inr (h.2.2 (by have := h.1.2.1; omega))
  ·rcases h.2.2 with h5 | h5
   ·have h5 : K = 5 := by simpa using h5
    omega
   ·exact h5
def ItemOk (xs : List S45) (i : Nat) : Prop :=
 ChangeOk (rd_T45 xs i).f0 (rd_T45 xs i).f1 (rd_T45 xs i).f2 (rd_T45 xs i).f3 (rd_T45 xs i).f4 ∧ (0 < i → (rd_T45 xs ((i : Int) - 1)).f0 ≤ (rd_T45 xs i).f0)
def ChangesOk (xs : List S45) : Prop := xs.length ≤ 30 ∧ ∀ i, i < xs.length → ItemOk xs i
theorem changes_impl (xs : List S45) (hx : xs.length ≤ 1048576 ∧ ∀ y ∈ xs, Fit45 y) (b : Bool) (hb : b = true ↔ ChangesOk xs) : Ev (fun k => impl_GoodChanges.f k xs) b := by
 have hl := hx.1
 have hn : ∀ i : Nat, i < xs.length → (rd_T45 xs i).f2.size ≤ 140737488351232 ∧ (rd_T45 xs i).f3.size ≤ 140737488351232 := by
  intro i hi
  have e : rd_T45 xs (i : Int) = xs[i] := getD_get hi
  rw [e]
  have := hx.2 _ (List.getElem_mem hi)
  exact ⟨by have := this.1; omega, by have := this.2; omega⟩
 refine ev_all xs.length (fun k i => impl_GoodChanges.l0 k xs xs (xs.length : Int) (i : Int)) (ItemOk xs) (decide ((xs.length : Int) ≤ 30)) b ?_ ?_ ?_ ?_
 ·rw [hb]; unfold ChangesOk; rw [decide_eq_true_eq]; constructor <;> (rintro ⟨h1, h2⟩; exact ⟨by omega, h2⟩)
 ·exact Ev.step (fun _ => rfl) (ev_neg (by omega) (ev_some rfl))
 ·intro i hi _ ⟨h0, h1⟩ r hr
  refine Ev.step (fun _ => rfl) (ev_pos (by omega) (ev_pos (by omega) (ev_pos (by omega) (Ev.bind (ic_impl _ _ _ _ _ (hn i hi).1 (hn i hi).2 true ⟨fun _ => h0, fun _ => rfl⟩) (ev_pos rfl ?_)))))
  rw [w64s i (by omega), w64 (n := (i : Int) - 1) (by omega) (by omega)]
  exact ev_ite (fun hp => ev_pos (by omega) (ev_pos (by omega) (ev_neg (by have := h1 (by omega); omega) hr))) fun _ => hr
 ·intro i hi _ ho
  obtain ⟨c, hc⟩ := bool_of (ChangeOk (rd_T45 xs i).f0 (rd_T45 xs i).f1 (rd_T45 xs i).f2 (rd_T45 xs i).f3 (rd_T45 xs i).f4)
  refine Ev.step (fun _ => rfl) (ev_pos (by omega) (ev_pos (by omega) (ev_pos (by omega) (Ev.bind (ic_impl _ _ _ _ _ (hn i hi).1 (hn i hi).2 c hc) (ev_ite (fun h0 => ?_) fun _ => ev_some rfl)))))
  rw [w64 (n := (i : Int) - 1) (by omega) (by omega)]
  refine ev_ite (fun hp => ev_pos (by omega) (ev_pos (by omega) (ev_ite (fun _ => ev_some rfl) fun h2 => absurd ⟨hc.1 h0, fun _ => by omega⟩ ho))) fun hp => absurd ⟨hc.1 h0, fun h => by omega⟩ ho
section
variable {xs ys : List S45} {n i : Int} {F K : Int} {N T : ByteArray} {B : Int}
theorem gc_j1t : Ev (fun k => spec_GoodChanges.j1 k xs ys n i true F K N T B) false := st_spec_GoodChanges_j1 (ev_pos rfl (ev_some rfl))
theorem gc_j2t : Ev (fun k => spec_GoodChanges.j2 k xs ys n i true F K N T B) false := st_spec_GoodChanges_j2 (ev_pos rfl (ev_some rfl))
theorem gc_j2 (r : Bool) (hy : ByOk K B → Ev (fun k => spec_GoodChanges.l0 k xs ys n (wrap64 (i + 1))) r) (hn : ¬ ByOk K B → r = false) : Ev (fun k => spec_GoodChanges.j2 k xs ys n i false F K N T B) r := by
 refine st_spec_GoodChanges_j2 (ev_neg (by decide) (ev_ite (fun h1 => ev_ite (fun h => hy (fun _ => h)) fun h => ev_some (hn (fun h' => h (h' (.inl h1)))).symm) fun h1 => ev_ite (fun h4 => ev_ite (fun h => hy (fun _ => h)) fun h => ev_some (hn (fun h' => h (h' (.inr h4)))).symm) fun h4 => hy (fun h => by omega)))
theorem gc_j1 (r : Bool) (hy : ToOk K T ∧ ByOk K B → Ev (fun k => spec_GoodChanges.l0 k xs ys n (wrap64 (i + 1))) r) (hn : ¬ (ToOk K T ∧ ByOk K B) → r = false) : Ev (fun k => spec_GoodChanges.j1 k xs ys n i false F K N T B) r := by
 refine st_spec_GoodChanges_j1 (ev_neg (by decide) (ev_ite (fun h1 => ?_) fun h1 => ?_))
 ·obtain ⟨b, hb⟩ := bool_of (NameOk T)
  refine Ev.bind (name_spec T b hb) (ev_ite (fun h => ?_) fun h => ?_)
  ·have ht : ToOk K T := ⟨fun _ => hb.1 h, fun h' => absurd h1 h'⟩
   exact gc_j2 r (fun h => hy ⟨ht, h⟩) (fun h => hn (fun h' => h h'.2))
  ·rw [hn (fun h' => h (hb.2 (h'.1.1 h1)))]
   exact gc_j2t
 ·by_cases h : T.toList = []
  ·rw [show (T.toList != ([] : List UInt8)) = false by simpa using h]
   exact gc_j2 r (fun h' => hy ⟨⟨fun h'' => absurd h'' h1, fun _ => h⟩, h'⟩) (fun h' => hn (fun h'' => h' h''.2))
  ·rw [show (T.toList != ([] : List UInt8)) = true by simpa using h, hn (fun h' => h (h'.1.2 h1))]
   exact gc_j2t
end
theorem gc_item (xs : List S45) (hl : xs.length ≤ 30) (i : Nat) (hi : i < xs.length) (r : Bool) (hy : ItemOk xs i → Ev (fun k => spec_GoodChanges.l0 k xs xs (xs.length : Int) (wrap64 ((i : Int) + 1))) r) (hn : ¬ ItemOk xs i → r = false) : Ev (fun k => spec_GoodChanges.l0 k xs xs (xs.length : Int) (i : Int)) r := by
 have e : wrap64 ((i : Int) - 1) = (i : Int) - 1 := w64 (by omega) (by omega)
 refine st_spec_GoodChanges_l0 (ev_pos (by omega) (ev_pos (by omega) (ev_pos (by omega) (ev_bindc (in_some _ _ _) (ev_ite (fun h0 => ?_) fun h0 => ?_)))))
 ·have rest : (0 < i → (rd_T45 xs ((i : Int) - 1)).f0 ≤ (rd_T45 xs i).f0) → Ev (fun k => (spec_l1In.f ((rd_T45 xs i).f1) 1 5).bind fun t111 => (if t111 = true then ((spec_GoodName.f k ((rd_T45 xs i).f2)).bind fun t112 => (if t112 = true then ((spec_l1In.f ((rd_T45 xs i).f4) (-1000000) 1000000).bind fun t113 => (spec_GoodChanges.j1 k xs xs (xs.length : Int) (i : Int) (!t113) ((rd_T45 xs i).f0) ((rd_T45 xs i).f1) ((rd_T45 xs i).f2) ((rd_T45 xs i).f3) ((rd_T45 xs i).f4))) else (spec_GoodChanges.j1 k xs xs (xs.length : Int) (i : Int) true ((rd_T45 xs i).f0) ((rd_T45 xs i).f1) ((rd_T45 xs i).f2) ((rd_T45 xs i).f3) ((rd_T45 xs i).f4)))) else (spec_GoodChanges.j1 k xs xs (xs.length : Int) (i : Int) true ((rd_T45 xs i).f0) ((rd_T45 xs i).f1) ((rd_T45 xs i).f2) ((rd_T45 xs i).f3) ((rd_T45 xs i).f4)))) r := by
   intro hp
   refine ev_bindc (in_some _ _ _) (ev_ite (fun h1 => ?_) fun h1 => by rw [hn (fun h => h1 (decide_eq_true h.1.1.2.1))]; exact gc_j1t)
   obtain ⟨b, hb⟩ := bool_of (NameOk (rd_T45 xs i).f2)
   refine Ev.bind (name_spec _ b hb) (ev_ite (fun h2 => ?_) fun h2 => by rw [hn (fun h => h2 (hb.2 h.1.1.2.2.1))]; exact gc_j1t)
   refine ev_bindc (in_some _ _ _) ?_
   by_cases h3 : -1000000 ≤ (rd_T45 xs i).f4 ∧ (rd_T45 xs i).f4 ≤ 1000000
   ·rw [decide_eq_true h3]
    exact gc_j1 r (fun h => hy ⟨⟨⟨of_decide_eq_true h0, of_decide_eq_true h1, hb.1 h2, h3⟩, h.1, h.2⟩, hp⟩) (fun h => hn (fun h' => h ⟨h'.1.2.1, h'.1.2.2⟩))
   ·rw [decide_eq_false h3, hn (fun h => h3 h.1.1.2.2.2)]
    exact gc_j1t
  rw [e]
  refine ev_ite (fun hp => ev_pos (by omega) (ev_pos (by omega) (ev_ite (fun h => ?_) fun h => rest (fun _ => by omega)))) fun hp => rest (fun h => by omega)
  rw [hn (fun h' => by have := h'.2 (by omega); omega)]
  exact gc_j1t
 ·rw [hn (fun h => h0 (decide_eq_true h.1.1.1))]
  exact gc_j1t
theorem changes_spec (xs : List S45) (b : Bool) (hb : b = true ↔ ChangesOk xs) : Ev (fun k => spec_GoodChanges.f k xs) b := by
 refine ev_ite (fun h => ev_some (bool_false hb (fun h' => by have := h'.1; omega)).symm) fun h => ?_
 refine ev_all xs.length (fun k i => spec_GoodChanges.l0 k xs xs (xs.length : Int) (i : Int)) (ItemOk xs) true b ?_ ?_ ?_ ?_
 ·rw [hb]; unfold ChangesOk; constructor
  ·exact fun h => ⟨rfl, h.2⟩
  ·exact fun h' => ⟨by omega, h'.2⟩
 ·exact st_spec_GoodChanges_l0 (ev_neg (by omega) (ev_some rfl))
 ·intro i hi _ ho r hr
  exact gc_item xs (by omega) i hi r (fun _ => by rw [w64s i (by omega)]; exact hr) (fun h => absurd ho h)
 ·intro i hi _ ho
  exact gc_item xs (by omega) i hi false (fun h => absurd h ho) (fun _ => rfl)
theorem changes_same (xs : List S45) (hx : xs.length ≤ 1048576 ∧ ∀ y ∈ xs, Fit45 y) : ∃ b, Ev (fun k => spec_GoodChanges.f k xs) b ∧ Ev (fun k => impl_GoodChanges.f k xs) b ∧ (b = true ↔ ChangesOk xs) := by
 obtain ⟨b, hb⟩ := bool_of (ChangesOk xs)
 exact ⟨b, changes_spec xs b hb, changes_impl xs hx b hb, hb⟩
theorem cmp_lt : ∀ (a b : List UInt8), Lib.compareBytes a b < 0 ↔ Op.bytesLess a b = true
 | [], [] => by simp [Lib.compareBytes, Op.bytesLess]
 | [], _ :: _ => by simp [Lib.compareBytes, Op.bytesLess]
 | _ :: _, [] => by simp [Lib.compareBytes, Op.bytesLess]
 | x :: a, y :: b => by
  have ih := cmp_lt a b
  unfold Lib.compareBytes Op.bytesLess
  by_cases h : x < y
  ·simp [h]
  ·by_cases h2 : y < x
   ·have : x ≠ y := fun e => by subst e; exact h h2
    simp [h, h2, this]
   ·have : x = y := UInt8.le_antisymm (UInt8.not_lt.1 h2) (UInt8.not_lt.1 h)
    subst this
    simpa [h] using ih
theorem cmp_eq : ∀ (a b : List UInt8), Lib.compareBytes a b = 0 ↔ a = b
 | [], [] => by simp [Lib.compareBytes]
 | [], _ :: _ => by simp [Lib.compareBytes]
 | _ :: _, [] => by simp [Lib.compareBytes]
 | x :: a, y :: b => by
  have ih := cmp_eq a b
  unfold Lib.compareBytes
  by_cases h : x < y
  ·have : x ≠ y := fun e => by subst e; exact UInt8.lt_irrefl _ h
   simp [h, this]
  ·by_cases h2 : y < x
   ·have : x ≠ y := fun e => by subst e; exact h h2
    simp [h, h2, this]
   ·have : x = y := UInt8.le_antisymm (UInt8.not_lt.1 h2) (UInt8.not_lt.1 h)
    subst this
    simpa [h] using ih
theorem cmp_next : ∀ (a b s : List UInt8), Op.bytesLess a b = true → 0 ≤ Lib.compareBytes a s → 0 < Lib.compareBytes b s
 | [], [], _, h, _ => by simp [Op.bytesLess] at h
 | [], _ :: _, [], _, _ => by simp [Lib.compareBytes]
 | [], _ :: _, _ :: _, _, h => by simp [Lib.compareBytes] at h
 | _ :: _, [], _, h, _ => by simp [Op.bytesLess] at h
 | _ :: _, _ :: _, [], _, _ => by simp [Lib.compareBytes]
 | x :: a, y :: b, z :: s, h, k => by
  have ih := cmp_next a b s
  unfold Op.bytesLess at h
  unfold Lib.compareBytes at k ⊢
  simp only [Bool.or_eq_true, decide_eq_true_eq, Bool.and_eq_true, beq_iff_eq] at h
  by_cases h1 : x < z
  ·simp [h1] at k
  ·have hzx : z ≤ x := UInt8.not_lt.1 h1
   rcases h with h | ⟨rfl, h⟩
   ·have hzy : z < y := UInt8.lt_of_le_of_lt hzx h
    have : ¬ y < z := fun h' => UInt8.lt_irrefl _ (UInt8.lt_trans hzy h')
    simp [hzy, this]
   ·simp only [h1, if_false] at k ⊢
    by_cases h2 : z < x
    ·simp [h2]
    ·simp only [h2, if_false] at k ⊢
     exact ih h k
theorem less_trans (a b c : List UInt8) (h : Op.bytesLess a b = true) (k : Op.bytesLess b c = true) : Op.bytesLess a c = true := by
 rcases Int.lt_or_le (Lib.compareBytes a c) 0 with g | g
 ·exact (cmp_lt a c).1 g
 ·have h1 := cmp_next a b c h g
  have h2 := (cmp_lt b c).2 k
  omega
theorem uwm (n : Nat) : IntKind.u64.wrap (n : Int) = ((n % 18446744073709551616 : Nat) : Int) := by
 have e : ∀ m : Int, IntKind.u64.wrap m = m % 18446744073709551616 := fun m => by simp only [IntKind.wrap, IntKind.bits, IntKind.signed]; rfl
 rw [e]; omega
theorem td32 (n : Nat) : Int.tdiv (n : Int) 4294967296 = ((n / 4294967296 : Nat) : Int) := by rw [Int.tdiv_eq_ediv_of_nonneg (by omega)]; omega
theorem tm32 (n : Nat) : Int.tmod (n : Int) 4294967296 = ((n % 4294967296 : Nat) : Int) := by rw [Int.tmod_eq_emod_of_nonneg (by omega)]; omega
theorem uw (n : Nat) (h : n < 18446744073709551616) : IntKind.u64.wrap (n : Int) = (n : Int) := wrap_u64 (by omega) (by omega)
theorem b64 : (2 : Nat) ^ IntKind.u64.bits = 18446744073709551616 := by decide
theorem or_gen (X y : Nat) (e : X ||| y = X + y) (h : X + y < 18446744073709551616) : Go.bits .or .u64 (X : Int) (y : Int) = ((X + y : Nat) : Int) := by
 have hx' : X % 2 ^ IntKind.u64.bits = X := by rw [b64]; omega
 have hy' : y % 2 ^ IntKind.u64.bits = y := by rw [b64]; omega
 simp only [Go.bits, BitVec.ofInt_natCast, BitVec.toNat_or, BitVec.toNat_ofNat, hx', hy', e]
 exact uw _ h
theorem or_nat (x y k M : Nat) (hM : 2 ^ k = M) (hy : y < M) : x * M ||| y = x * M + y := by
 subst hM
 have h := Nat.shiftLeft_add_eq_or_of_lt hy x
 rw [Nat.shiftLeft_eq] at h
 exact h.symm
theorem or_split (x y : Nat) (hx : x < 4294967296) (hy : y < 4294967296) : Go.bits .or .u64 ((x * 4294967296 : Nat) : Int) (y : Int) = ((x * 4294967296 + y : Nat) : Int) :=
 or_gen _ y (or_nat x y 32 4294967296 (by decide) hy) (by omega)
theorem split_sum (n m : Nat) : n * 4294967296 + m = (n + m / 4294967296) / 4294967296 * 18446744073709551616 + ((n + m / 4294967296) % 4294967296 * 4294967296 + m % 4294967296) := by omega
theorem split_lt (x y : Nat) : x % 4294967296 * 4294967296 + y % 4294967296 < 18446744073709551616 := by omega
theorem exists_pair (A C : Nat) (h : C < 18446744073709551616) : ∃ hi lo : Nat, some ((A : Int), (C : Int)) = some ((hi : Int), (lo : Int)) ∧ A * 18446744073709551616 + C = hi * 18446744073709551616 + lo ∧ lo < 18446744073709551616 := ⟨A, C, rfl, rfl, h⟩
theorem times_wide (a b : Nat) (ha : a ≤ 1000000) (hb : b ≤ 9223372036854775808) : ∃ hi lo : Nat, spec_l1Times.f (a : Int) (b : Int) = some ((hi : Int), (lo : Int)) ∧ a * b = hi * 18446744073709551616 + lo ∧ lo < 18446744073709551616 := by
 have hB : b = b / 4294967296 * 4294967296 + b % 4294967296 := by omega
 generalize hbh : b / 4294967296 = bh at hB
 generalize hbl : b % 4294967296 = bl at hB
 have h1 : bh ≤ 2147483648 := by omega
 have h2 : bl < 4294967296 := by omega
 have p0 : a * bl ≤ 1000000 * 4294967296 := Nat.mul_le_mul ha (by omega)
 have p1 : a * bh ≤ 1000000 * 2147483648 := Nat.mul_le_mul ha h1
 have ha0 : a / 4294967296 = 0 := by omega
 have ha1 : a % 4294967296 = a := by omega
 have hab : a * b = a * bh * 4294967296 + a * bl := by rw [hB, Nat.mul_add, Nat.mul_assoc]
 unfold spec_l1Times.f
 simp only [td32, tm32, ha0, ha1, hbh, hbl]
 generalize hm : a * bl = m at *
 generalize hn : a * bh = n at *
 have c1 : ((a : Nat) : Int) * ((bl : Nat) : Int) = ((m : Nat) : Int) := by rw [← hm]; exact (Int.natCast_mul _ _).symm
 have c2 : ((a : Nat) : Int) * ((bh : Nat) : Int) = ((n : Nat) : Int) := by rw [← hn]; exact (Int.natCast_mul _ _).symm
 have z : ((0 : Nat) : Int) = 0 := rfl
 have u0 : IntKind.u64.wrap 0 = 0 := wrap_u64 (by omega) (by omega)
 simp only [z, u0, Int.zero_mul, uw bh (by omega), c1, c2, uw m (by omega), uw n (by omega), td32, tm32, uw (m / 4294967296) (by omega), Int.zero_add, Int.add_zero]
 have d1 : m / 4294967296 / 4294967296 = 0 := by omega
 have d2 : m / 4294967296 % 4294967296 = m / 4294967296 := by omega
 simp only [d1, d2, z, u0, Int.zero_add]
 have c3 : ((n : Nat) : Int) + ((m / 4294967296 : Nat) : Int) = ((n + m / 4294967296 : Nat) : Int) := (Int.natCast_add _ _).symm
 simp only [c3, uw (n + m / 4294967296) (by omega), td32, tm32]
 have c6 : (((n + m / 4294967296 : Nat) : Int)) * 4294967296 = (((n + m / 4294967296) * 4294967296 : Nat) : Int) := by omega
 have c7 : (n + m / 4294967296) * 4294967296 % 18446744073709551616 = (n + m / 4294967296) % 4294967296 * 4294967296 := by omega
 rw [c6, uw ((n + m / 4294967296) / 4294967296) (by omega), uw ((n + m / 4294967296) / 4294967296) (by omega), uwm ((n + m / 4294967296) * 4294967296), c7, or_split _ _ (show (n + m / 4294967296) % 4294967296 < 4294967296 by omega) (show m % 4294967296 < 4294967296 by omega)]
 have hsum := split_sum n m
 have hlt : (n + m / 4294967296) % 4294967296 * 4294967296 + m % 4294967296 < 18446744073709551616 := split_lt _ _
 rw [hab, hsum]
 clear hsum c1 c2 c3 c6 c7 hab
 exact exists_pair _ _ hlt
theorem size_far (n : Int) (h : -9223372036854775807 ≤ n ∧ n ≤ 9223372036854775807) : impl_size.f n = some (n.natAbs : Int) := by
 unfold impl_size.f mx
 rw [w64 (by omega) (by omega)]
 congr 1
 split <;> omega
theorem turn_same (F K : Int) (N T : ByteArray) (B n : Int) (hK : K = 2 ∨ K = 3) (hB : -1000000 ≤ B ∧ B ≤ 1000000) (hn : In64 n) :
  ∃ (m m' : Int) (ok : Bool), spec_l22Turn.f F K N T B n = some (m, ok) ∧ Ev (fun k => impl_Change_changed.f k F K N T B n) (m', ok) ∧ (ok = true → m' = m ∧ In64 m) := by
 have hn1 : -9223372036854775808 ≤ n := hn.1
 have hn2 : n ≤ 9223372036854775807 := by have := hn.2; omega
 rcases hK with rfl | rfl
 ·by_cases h : -2000000000000000 ≤ n ∧ n ≤ 2000000000000000
  ·have e : wrap64 (n + B) = n + B := w64 (by omega) (by omega)
   refine ⟨n + B, n + B, decide (-1000000000000000 ≤ n + B ∧ n + B ≤ 1000000000000000), ?_, ?_, fun ho => ⟨rfl, by have := of_decide_eq_true ho; exact ⟨by omega, by omega⟩⟩⟩
   ·unfold spec_l22Turn.f
    rw [if_neg (by decide), in_some, Option.bind_some, if_pos (decide_eq_true h), e, in_some, Option.bind_some]
   ·refine ev_pos rfl (ev_bindc (inr_some _ _ _) ?_)
    rw [decide_eq_true h]
    refine st_impl_Change_changed_j0 (ev_pos rfl ?_)
    rw [e]
    exact ev_bindc (inr_some _ _ _) (ev_some rfl)
  ·refine ⟨0, 0, false, ?_, ?_, fun ho => by cases ho⟩
   ·unfold spec_l22Turn.f
    rw [if_neg (by decide), in_some, Option.bind_some, if_neg (by simpa using h)]
   ·refine ev_pos rfl (ev_bindc (inr_some _ _ _) ?_)
    rw [decide_eq_false h]
    exact st_impl_Change_changed_j0 (ev_neg (by decide) (ev_neg (by decide) (st_impl_Change_changed_j1 (ev_neg (by decide) (ev_neg (by decide) (ev_some rfl))))))
 ·have ea : spec_l1Abs.f B = some (B.natAbs : Int) := by
   unfold spec_l1Abs.f
   split
   ·rw [w64 (by omega) (by omega)]; congr 1; omega
   ·congr 1; omega
  have es : spec_l22Size.f n = some (n.natAbs : Int) := by
   unfold spec_l22Size.f
   split
   ·rw [w64 (n := n + 1) (by omega) (by omega), w64 (by omega) (by omega), wrap_u64 (n := -(n + 1)) (by omega) (by omega), wrap_u64 (by omega) (by omega)]; congr 1; omega
   ·rw [wrap_u64 (by omega) (by omega)]; congr 1; omega
  obtain ⟨hi, lo, ht, hp, hlo⟩ := times_wide B.natAbs n.natAbs (by omega) (by omega)
  have spec0 : spec_l22Turn.f F 3 N T B n = (if (hi : Int) > 0 then (some (0, false)) else (if (lo : Int) > 1000000000000000 then (some (0, false)) else (some (wrap64 (B * n), true)))) := by
   unfold spec_l22Turn.f
   rw [if_pos rfl, ea, Option.bind_some, es, Option.bind_some, uw _ (by omega), ht, Option.bind_some]
  have hpn : (B * n).natAbs = B.natAbs * n.natAbs := Int.natAbs_mul B n
  by_cases hB0 : B = 0
  ·subst hB0
   have : (0 : Int).natAbs * n.natAbs = 0 := by simp
   refine ⟨0, 0, true, ?_, ?_, fun _ => ⟨rfl, by constructor <;> decide⟩⟩
   ·rw [spec0, if_neg (by omega), if_neg (by omega), Int.zero_mul, w64 (by omega) (by omega)]
   ·exact ev_neg (by decide) (st_impl_Change_changed_j0 (ev_neg (by decide) (ev_pos rfl (st_impl_Change_changed_j1 (ev_pos rfl (ev_bindc (inr_some _ _ _) (ev_some rfl)))))))
  ·have hb1 : 1 ≤ B.natAbs := by omega
   have hge : n.natAbs ≤ B.natAbs * n.natAbs := Nat.le_mul_of_pos_left _ hb1
   have hbad : ∀ r, Ev (fun k => impl_Change_changed.j1 k n false F 3 N T B) r → Ev (fun k => impl_Change_changed.f k F 3 N T B n) r := fun r hr =>
    ev_neg (by decide) (st_impl_Change_changed_j0 (ev_neg (by decide) (ev_pos rfl (by rw [show (B == 0) = false by simpa using hB0]; exact hr))))
   by_cases hbig : B.natAbs * n.natAbs ≤ 1000000000000000
   ·have hr : -1000000000000000 ≤ n ∧ n ≤ 1000000000000000 := by omega
    have hBn : -1000000000000000 ≤ B * n ∧ B * n ≤ 1000000000000000 := by omega
    have hd : n.natAbs ≤ 1000000000000000 / B.natAbs := by
     rw [Nat.le_div_iff_mul_le hb1, Nat.mul_comm]; exact hbig
    have e : wrap64 (B * n) = B * n := w64 (by omega) (by omega)
    have s1 : impl_size.f n = some (n.natAbs : Int) := size_far n (by omega)
    have s2 : impl_size.f B = some (B.natAbs : Int) := size_far B (by omega)
    have hdz : Int.tdiv 1000000000000000 (B.natAbs : Int) = ((1000000000000000 / B.natAbs : Nat) : Int) := by
     rw [Int.tdiv_eq_ediv_of_nonneg (by omega), Int.natCast_ediv]; rfl
    have hdl : 1000000000000000 / B.natAbs ≤ 1000000000000000 := Nat.div_le_self _ _
    generalize 1000000000000000 / B.natAbs = q at hd hdz hdl
    refine ⟨B * n, B * n, true, ?_, ?_, fun _ => ⟨rfl, ⟨by omega, by omega⟩⟩⟩
    ·rw [spec0, if_neg (by omega), if_neg (by omega), e]
    ·refine hbad _ (st_impl_Change_changed_j1 (ev_neg (by decide) (ev_pos rfl (ev_bindc (inr_some _ _ _) (ev_pos (decide_eq_true hr) (ev_bindc s1 (ev_bindc s2 (ev_neg (by omega) ?_))))))))
     rw [hdz, w64 (n := (q : Int)) (by omega) (by omega)]
     refine ev_pos (by omega) ?_
     rw [Int.mul_comm n B, e]
     exact ev_bindc (inr_some _ _ _) (ev_some (by rw [decide_eq_true hBn]))
   ·refine ⟨0, 0, false, ?_, ?_, fun ho => by cases ho⟩
    ·rw [spec0]
     by_cases hh : (hi : Int) > 0
     ·rw [if_pos hh]
     ·rw [if_neg hh, if_pos (by omega)]
    ·by_cases hr : -1000000000000000 ≤ n ∧ n ≤ 1000000000000000
     ·have s1 : impl_size.f n = some (n.natAbs : Int) := size_far n (by omega)
      have s2 : impl_size.f B = some (B.natAbs : Int) := size_far B (by omega)
      have hd : ¬ n.natAbs ≤ 1000000000000000 / B.natAbs := by
       rw [Nat.le_div_iff_mul_le hb1, Nat.mul_comm]; exact hbig
      have hdz : Int.tdiv 1000000000000000 (B.natAbs : Int) = ((1000000000000000 / B.natAbs : Nat) : Int) := by
       rw [Int.tdiv_eq_ediv_of_nonneg (by omega), Int.natCast_ediv]; rfl
      have hdl : 1000000000000000 / B.natAbs ≤ 1000000000000000 := Nat.div_le_self _ _
      generalize 1000000000000000 / B.natAbs = q at hd hdz hdl
      refine hbad _ (st_impl_Change_changed_j1 (ev_neg (by decide) (ev_pos rfl (ev_bindc (inr_some _ _ _) (ev_pos (decide_eq_true hr) (ev_bindc s1 (ev_bindc s2 (ev_neg (by omega) ?_))))))))
      rw [hdz, w64 (n := (q : Int)) (by omega) (by omega)]
      exact ev_neg (by omega) (ev_some rfl)
     ·exact hbad _ (st_impl_Change_changed_j1 (ev_neg (by decide) (ev_pos rfl (ev_bindc (inr_some _ _ _) (ev_neg (by simpa using hr) (ev_some rfl))))))
abbrev nameAt (l : List S49) (i : Nat) : List UInt8 := (rd_T49 l (i : Int)).f0.toList
def Rises (l : List S49) : Prop := (l.map fun x => x.f0.toList).Pairwise fun a b => Op.bytesLess a b = true
def Spot (l : List S49) (t : List UInt8) (p : Nat) : Prop := p ≤ l.length ∧ (∀ i, i < p → Op.bytesLess (nameAt l i) t = true) ∧ (p < l.length → Op.bytesLess (nameAt l p) t = false)
def There (l : List S49) (t : List UInt8) (p : Nat) : Prop := p < l.length ∧ nameAt l p = t
theorem rd_value {l : List S49} {i : Nat} (h : i < l.length) : rd_T49 l (i : Int) = l[i] := getD_get h
theorem less_irrefl (a : List UInt8) : Op.bytesLess a a = false := by
 cases h : Op.bytesLess a a with
 | false => rfl
 | true => have h1 := (cmp_lt a a).2 h; have h2 := (cmp_eq a a).2 rfl; omega
theorem less_total : ∀ (a b : List UInt8), Op.bytesLess a b = false → a ≠ b → Op.bytesLess b a = true
 | [], [], _, h => absurd rfl h
 | [], _ :: _, h, _ => by simp [Op.bytesLess] at h
 | _ :: _, [], _, _ => by simp [Op.bytesLess]
 | x :: a, y :: b, h, k => by
  have ih := less_total a b
  unfold Op.bytesLess at h ⊢
  simp only [Bool.or_eq_false_iff, decide_eq_false_iff_not, Bool.and_eq_false_imp, beq_iff_eq] at h
  simp only [Bool.or_eq_true, decide_eq_true_eq, Bool.and_eq_true, beq_iff_eq]
  by_cases hxy : x = y
  ·subst hxy
   exact .inr ⟨rfl, ih (h.2 rfl) (fun e => k (by rw [e]))⟩
  ·refine .inl ?_
   rcases UInt8.lt_or_lt_of_ne hxy with h1 | h1
   ·exact absurd h1 h.1
   ·exact h1
theorem rises_at {l : List S49} (h : Rises l) (i j : Nat) (hij : i < j) (hj : j < l.length) : Op.bytesLess (nameAt l i) (nameAt l j) = true := by
 have := List.pairwise_iff_getElem.1 h i j (by simpa using Nat.lt_trans hij hj) (by simpa using hj) hij
 simp only [List.getElem_map] at this
 unfold nameAt
 rw [rd_value hj, rd_value (Nat.lt_trans hij hj)]
 exact this
theorem spot_near {l : List S49} (h : Rises l) {t : List UInt8} {p : Nat} (hp : Spot l t p) (i : Nat) (hi : i < l.length) : nameAt l i = t ↔ i = p ∧ There l t p := by
 constructor
 ·intro e
  rcases Nat.lt_trichotomy i p with h1 | h1 | h1
  ·have := hp.2.1 i h1
   rw [e, less_irrefl] at this
   cases this
  ·subst h1
   exact ⟨rfl, hi, e⟩
  ·have h2 := rises_at h p i h1 hi
   rw [e, hp.2.2 (by omega)] at h2
   cases h2
 ·rintro ⟨rfl, h1⟩
  exact h1.2
theorem place_spec (l : List S49) (hl : l.length ≤ 1048576) (h : Rises l) (s : ByteArray) (p : Nat) (hp : Spot l s.toList p) (hT : There l s.toList p) : Ev (fun k => spec_l22At.f k l s) (p : Int) := by
 refine ev_for1 l.length (fun k i (_ : Unit) => spec_l22At.l0 k s l (l.length : Int) (i : Int)) (fun i _ => i ≤ p) _ ?_ ?_ 0 () (Nat.zero_le _) (Nat.zero_le _)
 ·intro _ hi
  have := hT.1
  omega
 ·intro i _ hi hle
  by_cases e : nameAt l i = s.toList
  ·refine .inl (st_spec_l22At_l0 (ev_pos (by omega) (ev_pos (by omega) (ev_pos (by omega) (ev_pos e ?_)))))
   rw [((spot_near h hp i hi).1 e).1]
   exact ev_some rfl
  ·refine .inr ⟨(), ?_, fun r hr => st_spec_l22At_l0 (ev_pos (by omega) (ev_pos (by omega) (ev_pos (by omega) (ev_neg e ?_))))⟩
   ·rcases Nat.lt_or_ge i p with h1 | h1
    ·omega
    ·obtain rfl : i = p := by omega
     exact absurd hT.2 e
   ·rw [w64s i (by omega)]; exact hr
theorem place_none (l : List S49) (hl : l.length ≤ 1048576) (h : Rises l) (s : ByteArray) (p : Nat) (hp : Spot l s.toList p) (hT : ¬ There l s.toList p) : Ev (fun k => spec_l22At.f k l s) (-1) := by
 refine ev_for1 l.length (fun k i (_ : Unit) => spec_l22At.l0 k s l (l.length : Int) (i : Int)) (fun _ _ => True) _ ?_ ?_ 0 () (Nat.zero_le _) trivial
 ·intro _ _
  exact st_spec_l22At_l0 (ev_neg (by omega) (ev_some rfl))
 ·intro i _ hi _
  refine .inr ⟨(), trivial, fun r hr => st_spec_l22At_l0 (ev_pos (by omega) (ev_pos (by omega) (ev_pos (by omega) (ev_neg (fun e => hT ((spot_near h hp i hi).1 e).2) ?_))))⟩
  rw [w64s i (by omega)]; exact hr
theorem place_impl (l : List S49) (hl : l.length ≤ 1048576) (h : Rises l) (s : ByteArray) : ∃ p, Spot l s.toList p ∧ ∃ b : Bool, Ev (fun k => impl_valuePlace.f k l s) ((p : Int), b) ∧ (b = true ↔ There l s.toList p) := by
 have hz : ∀ i : Nat, cmps (rd_T49 l (i : Int)).f0 s = 0 ↔ nameAt l i = s.toList := fun i => by
  unfold nameAt
  rw [Go.ByteArray.toList_eq, Go.ByteArray.toList_eq]; exact cmp_eq _ _
 have hlt : ∀ i : Nat, cmps (rd_T49 l (i : Int)).f0 s < 0 ↔ Op.bytesLess (nameAt l i) s.toList = true := fun i => by
  unfold nameAt
  rw [Go.ByteArray.toList_eq, Go.ByteArray.toList_eq]; exact cmp_lt _ _
 have hm : ∀ i j : Nat, i < j → j < l.length → 0 ≤ cmps (rd_T49 l (i : Int)).f0 s → 0 < cmps (rd_T49 l (j : Int)).f0 s := by
  intro i j hij hj h0
  have hs := rises_at h i j hij hj
  unfold nameAt at hs
  rw [Go.ByteArray.toList_eq, Go.ByteArray.toList_eq] at hs
  exact cmp_next _ _ _ hs h0
 obtain ⟨p, g1, g2, g3, g4⟩ := ev_search (fun k xs x n i j => slices_BinarySearchFunc_w61.l0 k xs x n i j) (fun _ xs i x => impl_valuePlace_1.f (rd_T49 xs i).f0 (rd_T49 xs i).f1 (rd_T49 xs i).f2 x) (fun _ _ _ _ _ _ => rfl) l s hl (fun i => cmps (rd_T49 l (i : Int)).f0 s) (fun i _ => ev_some rfl) hm
 refine ⟨p, ⟨g1, fun i hi => (hlt i).1 (g2 i hi), fun hp => ?_⟩, _, Ev.bind g4 (ev_some rfl), ?_⟩
 ·have h3 := g3 p (Nat.le_refl _) hp
  cases hb : Op.bytesLess (nameAt l p) s.toList with
  | false => rfl
  | true => have := (hlt p).2 hb; omega
 ·show decide _ = true ↔ _
  rw [decide_eq_true_eq, hz]
  exact Iff.rfl
def ins (l : List S49) (p : Nat) (x : S49) : List S49 := l.take p ++ [x] ++ l.drop p
theorem ins_len (l : List S49) (p : Nat) (x : S49) : (ins l p x).length = l.length + 1 := by
 simp only [ins, List.length_append, List.length_take, List.length_drop, List.length_singleton]; omega
theorem put_spec (l : List S49) (hl : l.length ≤ 1000) (x : S49) (p : Nat) (hp : Spot l x.f0.toList p) : Ev (fun k => spec_l22Put.f k l x.f0 x.f1 x.f2) (ins l p x) := by
 have hpl := hp.1
 have hlen : (l.take p).length ≤ 1000 ∧ (l.drop p).length ≤ 1000 := by rw [List.length_take, List.length_drop]; omega
 have hl1 := hlen.1
 have hl2 := hlen.2
 refine ev_for1 p (fun k i (_ : Unit) => spec_l22Put.l0 k l (i : Int) x.f0 x.f1 x.f2) (fun _ _ => True) _ ?_ ?_ 0 () (Nat.zero_le _) trivial
 ·intro _ _
  by_cases hlt : p < l.length
  ·have hb := hp.2.2 hlt
   refine st_spec_l22Put_l0 (ev_pos (by omega) (ev_pos (by omega) (ev_neg (by unfold nameAt at hb; rw [hb]; decide) (ev_pos (by omega) (ev_bindc rfl (ev_pos ?_ (ev_bindc rfl (ev_pos ?_ (ev_bindc rfl (ev_bindc rfl (ev_pos ?_ (ev_some rfl)))))))))))) <;>
    (simp only [Int.toNat_natCast, List.length_append, List.length_nil, List.length_singleton]; omega)
  ·refine st_spec_l22Put_l0 (ev_neg (by omega) (ev_pos (by omega) (ev_pos (by omega) (ev_bindc rfl (ev_pos ?_ (ev_bindc rfl (ev_pos ?_ (ev_bindc rfl (ev_bindc rfl (ev_pos ?_ (ev_some rfl))))))))))) <;>
    (simp only [Int.toNat_natCast, List.length_append, List.length_nil, List.length_singleton]; omega)
 ·intro i _ hi _
  have hb := hp.2.1 i hi
  refine .inr ⟨(), trivial, fun r hr => st_spec_l22Put_l0 (ev_pos (by omega) (ev_pos (by omega) (ev_pos hb ?_)))⟩
  rw [w64s i (by omega)]; exact hr
theorem drop_spec (l : List S49) (hl : l.length ≤ 1000) (i : Nat) (hi : i < l.length) : spec_l22Drop.f l (i : Int) = some (l.eraseIdx i) := by
 have e : wrap64 ((i : Int) + 1) = ((i + 1 : Nat) : Int) := by rw [w64 (by omega) (by omega)]; omega
 unfold spec_l22Drop.f
 rw [e, if_pos (by omega), if_pos (by omega), Option.bind_some, if_pos (by simp only [Int.toNat_natCast, List.length_take, List.length_nil]; omega), Option.bind_some, if_pos (by omega), if_pos (by omega), Option.bind_some, if_pos (by simp only [Int.toNat_natCast, List.length_append, List.length_take, List.length_drop, List.length_nil]; omega)]
 rw [List.eraseIdx_eq_take_drop_succ]
 rfl
theorem insert_impl (l : List S49) (hl : l.length ≤ 1000) (p : Nat) (hp : p ≤ l.length) (x : S49) : impl_Value_52.f l (p : Int) [x] = some (ins l p x) := by
 unfold impl_Value_52.f
 rw [if_pos (by omega), if_pos (by omega), if_pos (by simp), if_pos (by omega)]
 rfl
theorem delete_impl (l : List S49) (hl : l.length ≤ 1000) (i : Nat) (hi : i < l.length) : impl_Value_53.f l (i : Int) (wrap64 ((i : Int) + 1)) = some (l.eraseIdx i) := by
 rw [w64s i (by omega)]
 unfold impl_Value_53.f
 rw [if_pos (by omega), if_pos (by omega), if_pos (by omega)]
 rfl
theorem rises_ins {l : List S49} (h : Rises l) (x : S49) (p : Nat) (hp : Spot l x.f0.toList p) (hT : ¬ There l x.f0.toList p) : Rises (ins l p x) := by
 have hl : ∀ i, i < l.length → (l.map fun x => x.f0.toList)[i]? = some (nameAt l i) := fun i hi => by
  rw [List.getElem?_map, List.getElem?_eq_getElem hi]; unfold nameAt; rw [rd_value hi]; rfl
 have hpl := hp.1
 unfold Rises ins at *
 rw [← List.take_append_drop p l, List.map_append, List.pairwise_append] at h
 obtain ⟨h1, h2, h3⟩ := h
 have hlo : ∀ a ∈ (l.take p).map (fun x => x.f0.toList), Op.bytesLess a x.f0.toList = true := by
  intro a ha
  rw [List.map_take, List.mem_iff_getElem?] at ha
  obtain ⟨i, hi⟩ := ha
  rw [List.getElem?_take] at hi
  split at hi
  ·rename_i hip
   rw [hl i (by omega)] at hi
   injection hi with hi
   rw [← hi]
   exact hp.2.1 i hip
  ·cases hi
 have hhi : ∀ b ∈ (l.drop p).map (fun x => x.f0.toList), Op.bytesLess x.f0.toList b = true := by
  intro b hb
  rw [List.map_drop, List.mem_iff_getElem?] at hb
  obtain ⟨i, hi⟩ := hb
  rw [List.getElem?_drop] at hi
  have hil : p + i < l.length := by
   have := (List.getElem?_eq_some_iff.1 hi).1
   simpa using this
  rw [hl _ hil] at hi
  injection hi with hi
  have hp0 : p < l.length := by omega
  have h0 : Op.bytesLess x.f0.toList (nameAt l p) = true := less_total _ _ (hp.2.2 hp0) (fun e => hT ⟨hp0, e⟩)
  rcases Nat.eq_zero_or_pos i with rfl | hpos
  ·rw [← hi]; exact h0
  ·rw [← hi]
   refine less_trans _ _ _ h0 (rises_at (l := l) ?_ p (p + i) (by omega) hil)
   unfold Rises
   rw [← List.take_append_drop p l, List.map_append, List.pairwise_append]
   exact ⟨h1, h2, h3⟩
 rw [List.map_append, List.map_append, List.pairwise_append, List.pairwise_append]
 refine ⟨⟨h1, by simp, fun a ha b hb => ?_⟩, h2, fun a ha b hb => ?_⟩
 ·simp only [List.map_cons, List.map_nil, List.mem_singleton] at hb
  rw [hb]; exact hlo a ha
 ·rcases List.mem_append.1 ha with ha | ha
  ·exact h3 a ha b hb
  ·simp only [List.map_cons, List.map_nil, List.mem_singleton] at ha
   rw [ha]; exact hhi b hb
theorem rises_erase {l : List S49} (h : Rises l) (i : Nat) : Rises (l.eraseIdx i) := by
 unfold Rises at *
 exact h.sublist ((List.eraseIdx_sublist _ _).map _)
theorem rises_set {l : List S49} (h : Rises l) (i : Nat) (hi : i < l.length) (n : Int) : Rises (l.set i ⟨(rd_T49 l (i : Int)).f0, n, (rd_T49 l (i : Int)).f2⟩) := by
 have e : (l.set i ⟨(rd_T49 l (i : Int)).f0, n, (rd_T49 l (i : Int)).f2⟩).map (fun x => x.f0.toList) = l.map fun x => x.f0.toList := by
  rw [List.map_set]
  refine List.ext_getElem (by simp) (fun j h1 h2 => ?_)
  rw [List.getElem_set]
  split
  ·rename_i hij
   subst hij
   simp only [List.getElem_map]
   rw [rd_value hi]
  ·rfl
 unfold Rises at *
 rw [e]; exact h
def Sound (l : List S49) : Prop := ∀ y ∈ l, Fit49 y ∧ In64 y.f1
theorem sound_ins {l : List S49} (h : Sound l) (p : Nat) (x : S49) (hx : Fit49 x ∧ In64 x.f1) : Sound (ins l p x) := by
 intro y hy
 unfold ins at hy
 rcases List.mem_append.1 hy with hy | hy
 ·rcases List.mem_append.1 hy with hy | hy
  ·exact h y (List.mem_of_mem_take hy)
  ·rw [List.mem_singleton.1 hy]; exact hx
 ·exact h y (List.mem_of_mem_drop hy)
theorem sound_erase {l : List S49} (h : Sound l) (i : Nat) : Sound (l.eraseIdx i) := fun y hy => h y (List.mem_of_mem_eraseIdx hy)
theorem sound_at {l : List S49} (h : Sound l) (i : Nat) (hi : i < l.length) : Fit49 (rd_T49 l (i : Int)) ∧ In64 (rd_T49 l (i : Int)).f1 := by
 rw [rd_value hi]; exact h _ (List.getElem_mem hi)
theorem sound_set {l : List S49} (h : Sound l) (i : Nat) (x : S49) (hx : Fit49 x ∧ In64 x.f1) : Sound (l.set i x) := by
 intro y hy
 rcases List.mem_or_eq_of_mem_set hy with hy | hy
 ·exact h y hy
 ·rw [hy]; exact hx
theorem none_near {l : List S49} (h : Rises l) {t : List UInt8} {p : Nat} (hp : Spot l t p) (hT : ¬ There l t p) (q : Nat) : ¬ There (l.eraseIdx q) t p ∧ ∀ r, ¬ There (l.eraseIdx q) t r := by
 have key : ∀ r, ¬ There (l.eraseIdx q) t r := by
  intro r ⟨h1, h2⟩
  unfold nameAt at h2
  rw [rd_value h1] at h2
  have hm : (l.eraseIdx q)[r] ∈ l := List.mem_of_mem_eraseIdx (List.getElem_mem h1)
  obtain ⟨i, hi, he⟩ := List.getElem_of_mem hm
  rw [← he] at h2
  refine hT ((spot_near h hp i hi).1 ?_).2
  unfold nameAt
  rw [rd_value hi]; exact h2
 exact ⟨key p, key⟩
theorem step (v : Int) (l : List S49) (hr : Rises l) (hs : Sound l) (hl : l.length ≤ 30) (cs : List S45) (hcs : cs.length ≤ 30) (hfit : ∀ y ∈ cs, Fit45 y) (i : Nat) (hi : i < cs.length) (hc : ItemOk cs i) (hv : ¬ (rd_T45 cs (i : Int)).f0 < v) :
  ∃ (m : List S49) (ok : Bool), Ev (fun k => impl_change.f k l (rd_T45 cs (i : Int)).f0 (rd_T45 cs (i : Int)).f1 (rd_T45 cs (i : Int)).f2 (rd_T45 cs (i : Int)).f3 (rd_T45 cs (i : Int)).f4) (m, ok) ∧
   (ok = true → Rises m ∧ Sound m ∧ m.length ≤ 30 ∧ ∀ r, Ev (fun k => spec_MigrateSave.l0 k v m cs (cs.length : Int) (wrap64 ((i : Int) + 1))) r → Ev (fun k => spec_MigrateSave.l0 k v l cs (cs.length : Int) (i : Int)) r) ∧
   (ok = false → Ev (fun k => spec_MigrateSave.l0 k v l cs (cs.length : Int) (i : Int)) ([], false)) := by
 have hF : Fit45 (rd_T45 cs (i : Int)) := by
  have e : rd_T45 cs (i : Int) = cs[i] := getD_get hi
  rw [e]; exact hfit _ (List.getElem_mem hi)
 have hck := hc.1.1
 have hgo : ∀ r, Ev (fun k => (spec_l22At.f k l (rd_T45 cs (i : Int)).f2).bind fun t197 => (if ((rd_T45 cs (i : Int)).f1) = 5 then (if t197 < 0 then ((spec_l22Put.f k l ((rd_T45 cs (i : Int)).f2) ((rd_T45 cs (i : Int)).f4) (⟨#[]⟩ : ByteArray)).bind fun t198 => (if (t198.length : Int) > 30 then (some (([] : List (S49)), false)) else (spec_MigrateSave.l0 k v t198 cs (cs.length : Int) (wrap64 ((i : Int) + 1))))) else (if (l.length : Int) > 30 then (some (([] : List (S49)), false)) else (spec_MigrateSave.l0 k v l cs (cs.length : Int) (wrap64 ((i : Int) + 1))))) else (if t197 < 0 then (spec_MigrateSave.l0 k v l cs (cs.length : Int) (wrap64 ((i : Int) + 1))) else (if ((rd_T45 cs (i : Int)).f1) = 1 then ((spec_l22At.f k l ((rd_T45 cs (i : Int)).f3)).bind fun t201 => (if t201 ≥ 0 then (some (([] : List (S49)), false)) else (if 0 ≤ t197 then (if t197 < (l.length : Int) then ((spec_l22Drop.f l t197).bind fun t204 => ((spec_l22Put.f k t204 ((rd_T45 cs (i : Int)).f3) ((rd_T49 l t197).f1) ((rd_T49 l t197).f2)).bind fun t207 => (spec_MigrateSave.l0 k v t207 cs (cs.length : Int) (wrap64 ((i : Int) + 1))))) else (none)) else (none)))) else (if ((rd_T45 cs (i : Int)).f1) = 4 then ((spec_l22Drop.f l t197).bind fun t210 => (spec_MigrateSave.l0 k v t210 cs (cs.length : Int) (wrap64 ((i : Int) + 1)))) else (if 0 ≤ t197 then (if t197 < (l.length : Int) then ((spec_l22Turn.f ((rd_T45 cs (i : Int)).f0) ((rd_T45 cs (i : Int)).f1) ((rd_T45 cs (i : Int)).f2) ((rd_T45 cs (i : Int)).f3) ((rd_T45 cs (i : Int)).f4) ((rd_T49 l t197).f1)).bind fun bt214 => (if bt214.2 = true then (spec_MigrateSave.l0 k v (l.set (t197 : Int).toNat (⟨(rd_T49 l t197).f0, bt214.1, (rd_T49 l t197).f2⟩ : S49)) cs (cs.length : Int) (wrap64 ((i : Int) + 1))) else (some (([] : List (S49)), false)))) else (none)) else (none))))))) r → Ev (fun k => spec_MigrateSave.l0 k v l cs (cs.length : Int) (i : Int)) r :=
  fun r hX => st_spec_MigrateSave_l0 (ev_pos (by omega) (ev_pos (by omega) (ev_pos (by omega) (ev_neg hv hX))))
 revert hgo
 generalize hcr : rd_T45 cs (i : Int) = c at hF hck hv ⊢
 obtain ⟨F, K, N, T, B⟩ := c
 obtain ⟨hF1, hF2⟩ := hF
 replace hF1 : N.size ≤ 1048576 := hF1
 replace hF2 : T.size ≤ 1048576 := hF2
 obtain ⟨_, hK, _, hB⟩ := hck
 replace hK : 1 ≤ K ∧ K ≤ 5 := hK
 replace hB : -1000000 ≤ B ∧ B ≤ 1000000 := hB
 show (∀ r, Ev (fun k => (spec_l22At.f k l N).bind fun t197 => (if K = 5 then (if t197 < 0 then ((spec_l22Put.f k l N B (⟨#[]⟩ : ByteArray)).bind fun t198 => (if (t198.length : Int) > 30 then (some (([] : List (S49)), false)) else (spec_MigrateSave.l0 k v t198 cs (cs.length : Int) (wrap64 ((i : Int) + 1))))) else (if (l.length : Int) > 30 then (some (([] : List (S49)), false)) else (spec_MigrateSave.l0 k v l cs (cs.length : Int) (wrap64 ((i : Int) + 1))))) else (if t197 < 0 then (spec_MigrateSave.l0 k v l cs (cs.length : Int) (wrap64 ((i : Int) + 1))) else (if K = 1 then ((spec_l22At.f k l T).bind fun t201 => (if t201 ≥ 0 then (some (([] : List (S49)), false)) else (if 0 ≤ t197 then (if t197 < (l.length : Int) then ((spec_l22Drop.f l t197).bind fun t204 => ((spec_l22Put.f k t204 T ((rd_T49 l t197).f1) ((rd_T49 l t197).f2)).bind fun t207 => (spec_MigrateSave.l0 k v t207 cs (cs.length : Int) (wrap64 ((i : Int) + 1))))) else (none)) else (none)))) else (if K = 4 then ((spec_l22Drop.f l t197).bind fun t210 => (spec_MigrateSave.l0 k v t210 cs (cs.length : Int) (wrap64 ((i : Int) + 1)))) else (if 0 ≤ t197 then (if t197 < (l.length : Int) then ((spec_l22Turn.f F K N T B ((rd_T49 l t197).f1)).bind fun bt214 => (if bt214.2 = true then (spec_MigrateSave.l0 k v (l.set (t197 : Int).toNat (⟨(rd_T49 l t197).f0, bt214.1, (rd_T49 l t197).f2⟩ : S49)) cs (cs.length : Int) (wrap64 ((i : Int) + 1))) else (some (([] : List (S49)), false)))) else (none)) else (none))))))) r → Ev (fun k => spec_MigrateSave.l0 k v l cs (cs.length : Int) (i : Int)) r) →
  ∃ (m : List S49) (ok : Bool), Ev (fun k => impl_change.f k l F K N T B) (m, ok) ∧ _
 intro hgo
 clear hcr hc
 obtain ⟨p, hp, b, hpi, hb⟩ := place_impl l (by omega) hr N
 by_cases hT : There l N.toList p
 ·have hps := place_spec l (by omega) hr N p hp hT
  obtain rfl : b = true := hb.2 hT
  have hpl : p < l.length := hT.1
  have hat := sound_at hs p hpl
  by_cases hK5 : K = 5
  ·refine ⟨l, true, Ev.bind hpi (ev_pos hK5 (ev_pos rfl (ev_some rfl))), fun _ => ⟨hr, hs, hl, fun r hn => ?_⟩, (fun h => by cases h)⟩
   exact hgo r (Ev.bind hps (ev_pos hK5 (ev_neg (by omega) (ev_neg (by omega) hn))))
  ·by_cases hK1 : K = 1
   ·obtain ⟨p2, hp2, b2, hpi2, hb2⟩ := place_impl l (by omega) hr T
    by_cases hT2 : There l T.toList p2
    ·obtain rfl : b2 = true := hb2.2 hT2
     have hps2 := place_spec l (by omega) hr T p2 hp2 hT2
     refine ⟨[], false, Ev.bind hpi (ev_neg hK5 (ev_pos rfl (ev_pos hK1 (ev_pos (by omega) (ev_pos (by omega) (Ev.bind hpi2 (ev_pos rfl (ev_some rfl)))))))), (fun h => by cases h), fun _ => ?_⟩
     exact hgo _ (Ev.bind hps (ev_neg hK5 (ev_neg (by omega) (ev_pos hK1 (Ev.bind hps2 (ev_pos (by omega) (ev_some rfl)))))))
    ·obtain rfl : b2 = false := by cases b2 with | false => rfl | true => exact absurd (hb2.1 rfl) hT2
     have hps2 := place_none l (by omega) hr T p2 hp2 hT2
     have hel : (l.eraseIdx p).length = l.length - 1 := List.length_eraseIdx_of_lt hpl
     have hre := rises_erase hr p
     have hse := sound_erase hs p
     obtain ⟨p3, hp3, b3, hpi3, hb3⟩ := place_impl (l.eraseIdx p) (by omega) hre T
     have hT3 := (none_near hr hp2 hT2 p).2 p3
     have hlen := ins_len (l.eraseIdx p) p3 ⟨T, (rd_T49 l (p : Int)).f1, (rd_T49 l (p : Int)).f2⟩
     refine ⟨ins (l.eraseIdx p) p3 ⟨T, (rd_T49 l (p : Int)).f1, (rd_T49 l (p : Int)).f2⟩, true, Ev.bind hpi (ev_neg hK5 (ev_pos rfl (ev_pos hK1 (ev_pos (by omega) (ev_pos (by omega) (Ev.bind hpi2 (ev_neg (by simp) (ev_bindc (delete_impl l (by omega) p hpl) (Ev.bind hpi3 (ev_bindc (insert_impl _ (by omega) p3 hp3.1 _) (ev_some rfl))))))))))), fun _ => ⟨rises_ins hre _ p3 hp3 hT3, sound_ins hse p3 _ ⟨⟨hF2, hat.1.2⟩, hat.2⟩, by omega, fun r hn => ?_⟩, (fun h => by cases h)⟩
     exact hgo r (Ev.bind hps (ev_neg hK5 (ev_neg (by omega) (ev_pos hK1 (Ev.bind hps2 (ev_neg (by decide) (ev_pos (by omega) (ev_pos (by omega) (ev_bindc (drop_spec l (by omega) p hpl) (Ev.bind (put_spec (l.eraseIdx p) (by omega) ⟨T, (rd_T49 l (p : Int)).f1, (rd_T49 l (p : Int)).f2⟩ p3 hp3) hn))))))))))
   ·by_cases hK4 : K = 4
    ·have hel : (l.eraseIdx p).length = l.length - 1 := List.length_eraseIdx_of_lt hpl
     refine ⟨l.eraseIdx p, true, Ev.bind hpi (ev_neg hK5 (ev_pos rfl (ev_neg hK1 (ev_pos hK4 (ev_bindc (delete_impl l (by omega) p hpl) (ev_some rfl)))))), fun _ => ⟨rises_erase hr p, sound_erase hs p, by omega, fun r hn => ?_⟩, (fun h => by cases h)⟩
     exact hgo r (Ev.bind hps (ev_neg hK5 (ev_neg (by omega) (ev_neg hK1 (ev_pos hK4 (ev_bindc (drop_spec l (by omega) p hpl) hn))))))
    ·obtain ⟨m, m', ok, ht, hi', hok⟩ := turn_same F K N T B (rd_T49 l (p : Int)).f1 (by omega) hB hat.2
     refine ⟨l.set p ⟨(rd_T49 l (p : Int)).f0, m', (rd_T49 l (p : Int)).f2⟩, ok, Ev.bind hpi (ev_neg hK5 (ev_pos rfl (ev_neg hK1 (ev_neg hK4 (ev_pos (by omega) (ev_pos (by omega) (Ev.bind hi' (ev_some rfl)))))))), fun h => ?_, fun h => ?_⟩
     ·obtain ⟨rfl, hm⟩ := hok h
      subst h
      refine ⟨rises_set hr p hpl _, sound_set hs p _ ⟨hat.1, hm⟩, by rw [List.length_set]; exact hl, fun r hn => ?_⟩
      exact hgo r (Ev.bind hps (ev_neg hK5 (ev_neg (by omega) (ev_neg hK1 (ev_neg hK4 (ev_pos (by omega) (ev_pos (by omega) (ev_bindc ht (ev_pos rfl hn)))))))))
     ·subst h
      exact hgo _ (Ev.bind hps (ev_neg hK5 (ev_neg (by omega) (ev_neg hK1 (ev_neg hK4 (ev_pos (by omega) (ev_pos (by omega) (ev_bindc ht (ev_neg (by simp) (ev_some rfl))))))))))
 ·have hps := place_none l (by omega) hr N p hp hT
  obtain rfl : b = false := by cases b with | false => rfl | true => exact absurd (hb.1 rfl) hT
  by_cases hK5 : K = 5
  ·have hlen := ins_len l p ⟨N, B, ⟨#[]⟩⟩
   have hput := put_spec l (by omega) ⟨N, B, ⟨#[]⟩⟩ p hp
   refine ⟨ins l p ⟨N, B, ⟨#[]⟩⟩, decide ((l.length : Int) < 30), Ev.bind hpi (ev_pos hK5 (ev_neg (by simp) (ev_bindc (insert_impl l (by omega) p hp.1 _) (ev_some rfl)))), fun h => ?_, fun h => ?_⟩
   ·have h := of_decide_eq_true h
    refine ⟨rises_ins hr _ p hp hT, sound_ins hs p _ ⟨⟨hF1, by show (0 : Nat) ≤ _; omega⟩, ⟨by show -9223372036854775808 ≤ B; omega, by show B ≤ 9223372036854775807; omega⟩⟩, by omega, fun r hn => ?_⟩
    exact hgo r (Ev.bind hps (ev_pos hK5 (ev_pos (by decide) (Ev.bind hput (ev_neg (by omega) hn)))))
   ·have h := of_decide_eq_false h
    exact hgo _ (Ev.bind hps (ev_pos hK5 (ev_pos (by decide) (Ev.bind hput (ev_pos (by omega) (ev_some rfl))))))
  ·refine ⟨l, true, Ev.bind hpi (ev_neg hK5 (ev_neg (by simp) (ev_some rfl))), fun _ => ⟨hr, hs, hl, fun r hn => ?_⟩, (fun h => by cases h)⟩
   exact hgo r (Ev.bind hps (ev_neg hK5 (ev_pos (by decide) hn)))
theorem run_same (v : Int) (cs : List S45) (hcs : ChangesOk cs) (hfit : ∀ y ∈ cs, Fit45 y) : ∀ (d i : Nat) (l : List S49), cs.length - i = d → i ≤ cs.length → Rises l → Sound l → l.length ≤ 30 →
  ∃ (m : List S49) (ok : Bool), Ev (fun k => spec_MigrateSave.l0 k v l cs (cs.length : Int) (i : Int)) (m, ok) ∧ Ev (fun k => impl_MigrateSave.l0 k v l cs (cs.length : Int) (i : Int)) (m, ok) ∧ Sound m ∧ m.length ≤ 30 := by
 have hl30 := hcs.1
 intro d
 induction d with
 | zero =>
  intro i l hd hi hr hs hl
  obtain rfl : i = cs.length := by omega
  exact ⟨l, true, st_spec_MigrateSave_l0 (ev_neg (by omega) (ev_some rfl)), st_impl_MigrateSave_l0 (ev_neg (by omega) (ev_some rfl)), hs, hl⟩
 | succ d ih =>
  intro i l hd hi hr hs hl
  have hlt : i < cs.length := by omega
  by_cases hv : (rd_T45 cs (i : Int)).f0 < v
  ·obtain ⟨m, ok, h1, h2, h3⟩ := ih (i + 1) l (by omega) (by omega) hr hs hl
   refine ⟨m, ok, st_spec_MigrateSave_l0 (ev_pos (by omega) (ev_pos (by omega) (ev_pos (by omega) (ev_pos hv ?_)))), st_impl_MigrateSave_l0 (ev_pos (by omega) (ev_pos (by omega) (ev_pos (by omega) (ev_pos hv ?_)))), h3⟩
   ·rw [w64s i (by omega)]; exact h1
   ·rw [w64s i (by omega)]; exact h2
  ·obtain ⟨l', ok, hi', hyes, hno⟩ := step v l hr hs hl cs hl30 hfit i hlt (hcs.2 i hlt) hv
   cases ok with
   | false =>
    exact ⟨[], false, hno rfl, st_impl_MigrateSave_l0 (ev_pos (by omega) (ev_pos (by omega) (ev_pos (by omega) (ev_neg hv (Ev.bind hi' (ev_neg (by simp) (ev_some rfl))))))), (fun y hy => by cases hy), by simp⟩
   | true =>
    obtain ⟨g1, g2, g3, g4⟩ := hyes rfl
    obtain ⟨m, ok, h1, h2, h3⟩ := ih (i + 1) l' (by omega) (by omega) g1 g2 g3
    refine ⟨m, ok, g4 _ ?_, st_impl_MigrateSave_l0 (ev_pos (by omega) (ev_pos (by omega) (ev_pos (by omega) (ev_neg hv (Ev.bind hi' (ev_pos rfl ?_)))))), h3⟩
    ·rw [w64s i (by omega)]; exact h1
    ·rw [w64s i (by omega)]; exact h2
theorem rises_of {l : List S49} (h : ∀ i, i < l.length → ValueOk l i) : Rises l := by
 have key : ∀ j i : Nat, i < j → j < l.length → Op.bytesLess (nameAt l i) (nameAt l j) = true := by
  intro j
  induction j with
  | zero => intro i hi _; omega
  | succ j ih =>
   intro i hi hj
   have h1 := (h (j + 1) hj).2.2 (by omega)
   rw [show ((j + 1 : Nat) : Int) - 1 = (j : Int) by omega] at h1
   rcases Nat.lt_or_ge i j with h2 | h2
   ·exact less_trans _ _ _ (ih i h2 (by omega)) h1
   ·obtain rfl : i = j := by omega
    exact h1
 unfold Rises
 rw [List.pairwise_iff_getElem]
 intro i j hi hj hij
 simp only [List.length_map] at hi hj
 have := key j i hij hj
 unfold nameAt at this
 rw [rd_value hi, rd_value hj] at this
 simpa using this
theorem migrate_same (v : Int) (l : List S49) (hx : l.length ≤ 1048576 ∧ ∀ y ∈ l, Fit49 y) (hs : Sound l) (cs : List S45) (hy : cs.length ≤ 1048576 ∧ ∀ y ∈ cs, Fit45 y) :
  ∃ (m : List S49) (ok : Bool), Ev (fun k => spec_MigrateSave.f k v l cs) (m, ok) ∧ Ev (fun k => impl_MigrateSave.f k v l cs) (m, ok) ∧ Sound m ∧ m.length ≤ 30 := by
 have no : ∀ (P : ([] : List S49).length ≤ 30), Sound ([] : List S49) ∧ ([] : List S49).length ≤ 30 := fun P => ⟨(fun y hy => by cases hy), P⟩
 by_cases hv : 1 ≤ v ∧ v ≤ 3
 ·obtain ⟨g, gs, gi, hg⟩ := values_same l hx
  cases g with
  | false => exact ⟨[], false, ev_bindc (in_some _ _ _) (ev_pos (decide_eq_true hv) (Ev.bind gs (ev_neg (by decide) (st_spec_MigrateSave_j0 (ev_pos rfl (ev_some rfl)))))), ev_bindc (inr_some _ _ _) (ev_pos (decide_eq_true hv) (Ev.bind gi (ev_neg (by decide) (st_impl_MigrateSave_j0 (ev_pos rfl (ev_some rfl)))))), no (by simp)⟩
  | true =>
   have hok := hg.1 rfl
   obtain ⟨c, cg, ci, hc⟩ := changes_same cs hy
   cases c with
   | false => exact ⟨[], false, ev_bindc (in_some _ _ _) (ev_pos (decide_eq_true hv) (Ev.bind gs (ev_pos rfl (Ev.bind cg (st_spec_MigrateSave_j0 (ev_pos rfl (ev_some rfl))))))), ev_bindc (inr_some _ _ _) (ev_pos (decide_eq_true hv) (Ev.bind gi (ev_pos rfl (Ev.bind ci (st_impl_MigrateSave_j0 (ev_pos rfl (ev_some rfl))))))), no (by simp)⟩
   | true =>
    have hl := hok.1
    obtain ⟨m, ok, h1, h2, h3⟩ := run_same v cs (hc.1 rfl) hy.2 cs.length 0 l (by omega) (by omega) (rises_of hok.2) hs hl
    have c1 : impl_Value_43.f l = some l := if_pos (by omega)
    refine ⟨m, ok, ev_bindc (in_some _ _ _) (ev_pos (decide_eq_true hv) (Ev.bind gs (ev_pos rfl (Ev.bind cg (st_spec_MigrateSave_j0 (ev_neg (by decide) (ev_bindc rfl (ev_pos (by simp only [List.length_nil]; omega) h1)))))))), ev_bindc (inr_some _ _ _) (ev_pos (decide_eq_true hv) (Ev.bind gi (ev_pos rfl (Ev.bind ci (st_impl_MigrateSave_j0 (ev_neg (by decide) (ev_bindc c1 h2))))))), h3⟩
 ·exact ⟨[], false, ev_bindc (in_some _ _ _) (ev_neg (by simpa using hv) (st_spec_MigrateSave_j0 (ev_pos rfl (ev_some rfl)))), ev_bindc (inr_some _ _ _) (ev_neg (by simpa using hv) (st_impl_MigrateSave_j0 (ev_pos rfl (ev_some rfl)))), no (by simp)⟩
theorem xor_nat (k : IntKind) (j : Nat) (hj : j ≤ k.bits) (hk : ∀ n : Int, 0 ≤ n → n < 2 ^ j → k.wrap n = n) (a b : Nat) (ha : a < 2 ^ j) (hb : b < 2 ^ j) : Go.bits .xor k a b = ((a ^^^ b : Nat) : Int) := by
 have hp : 2 ^ j ≤ 2 ^ k.bits := Nat.pow_le_pow_right (by decide) hj
 have ha' : a % 2 ^ k.bits = a := Nat.mod_eq_of_lt (Nat.lt_of_lt_of_le ha hp)
 have hb' : b % 2 ^ k.bits = b := Nat.mod_eq_of_lt (Nat.lt_of_lt_of_le hb hp)
 simp only [Go.bits, BitVec.ofInt_natCast, BitVec.toNat_xor, BitVec.toNat_ofNat, ha', hb']
 exact hk _ (Int.natCast_nonneg _) (by exact_mod_cast Nat.xor_lt_two_pow ha hb)
theorem wraps_u32 (n : Int) (h0 : 0 ≤ n) (h1 : n < 2 ^ 32) : IntKind.u32.wrap n = n := by rw [IntKind.wrap_u32]; omega
theorem wraps_u64 (n : Int) (h0 : 0 ≤ n) (h1 : n < 2 ^ 32) : IntKind.u64.wrap n = n := wrap_u64 h0 (by omega)
def digestStep (s b : Int) : Int := (((s.toNat ^^^ b.toNat : Nat) : Int) * 16777619) % 4294967296
theorem step_range (s b : Int) : 0 ≤ digestStep s b ∧ digestStep s b < 4294967296 := by unfold digestStep; omega
theorem xor_lt (s b : Int) (h0 : 0 ≤ s) (h1 : s < 4294967296) (g0 : 0 ≤ b) (g1 : b < 256) : 0 ≤ ((s.toNat ^^^ b.toNat : Nat) : Int) ∧ ((s.toNat ^^^ b.toNat : Nat) : Int) < 4294967296 := by
 have := Nat.xor_lt_two_pow (n := 32) (show s.toNat < 2 ^ 32 by omega) (show b.toNat < 2 ^ 32 by omega)
 omega
theorem step_impl (s b : Int) (h0 : 0 ≤ s) (h1 : s < 4294967296) (g0 : 0 ≤ b) (g1 : b < 256) : ((Go.bits .xor .u32 s (b % 4294967296)) * 16777619) % 4294967296 = digestStep s b := by
 have e := xor_nat .u32 32 (by decide) wraps_u32 s.toNat b.toNat (by omega) (by omega)
 rw [Int.toNat_of_nonneg h0, Int.toNat_of_nonneg g0] at e
 rw [show b % 4294967296 = b by omega, e]
 rfl
theorem step_spec (s b : Int) (h0 : 0 ≤ s) (h1 : s < 4294967296) (g0 : 0 ≤ b) (g1 : b < 256) : Int.tmod (IntKind.u64.wrap ((Go.bits .xor .u64 s (IntKind.u64.wrap b)) * 16777619)) 4294967296 = digestStep s b := by
 have e := xor_nat .u64 32 (by decide) wraps_u64 s.toNat b.toNat (by omega) (by omega)
 rw [Int.toNat_of_nonneg h0, Int.toNat_of_nonneg g0] at e
 obtain ⟨x0, x1⟩ := xor_lt s b h0 h1 g0 g1
 rw [wrap_u64 g0 (by omega), e, wrap_u64 (by omega) (by omega), Int.tmod_eq_emod_of_nonneg (by omega)]
 rfl
theorem digest_impl (l : List Int) (hl : l.length ≤ 1048576) (hb : ∀ x ∈ l, 0 ≤ x ∧ x < 256) : Ev (fun k => impl_digest.f k l) (l.foldl digestStep 2166136261) := by
 refine ev_for1 l.length (fun k i (v : Int) => impl_digest.l0 k v l (l.length : Int) (i : Int)) (fun i v => v = (l.take i).foldl digestStep 2166136261 ∧ 0 ≤ v ∧ v < 4294967296) _ ?_ ?_ 0 2166136261 (Nat.zero_le _) ⟨rfl, by omega, by omega⟩
 ·rintro v ⟨rfl, _, _⟩
  exact Ev.step (fun _ => rfl) (ev_neg (by omega) (ev_some (by rw [List.take_length])))
 ·rintro i v hi ⟨hv, v0, v1⟩
  obtain ⟨b0, b1⟩ := hb _ (List.getElem_mem hi)
  obtain ⟨s0, s1⟩ := step_range v l[i]
  refine .inr ⟨digestStep v l[i], ⟨by rw [List.take_succ_eq_append_getElem hi, List.foldl_append, ← hv]; rfl, s0, s1⟩, fun r hr => Ev.step (fun _ => rfl) (ev_pos (by omega) (ev_pos (by omega) (ev_pos (by omega) ?_)))⟩
  rw [w64s i (by omega), rd_get hi, step_impl v l[i] v0 v1 b0 b1]
  exact hr
theorem digest_spec (l : List Int) (hl : l.length ≤ 1048576) (hb : ∀ x ∈ l, 0 ≤ x ∧ x < 256) : Ev (fun k => spec_l21Digest.f k l) (l.foldl digestStep 2166136261) := by
 refine ev_for1 l.length (fun k i (v : Int) => spec_l21Digest.l0 k v l (l.length : Int) (i : Int)) (fun i v => v = (l.take i).foldl digestStep 2166136261 ∧ 0 ≤ v ∧ v < 4294967296) _ ?_ ?_ 0 2166136261 (Nat.zero_le _) ⟨rfl, by omega, by omega⟩
 ·rintro v ⟨rfl, v0, v1⟩
  rw [List.take_length] at v0 v1
  exact Ev.step (fun _ => rfl) (ev_neg (by omega) (ev_some (by rw [List.take_length]; omega)))
 ·rintro i v hi ⟨hv, v0, v1⟩
  obtain ⟨b0, b1⟩ := hb _ (List.getElem_mem hi)
  obtain ⟨s0, s1⟩ := step_range v l[i]
  refine .inr ⟨digestStep v l[i], ⟨by rw [List.take_succ_eq_append_getElem hi, List.foldl_append, ← hv]; rfl, s0, s1⟩, fun r hr => Ev.step (fun _ => rfl) (ev_pos (by omega) (ev_pos (by omega) (ev_pos (by omega) ?_)))⟩
  rw [w64s i (by omega), rd_get hi, step_spec v l[i] v0 v1 b0 b1]
  exact hr
def Bs (l : List Int) : Prop := ∀ x ∈ l, 0 ≤ x ∧ x < 256
theorem bs_take {l : List Int} (h : Bs l) (n : Nat) : Bs (l.take n) := fun x hx => h x (List.mem_of_mem_take hx)
theorem bs_drop {l : List Int} (h : Bs l) (n : Nat) : Bs (l.drop n) := fun x hx => h x (List.mem_of_mem_drop hx)
theorem bs_zeros (n : Nat) : Bs (List.replicate n 0) := fun x hx => by
 obtain rfl := List.eq_of_mem_replicate hx
 omega
theorem bs_rd {l : List Int} (h : Bs l) (i : Int) : 0 ≤ rd l i ∧ rd l i < 256 := by
 unfold rd
 rw [List.getD_eq_getElem?_getD]
 rcases Nat.lt_or_ge i.toNat l.length with hl | hl
 ·rw [List.getElem?_eq_getElem hl]
  exact h _ (List.getElem_mem hl)
 ·rw [List.getElem?_eq_none hl]
  exact ⟨by decide, by decide⟩
theorem take_bs (l : List Int) (s : Bool) (n : Nat) (h : Bs l) : Bs (impl_take.f l s n).1 ∧ Bs (impl_take.f l s n).2.2 := by
 unfold impl_take.f; split
 ·exact ⟨h, bs_zeros n⟩
 ·exact ⟨bs_drop h n, bs_take h n⟩
theorem take_short (l : List Int) (n : Nat) : (impl_take.f l true n).2.1 = true := by
 unfold impl_take.f; split <;> rfl
theorem text_eq (l : List Int) (s : Bool) (h : Bs l) : impl_text.f l s = some ((impl_take.f (impl_take.f l s 1).1 (impl_take.f l s 1).2.1 (rd (impl_take.f l s 1).2.2 0).toNat).1, (impl_take.f (impl_take.f l s 1).1 (impl_take.f l s 1).2.1 (rd (impl_take.f l s 1).2.2 0).toNat).2.1, strOfNums (impl_take.f (impl_take.f l s 1).1 (impl_take.f l s 1).2.1 (rd (impl_take.f l s 1).2.2 0).toNat).2.2) := by
 unfold impl_text.f
 rw [if_pos (bs_rd (take_bs l s 1 h).2 0)]
theorem text_some (l : List Int) (s : Bool) (h : Bs l) : ∃ l2 s2 t, impl_text.f l s = some (l2, s2, t) ∧ Bs l2 ∧ (s = true → s2 = true) := by
 refine ⟨_, _, _, text_eq l s h, (take_bs _ _ _ (take_bs l s 1 h).1).1, fun hs => ?_⟩
 rw [hs, take_short, take_short]
theorem spec_short (l : List Int) (p n : Nat) : spec_take.f l p true n = (p, true, []) := by
 unfold spec_take.f; rw [if_pos (.inl rfl)]
theorem byte_short (l : List Int) (p : Nat) : spec_byte.f l p true = some (p, true, 0) := by
 unfold spec_byte.f; rw [spec_short]; rfl
theorem take_rel (b : List Int) (p n : Nat) (hp : p ≤ b.length) :
  (b.length < p + n ∧ impl_take.f (b.drop p) false n = (b.drop p, true, List.replicate n 0) ∧ spec_take.f b p false n = (p, true, [])) ∨
  (p + n ≤ b.length ∧ impl_take.f (b.drop p) false n = (b.drop (p + n), false, (b.drop p).take n) ∧ spec_take.f b p false n = (p + n, false, (b.drop p).take n)) := by
 unfold impl_take.f spec_take.f
 rw [List.length_drop]
 rcases Nat.lt_or_ge b.length (p + n) with h | h
 ·exact .inl ⟨h, by rw [if_pos (by omega)], by rw [if_pos (.inr h)]⟩
 ·refine .inr ⟨h, ?_, ?_⟩
  ·rw [if_neg (by omega), List.drop_drop]
  ·rw [if_neg (fun h2 => h2.elim (fun h3 => by cases h3) (fun h3 => by omega)), List.drop_take, show p + n - p = n by omega]
theorem text_rel (b : List Int) (hB : Bs b) (p : Nat) (hp : p ≤ b.length) :
  ∃ a1 a2 a3 l2 s2 t, spec_byte.f b p false = some (a1, a2, a3) ∧ impl_text.f (b.drop p) false = some (l2, s2, t) ∧ (spec_take.f b a1 a2 a3).2.1 = s2 ∧ Bs l2 ∧
   (s2 = false → l2 = b.drop (spec_take.f b a1 a2 a3).1 ∧ t = strOfNums (spec_take.f b a1 a2 a3).2.2 ∧ (spec_take.f b a1 a2 a3).1 ≤ b.length ∧ t.size ≤ 255) := by
 have ht := text_eq (b.drop p) false (bs_drop hB p)
 have hbs := (take_bs _ (impl_take.f (b.drop p) false 1).2.1 (rd (impl_take.f (b.drop p) false 1).2.2 0).toNat (take_bs (b.drop p) false 1 (bs_drop hB p)).1).1
 rcases take_rel b p 1 hp with ⟨h1, h2, h3⟩ | ⟨h1, h2, h3⟩
 ·have hb : spec_byte.f b p false = some (p, true, 0) := by unfold spec_byte.f; rw [h3]; rfl
  refine ⟨p, true, 0, _, _, _, hb, ht, ?_, hbs, fun hs => ?_⟩
  ·rw [h2, spec_short, take_short]
  ·rw [h2, take_short] at hs; cases hs
 ·have hr : 0 ≤ rd ((b.drop p).take 1) 0 ∧ rd ((b.drop p).take 1) 0 < 256 := bs_rd (bs_take (bs_drop hB p) 1) 0
  have hne : ¬ (b.drop p).take 1 = [] := fun e => by
   have := congrArg List.length e
   rw [List.length_take, List.length_drop] at this
   simp at this; omega
  have hb : spec_byte.f b p false = some (p + 1, false, (rd ((b.drop p).take 1) 0).toNat) := by
   unfold spec_byte.f
   rw [h3]
   simp only
   rw [if_neg hne, if_pos hr]
  refine ⟨_, _, _, _, _, _, hb, ht, ?_, hbs, fun hs => ?_⟩
  ·rw [h2]
   simp only
   rcases take_rel b (p + 1) (rd ((b.drop p).take 1) 0).toNat h1 with ⟨g1, g2, g3⟩ | ⟨g1, g2, g3⟩
   ·rw [g2, g3]
   ·rw [g2, g3]
  ·rw [h2] at hs ⊢
   simp only at hs ⊢
   rcases take_rel b (p + 1) (rd ((b.drop p).take 1) 0).toNat h1 with ⟨g1, g2, g3⟩ | ⟨g1, g2, g3⟩
   ·rw [g2] at hs; cases hs
   ·rw [g2, g3]
    refine ⟨rfl, rfl, g1, ?_⟩
    rw [strOfNums_size, List.length_take]
    omega
theorem num_rel : ∀ (o : List Int) (j : Nat) (u : Int), Bs o → j + o.length ≤ 8 → 0 ≤ u → u < 2 ^ (8 * j) → impl_num j u o = spec_num j u o
 | [], _, _, _, _, _, _ => rfl
 | c :: r, j, u, hb, hl, h0, h1 => by
  have hc := hb c (List.mem_cons_self ..)
  rw [List.length_cons] at hl
  have hj : j ≤ 7 := by omega
  obtain ⟨a, ha⟩ := Int.eq_ofNat_of_zero_le hc.1
  obtain ⟨v, hv⟩ := Int.eq_ofNat_of_zero_le h0
  subst ha; subst hv
  obtain ⟨M, hM⟩ : ∃ M, M = 2 ^ (8 * j) := ⟨_, rfl⟩
  have hMi : ((2 : Int) ^ (8 * j)) = ((M : Nat) : Int) := by rw [hM, Int.natCast_pow]; rfl
  have hvM : v < M := by rw [hMi] at h1; omega
  have ha2 : a < 256 := by omega
  have hM56 : M ≤ 72057594037927936 := by
   rw [hM]
   exact Nat.le_trans (Nat.pow_le_pow_right (by decide) (show 8 * j ≤ 56 by omega)) (by decide)
  have hprod : a * M ≤ 255 * M := Nat.mul_le_mul_right M (by omega)
  have hM256 : (2 : Int) ^ (8 * (j + 1)) = ((256 * M : Nat) : Int) := by
   have e8 : (2 : Int) ^ 8 = 256 := by decide
   rw [show 8 * (j + 1) = 8 * j + 8 by omega, Int.pow_add, hMi, e8, Int.natCast_mul]
   omega
  have e1 : IntKind.u64.wrap ((a : Nat) : Int) = ((a : Nat) : Int) := uw a (by omega)
  have e2 : IntKind.u64.wrap (((a : Nat) : Int) * 2 ^ (8 * j)) = ((a * M : Nat) : Int) := by
   rw [hMi, ← Int.natCast_mul]; exact uw _ (by omega)
  have e3 : Go.bits .or .u64 ((v : Nat) : Int) ((a * M : Nat) : Int) = ((v + a * M : Nat) : Int) := or_gen v (a * M) (by rw [Nat.or_comm, or_nat a v (8 * j) M hM.symm hvM]; omega) (by omega)
  have e4 : IntKind.u64.wrap (((v : Nat) : Int) + ((a * M : Nat) : Int)) = ((v + a * M : Nat) : Int) := by
   rw [← Int.natCast_add]; exact uw _ (by omega)
  unfold impl_num spec_num
  rw [e1, e2, e3, e4]
  refine num_rel r (j + 1) _ (fun x hx => hb x (List.mem_cons_of_mem _ hx)) (by omega) (by omega) ?_
  rw [hM256]
  omega
theorem in64_wrap (n : Int) : In64 (wrap64 n) := by unfold In64 wrap64; omega
def ValFit (x : S49) : Prop := x.f0.size ≤ 255 ∧ x.f2.size ≤ 255 ∧ In64 x.f1
theorem go_rel (b : List Int) (hB : Bs b) : ∀ (n p : Nat) (d : List S49), p ≤ b.length → (∀ x ∈ d, ValFit x) →
  (∃ p2 d2, impl_ReadSave.go n (b.drop p) false d = some none ∧ spec_ReadSave.go b n p false d = some (p2, true, d2)) ∨
  (∃ p2 d2, impl_ReadSave.go n (b.drop p) false d = some (some (d2, b.drop p2)) ∧ spec_ReadSave.go b n p false d = some (p2, false, d2) ∧ p2 ≤ b.length ∧ (∀ x ∈ d2, ValFit x) ∧ d2.length = d.length + n)
 | 0, p, d, hp, hd => .inr ⟨p, d, rfl, rfl, hp, hd, rfl⟩
 | n + 1, p, d, hp, hd => by
  have short : ∀ (q : Nat) (e : List S49), spec_ReadSave.go b n q true e = some (q, true, e) := fun q e => by
   cases n <;> rfl
  obtain ⟨a1, a2, a3, l1, s1, t1, ha, hi1, hs1, hb1, ok1⟩ := text_rel b hB p hp
  unfold impl_ReadSave.go spec_ReadSave.go
  rw [if_neg (by decide), ha, hi1, Option.bind_some, Option.bind_some]
  simp only
  obtain ⟨⟨p2, s2, o2⟩, h2⟩ : ∃ x, x = spec_take.f b a1 a2 a3 := ⟨_, rfl⟩
  rw [← h2] at hs1 ok1 ⊢
  simp only at hs1 ok1 ⊢
  subst hs1
  cases s2 with
  | true =>
   obtain ⟨l3, s3, t3, hi3, hb3, hs3⟩ := text_some (impl_take.f l1 true 8).1 (impl_take.f l1 true 8).2.1 (take_bs l1 true 8 hb1).1
   rw [hi3, spec_short, byte_short, Option.bind_some, Option.bind_some]
   simp only
   rw [spec_short, hs3 (take_short l1 8), if_pos rfl, short]
   exact .inl ⟨_, _, rfl, rfl⟩
  | false =>
   obtain ⟨rfl, rfl, hp2, hz1⟩ := ok1 rfl
   rcases take_rel b p2 8 hp2 with ⟨g1, g2, g3⟩ | ⟨g1, g2, g3⟩
   ·rw [g2, g3]
    simp only
    obtain ⟨l3, s3, t3, hi3, hb3, hs3⟩ := text_some (b.drop p2) true (bs_drop hB p2)
    rw [hi3, byte_short, Option.bind_some, Option.bind_some]
    simp only
    rw [spec_short, hs3 rfl, if_pos rfl, short]
    exact .inl ⟨_, _, rfl, rfl⟩
   ·rw [g2, g3]
    simp only
    obtain ⟨c1, c2, c3, l3, s3, t3, hc, hi3, hs3, hb3, ok3⟩ := text_rel b hB (p2 + 8) g1
    rw [hc, hi3, Option.bind_some, Option.bind_some]
    simp only
    obtain ⟨⟨p5, s5, o5⟩, h5⟩ : ∃ x, x = spec_take.f b c1 c2 c3 := ⟨_, rfl⟩
    rw [← h5] at hs3 ok3 ⊢
    simp only at hs3 ok3 ⊢
    subst hs3
    cases s5 with
    | true =>
     rw [if_pos rfl, short]
     exact .inl ⟨_, _, rfl, rfl⟩
    | false =>
     obtain ⟨rfl, rfl, hp5, hz3⟩ := ok3 rfl
     rw [if_neg (by decide)]
     have hnum := num_rel ((b.drop p2).take 8) 0 0 (bs_take (bs_drop hB p2) 8) (by rw [List.length_take]; omega) (by omega) (by decide)
     rw [hnum]
     have hd2 : ∀ x ∈ d ++ [(⟨strOfNums o2, wrap64 (spec_num 0 0 ((b.drop p2).take 8)), strOfNums o5⟩ : S49)], ValFit x := fun x hx => by
      rcases List.mem_append.1 hx with h | h
      ·exact hd x h
      ·obtain rfl := List.mem_singleton.1 h
       exact ⟨hz1, hz3, in64_wrap _⟩
     rcases go_rel b hB n p5 _ hp5 hd2 with h | ⟨p6, d6, k1, k2, k3, k4, k5⟩
     ·exact .inl h
     ·exact .inr ⟨p6, d6, k1, k2, k3, k4, by rw [k5, List.length_append]; simp; omega⟩
theorem mark_rel (l : List Int) (hB : Bs l) (hl : 4 ≤ l.length) : (strOfNums (l.take 4)).toList = [83, 65, 86, 69] ↔ (rd l 0 = 83 ∧ rd l 1 = 65 ∧ rd l 2 = 86 ∧ rd l 3 = 69) := by
 match l, hl with
 | a :: b :: c :: d :: r, _ =>
  have ha := hB a (by simp)
  have hb := hB b (by simp)
  have hc := hB c (by simp)
  have hd := hB d (by simp)
  have e : (strOfNums ((a :: b :: c :: d :: r).take 4)).toList = [UInt8.ofNat a.toNat, UInt8.ofNat b.toNat, UInt8.ofNat c.toNat, UInt8.ofNat d.toNat] := by
   rw [ByteArray.toList_eq]; rfl
  have one : ∀ (x : Int) (n : Nat), 0 ≤ x → x < 256 → n < 256 → (UInt8.ofNat x.toNat = UInt8.ofNat n ↔ x = (n : Int)) := fun x n h0 h1 h2 => by
   constructor
   ·intro h
    have := congrArg UInt8.toNat h
    simp at this
    omega
   ·intro h; subst h; rfl
  rw [e]
  have r0 : rd (a :: b :: c :: d :: r) 0 = a := rfl
  have r1 : rd (a :: b :: c :: d :: r) 1 = b := rfl
  have r2 : rd (a :: b :: c :: d :: r) 2 = c := rfl
  have r3 : rd (a :: b :: c :: d :: r) 3 = d := rfl
  rw [r0, r1, r2, r3]
  simp only [List.cons.injEq, and_true]
  rw [show (83 : UInt8) = UInt8.ofNat 83 from rfl, show (65 : UInt8) = UInt8.ofNat 65 from rfl, show (86 : UInt8) = UInt8.ofNat 86 from rfl, show (69 : UInt8) = UInt8.ofNat 69 from rfl, one a 83 ha.1 ha.2 (by decide), one b 65 hb.1 hb.2 (by decide), one c 86 hc.1 hc.2 (by decide), one d 69 hd.1 hd.2 (by decide)]
  rfl
def fourOf (d : Int) : List Int := [(d / 16777216) % 256, (d / 65536) % 256, (d / 256) % 256, d % 256]
theorem four_some (d : Int) : impl_four.f d = some (fourOf d) := rfl
theorem equal_ev (xs ys : List Int) (hx : xs.length ≤ 1048576) (b : Bool) (hb : b = true ↔ xs = ys) : Ev (fun k => slices_Equal_byte_byte.f k xs ys) b := by
 refine ev_ite (fun hl => ?_) fun hl => ev_some (bool_false hb (fun e => hl (by rw [e]))).symm
 have hl' : xs.length = ys.length := by omega
 refine ev_all xs.length (fun k i => slices_Equal_byte_byte.l0 k xs ys (xs.length : Int) (i : Int)) (fun i => rd xs (i : Int) = rd ys (i : Int)) true b ?_ ?_ ?_ ?_
 ·rw [hb]; constructor
  ·intro e; exact ⟨rfl, fun i _ => by rw [e]⟩
  ·rintro ⟨_, h⟩
   refine List.ext_getElem hl' fun i h1 h2 => ?_
   have := h i h1
   rwa [rd_get h1, rd_get h2] at this
 ·exact Ev.step (fun _ => rfl) (ev_neg (by omega) (ev_some rfl))
 ·intro i hi _ ho r hr
  refine Ev.step (fun _ => rfl) (ev_pos (by omega) (ev_pos (by omega) (ev_pos (by omega) (ev_pos (by omega) (ev_pos ho ?_)))))
  rw [w64s i (by omega)]
  exact hr
 ·intro i hi _ ho
  exact Ev.step (fun _ => rfl) (ev_pos (by omega) (ev_pos (by omega) (ev_pos (by omega) (ev_pos (by omega) (ev_neg ho (ev_some rfl))))))
theorem sum_rel (l : List Int) (d : Int) (hl : 4 ≤ l.length) : l.drop (l.length - 4) = fourOf d ↔ ∀ j : Nat, j < 4 → rd l (((l.length - 4 : Nat) : Int) + (j : Int)) = d / 2 ^ (24 - 8 * j) % 256 := by
 have hlen : (l.drop (l.length - 4)).length = 4 := by rw [List.length_drop]; omega
 have hg : ∀ j : Nat, rd l (((l.length - 4 : Nat) : Int) + (j : Int)) = rd (l.drop (l.length - 4)) (j : Int) := fun j => by
  rw [← Int.natCast_add, rd_nat, rd_nat, List.getD_eq_getElem?_getD, List.getD_eq_getElem?_getD, List.getElem?_drop]
 simp only [hg]
 generalize l.drop (l.length - 4) = q at hlen
 match q, hlen with
 | [a, b, c, e], _ =>
  constructor
  ·intro h j hj
   rw [h]
   have : j = 0 ∨ j = 1 ∨ j = 2 ∨ j = 3 := by omega
   rcases this with rfl | rfl | rfl | rfl
   ·rfl
   ·rfl
   ·rfl
   ·show d % 256 = d / 2 ^ 0 % 256
    rw [Int.pow_zero, Int.ediv_one]
  ·intro h
   have h0 : a = d / 16777216 % 256 := h 0 (by omega)
   have h1 : b = d / 65536 % 256 := h 1 (by omega)
   have h2 : c = d / 256 % 256 := h 2 (by omega)
   have h3 : e = d / 2 ^ 0 % 256 := h 3 (by omega)
   rw [Int.pow_zero, Int.ediv_one] at h3
   rw [h0, h1, h2, h3]; rfl
theorem save_same (l : List Int) (hB : Bs l) : ∃ r1 r2 r3, Ev (fun k => spec_ReadSave.f k l) (r1, r2, r3) ∧ Ev (fun k => impl_ReadSave.f k l) (r1, r2, r3) ∧ r2.length ≤ 1000 ∧ ∀ x ∈ r2, ValFit x := by
 unfold spec_ReadSave.f impl_ReadSave.f
 by_cases h1 : 4000 < l.length
 ·exact ⟨0, [], 5, ev_pos h1 (ev_some rfl), ev_pos h1 (ev_some rfl), by simp, fun x hx => by cases hx⟩
 by_cases h2 : l.length < 10
 ·exact ⟨0, [], 1, ev_neg h1 (ev_pos h2 (ev_some rfl)), ev_neg h1 (ev_pos h2 (ev_some rfl)), by simp, fun x hx => by cases hx⟩
 have hm := mark_rel l hB (by omega)
 by_cases h3 : rd l 0 = 83 ∧ rd l 1 = 65 ∧ rd l 2 = 86 ∧ rd l 3 = 69
 case neg => exact ⟨0, [], 2, ev_neg h1 (ev_neg h2 (ev_pos h3 (ev_some rfl))), ev_neg h1 (ev_neg h2 (ev_pos (fun e => h3 (hm.1 e)) (ev_some rfl))), by simp, fun x hx => by cases hx⟩
 have h3' := Classical.not_not.mpr h3
 have h3i := Classical.not_not.mpr (hm.2 h3)
 obtain ⟨b, hb⟩ : ∃ b, b = l.take (l.length - 4) := ⟨_, rfl⟩
 have hlb : b.length = l.length - 4 := by rw [hb, List.length_take]; omega
 have hBb : Bs b := by rw [hb]; exact bs_take hB _
 have ds := digest_spec b (by omega) hBb
 have di := digest_impl b (by omega) hBb
 obtain ⟨d, hd⟩ : ∃ d, d = b.foldl digestStep 2166136261 := ⟨_, rfl⟩
 rw [← hd] at ds di
 rw [← hb]
 have hsum := sum_rel l d (by omega)
 obtain ⟨e, he⟩ := bool_of (l.drop (l.length - 4) = fourOf d)
 have heq := equal_ev (l.drop (l.length - 4)) (fourOf d) (by rw [List.length_drop]; omega) e he
 have go : ∀ {r1 : Int} {r2 : List S49} {r3 : Int}, Ev (α := Int × List S49 × Int) (fun k => if e = false then some (0, [], 3) else if 0 ≤ rd l 5 ∧ rd l 5 < 256 ∧ 0 ≤ rd l 4 ∧ rd l 4 < 256 then (impl_ReadSave.go (rd l 5).toNat (b.drop 6) false []).bind fun z => match z with
   | none => some (0, [], 1)
   | some (vs, left) => (impl_inRange.f (rd l 4) 1 250).bind fun b => if b = true then (if 0 < left.length then some (0, [], 5) else (impl_GoodValues.f k vs).bind fun g => if g = true then some (rd l 4, vs, 0) else some (0, [], 5)) else some (0, [], 5) else none) (r1, r2, r3) → Ev (α := Int × List S49 × Int) (fun k => if 4000 < l.length then some (0, [], 5) else if l.length < 10 then some (0, [], 1) else if ¬ (strOfNums (l.take 4)).toList = [83, 65, 86, 69] then some (0, [], 2) else (impl_digest.f k b).bind fun dg => (impl_four.f dg).bind fun q => (slices_Equal_byte_byte.f k (l.drop (l.length - 4)) q).bind fun e => if e = false then some (0, [], 3) else if 0 ≤ rd l 5 ∧ rd l 5 < 256 ∧ 0 ≤ rd l 4 ∧ rd l 4 < 256 then (impl_ReadSave.go (rd l 5).toNat (b.drop 6) false []).bind fun z => match z with
   | none => some (0, [], 1)
   | some (vs, left) => (impl_inRange.f (rd l 4) 1 250).bind fun b => if b = true then (if 0 < left.length then some (0, [], 5) else (impl_GoodValues.f k vs).bind fun g => if g = true then some (rd l 4, vs, 0) else some (0, [], 5)) else some (0, [], 5) else none) (r1, r2, r3) := fun h => ev_neg h1 (ev_neg h2 (ev_neg h3i (Ev.bind di (ev_bindc (four_some d) (Ev.bind heq h)))))
 by_cases h4 : ∀ j : Nat, j < 4 → rd l (((l.length - 4 : Nat) : Int) + (j : Int)) = d / 2 ^ (24 - 8 * j) % 256
 case neg =>
  have hef : e = false := bool_false he (fun h => h4 (hsum.1 h))
  exact ⟨0, [], 3, ev_neg h1 (ev_neg h2 (ev_neg h3' (Ev.bind ds (ev_neg h4 (ev_some rfl))))), go (ev_pos hef (ev_some rfl)), by simp, fun x hx => by cases hx⟩
 have het : ¬ e = false := by rw [he.2 (hsum.2 h4)]; decide
 have hr5 := bs_rd hB 5
 have hr4 := bs_rd hB 4
 have hrd : ∀ i : Nat, i < b.length → rd b (i : Int) = rd l (i : Int) := fun i hi => by
  rw [rd_nat, rd_nat, hb, List.getD_eq_getElem?_getD, List.getD_eq_getElem?_getD, List.getElem?_take, if_pos (by omega)]
 have hbyte : ∀ p : Nat, p < b.length → spec_byte.f b p false = some (p + 1, false, (rd l (p : Int)).toNat) := fun p hp => by
  unfold spec_byte.f
  rcases take_rel b p 1 (by omega) with ⟨g1, _, _⟩ | ⟨g1, _, g3⟩
  ·omega
  ·rw [g3]
   simp only
   have hone : (b.drop p).take 1 = [rd l (p : Int)] := by
    rw [← hrd p hp, rd_get hp, List.drop_eq_getElem_cons hp]; rfl
   have e0 : rd [rd l (p : Int)] 0 = rd l (p : Int) := rfl
   rw [hone, if_neg (by simp), e0, if_pos (bs_rd hB _)]
 have hb4 := hbyte 4 (by omega)
 have hb5 := hbyte 5 (by omega)
 have hv4 : (((rd l 4).toNat : Nat) : Int) = rd l 4 := by omega
 rcases go_rel b hBb (rd l 5).toNat 6 [] (by omega) (fun x hx => by cases hx) with ⟨p2, d2, k1, k2⟩ | ⟨p2, d2, k1, k2, k3, k4, k5⟩
 ·refine ⟨0, [], 1, ev_neg h1 (ev_neg h2 (ev_neg h3' (Ev.bind ds (ev_pos h4 (ev_bindc hb4 (ev_bindc hb5 (ev_bindc k2 (ev_pos rfl (ev_some rfl))))))))), go (ev_neg het (ev_pos ⟨hr5.1, hr5.2, hr4.1, hr4.2⟩ (ev_bindc k1 (ev_some rfl)))), by simp, fun x hx => by cases hx⟩
 ·have hd2l : d2.length ≤ 1000 := by rw [k5]; simp; omega
  obtain ⟨g, gs, gi, gok⟩ := values_same d2 ⟨by omega, fun y hy => by have := k4 y hy; exact ⟨by have := this.1; omega, by have := this.2.1; omega⟩⟩
  have spec : ∀ {r1 : Int} {r2 : List S49} {r3 : Int}, Ev (α := Int × List S49 × Int) (fun k => (spec_l1In.f (((rd l 4).toNat : Nat) : Int) 1 250).bind fun q => if q = true then (if p2 < l.length - 4 then some (0, [], 5) else (spec_GoodValues.f k d2).bind fun g => if g = true then some ((((rd l 4).toNat : Nat) : Int), d2, 0) else some (0, [], 5)) else some (0, [], 5)) (r1, r2, r3) → Ev (fun k => spec_ReadSave.f k l) (r1, r2, r3) := fun h => by
   unfold spec_ReadSave.f
   rw [← hb]
   exact ev_neg h1 (ev_neg h2 (ev_neg h3' (Ev.bind ds (ev_pos h4 (ev_bindc hb4 (ev_bindc hb5 (ev_bindc k2 (ev_neg (fun h_ => by cases h_) h))))))))
  have impl : ∀ {r1 : Int} {r2 : List S49} {r3 : Int}, Ev (α := Int × List S49 × Int) (fun k => (impl_inRange.f (rd l 4) 1 250).bind fun q => if q = true then (if 0 < (b.drop p2).length then some (0, [], 5) else (impl_GoodValues.f k d2).bind fun g => if g = true then some (rd l 4, d2, 0) else some (0, [], 5)) else some (0, [], 5)) (r1, r2, r3) → _ := fun h => go (ev_neg het (ev_pos ⟨hr5.1, hr5.2, hr4.1, hr4.2⟩ (ev_bindc k1 h)))
  unfold spec_ReadSave.f at spec
  rw [← hb] at spec
  by_cases h5 : 1 ≤ rd l 4 ∧ rd l 4 ≤ 250
  case neg =>
   refine ⟨0, [], 5, spec (ev_bindc (in_some _ _ _) (ev_neg (by rw [hv4]; simpa using h5) (ev_some rfl))), impl (ev_bindc (inr_some _ _ _) (ev_neg (by simpa using h5) (ev_some rfl))), by simp, fun x hx => by cases hx⟩
  by_cases h6 : p2 < l.length - 4
  ·refine ⟨0, [], 5, spec (ev_bindc (in_some _ _ _) (ev_pos (by rw [hv4]; simpa using h5) (ev_pos h6 (ev_some rfl)))), impl (ev_bindc (inr_some _ _ _) (ev_pos (by simpa using h5) (ev_pos (by rw [List.length_drop]; omega) (ev_some rfl)))), by simp, fun x hx => by cases hx⟩
  cases g with
  | true => exact ⟨rd l 4, d2, 0, spec (ev_bindc (in_some _ _ _) (ev_pos (by rw [hv4]; simpa using h5) (ev_neg h6 (Ev.bind gs (ev_pos rfl (ev_some (by rw [hv4]))))))), impl (ev_bindc (inr_some _ _ _) (ev_pos (by simpa using h5) (ev_neg (by rw [List.length_drop]; omega) (Ev.bind gi (ev_pos rfl (ev_some rfl)))))), hd2l, k4⟩
  | false => exact ⟨0, [], 5, spec (ev_bindc (in_some _ _ _) (ev_pos (by rw [hv4]; simpa using h5) (ev_neg h6 (Ev.bind gs (ev_neg (by decide) (ev_some rfl)))))), impl (ev_bindc (inr_some _ _ _) (ev_pos (by simpa using h5) (ev_neg (by rw [List.length_drop]; omega) (Ev.bind gi (ev_neg (by decide) (ev_some rfl)))))), by simp, fun x hx => by cases hx⟩
theorem markText_l : ∀ (n : Nat) (a : Int) (t : ByteArray), a ≤ n → t.size + n ≤ 9223372036854775000 → n ≤ 4611686018427387904 → ∃ s, Ev (fun k => laws_markText.l0 k a t) s
 | 0, a, t, ha, ht, _ => ⟨_, Ev.step (fun _ => rfl) (ev_neg (by omega) (ev_pos (by omega) (ev_some rfl)))⟩
 | n + 1, a, t, ha, ht, hn => by
  by_cases h : a > 0
  ·have e1 : Int.tdiv a 10 = a / 10 := Int.tdiv_eq_ediv_of_nonneg (by omega)
   have e2 : wrap64 (Int.tdiv a 10) = a / 10 := by rw [e1]; exact w64 (by omega) (by omega)
   have hs : ∀ x : Int, (strOfNums [x]).size = 1 := fun x => by rw [strOfNums_size]; rfl
   obtain ⟨s, hs'⟩ := markText_l n (a / 10) (strOfNums [(wrap64 (48 + (Int.tmod a 10))) % 256] ++ t) (by omega) (by rw [ByteArray.size_append, hs]; omega) (by omega)
   refine ⟨s, Ev.step (fun _ => rfl) (ev_pos h (ev_bindc rfl (ev_pos (by rw [hs]; omega) ?_)))⟩
   rw [e2]
   exact hs'
  ·exact ⟨_, Ev.step (fun _ => rfl) (ev_neg h (ev_pos (by omega) (ev_some rfl)))⟩
theorem markText_ev (a : Int) (h1 : a ≤ 4611686018427387904) : ∃ s, Ev (fun k => laws_markText.f k a) s := by
 by_cases h : a ≤ 0
 ·exact ⟨_, ev_pos h (ev_some rfl)⟩
 ·obtain ⟨s, hs⟩ := markText_l a.toNat a (⟨#[]⟩ : ByteArray) (by omega) (by show (0 : Nat) + _ ≤ _; omega) (by omega)
  exact ⟨s, ev_neg h hs⟩
theorem rdset_v {xs : List S49} {i : Nat} (h : i < xs.length) (v : S49) : rd_T49 (xs.set i v) (i : Int) = v := by
 unfold rd_T49
 rw [getD_get (by simpa using h), List.getElem_set_self]
def MarkValueS (x : S49) (c d : Int) : Prop := Ev (fun k => laws_markText.f k c) x.f0 ∧ x.f1 = c + 1 ∧ Ev (fun k => laws_markText.f k (c + 2)) x.f2 ∧ d = c + 3
theorem markValueS_ev (xs : List S49) (hl : xs.length ≤ 1048576) (c : Int) (hc0 : 0 ≤ c) (hc1 : c ≤ 1152921504606846976) :
  ∃ ys d, Chain MarkValueS ys c d ∧ c ≤ d ∧ d ≤ c + 3 * xs.length ∧ ys.length = xs.length ∧ Ev (fun k => laws_markValueS.f k xs c) (d, ys) := by
 refine ev_mark (fun k zs c i => laws_markValueS.l0 k zs c (i : Int)) MarkValueS (fun _ => True) 3 (by omega) (by omega) ?_ ?_ xs (fun _ _ => trivial) hl c hc0 hc1
 ·intro zs c
  exact st_laws_markValueS_l0 (ev_neg (by omega) (ev_some rfl))
 ·intro zs c i hi h20 _ h0 h1
  obtain ⟨s1, hs1⟩ := markText_ev c (by omega)
  obtain ⟨s2, hs2⟩ := markText_ev (c + 2) (by omega)
  have e1 : wrap64 (c + 1) = c + 1 := w64 (by omega) (by omega)
  have e2 : wrap64 (c + 1 + 1) = c + 2 := by rw [show c + 1 + 1 = c + 2 by omega]; exact w64 (by omega) (by omega)
  have e3 : wrap64 (c + 2 + 1) = c + 3 := by rw [show c + 2 + 1 = c + 3 by omega]; exact w64 (by omega) (by omega)
  refine ⟨⟨s1, c + 1, s2⟩, c + 3, ⟨hs1, rfl, hs2, rfl⟩, by omega, by omega, fun r hr => st_laws_markValueS_l0 (ev_pos (by omega) (Ev.bind hs1 (ev_pos (by omega) (ev_bindc rfl (ev_bindc rfl ?_)))))⟩
  simp only [e1, e2, e3]
  refine Ev.bind hs2 ?_
  simp only [Int.toNat_natCast, rdset_v hi, List.set_set, w64s i (by omega)]
  exact hr
theorem heldValueS_ev (ys : List S49) (hl : ys.length ≤ 1048576) (c d : Int) (hc0 : 0 ≤ c) (hd : d ≤ 2305843009213693952) (h : Chain MarkValueS ys c d) : Ev (fun k => laws_heldValueS.f k ys c) d := by
 refine ev_held (fun k ys c i => laws_heldValueS.l0 k ys c (i : Int)) MarkValueS (fun x c d h => by have := h.2.2.2; omega) ?_ ?_ ys hl c d hc0 hd h
 ·intro ys c
  exact st_laws_heldValueS_l0 (ev_neg (by omega) (ev_some rfl))
 ·intro ys c c' i hi h20 hE h0 h1 r hr
  obtain ⟨hE1, hE2, hE3, rfl⟩ := hE
  have e1 : wrap64 (c + 1) = c + 1 := w64 (by omega) (by omega)
  have e2 : wrap64 (c + 1 + 1) = c + 2 := by rw [show c + 1 + 1 = c + 2 by omega]; exact w64 (by omega) (by omega)
  have e3 : wrap64 (c + 2 + 1) = c + 3 := by rw [show c + 2 + 1 = c + 3 by omega]; exact w64 (by omega) (by omega)
  have ex : rd_T49 ys (i : Int) = ys[i] := getD_get hi
  refine st_laws_heldValueS_l0 (ev_pos (by omega) (ev_pos (by omega) (Ev.bind hE1 (ev_pos (by rw [ex]) (ev_pos (by rw [ex, e1]; exact hE2) ?_)))))
  rw [e1, e2]
  refine Ev.bind hE3 (ev_pos (by rw [ex]) ?_)
  rw [e3, w64s i (by omega)]
  exact hr
theorem rdset_c {xs : List S45} {i : Nat} (h : i < xs.length) (v : S45) : rd_T45 (xs.set i v) (i : Int) = v := by
 unfold rd_T45
 rw [getD_get (by simpa using h), List.getElem_set_self]
theorem markChangeS_ev (xs : List S45) (hl : xs.length ≤ 1048576) (c : Int) (hc0 : 0 ≤ c) (hc1 : c ≤ 1152921504606846976) :
  ∃ ys d, (0 : Int) ≤ d ∧ Ev (fun k => laws_markChangeS.f k xs c) (d, ys) := by
 obtain ⟨ys, d, _, h0, _, _, h⟩ := ev_mark (fun k zs c i => laws_markChangeS.l0 k zs c (i : Int)) (fun _ _ _ => True) (fun _ => True) 5 (by omega) (by omega) (fun zs c => st_laws_markChangeS_l0 (ev_neg (by omega) (ev_some rfl))) (by
  intro zs c i hi h20 _ h0 h1
  obtain ⟨s1, hs1⟩ := markText_ev (c + 2) (by omega)
  obtain ⟨s2, hs2⟩ := markText_ev (c + 3) (by omega)
  have e1 : wrap64 (c + 1) = c + 1 := w64 (by omega) (by omega)
  have e2 : wrap64 (c + 1 + 1) = c + 2 := by rw [show c + 1 + 1 = c + 2 by omega]; exact w64 (by omega) (by omega)
  have e3 : wrap64 (c + 2 + 1) = c + 3 := by rw [show c + 2 + 1 = c + 3 by omega]; exact w64 (by omega) (by omega)
  have e4 : wrap64 (c + 3 + 1) = c + 4 := by rw [show c + 3 + 1 = c + 4 by omega]; exact w64 (by omega) (by omega)
  have e5 : wrap64 (c + 4 + 1) = c + 5 := by rw [show c + 4 + 1 = c + 5 by omega]; exact w64 (by omega) (by omega)
  refine ⟨⟨c, c + 1, s1, s2, c + 4⟩, c + 5, trivial, by omega, by omega, fun r hr => st_laws_markChangeS_l0 (ev_pos (by omega) (ev_pos (by omega) (ev_bindc rfl (ev_bindc rfl ?_))))⟩
  simp only [e1, e2, e3, e4, e5]
  refine Ev.bind hs1 (ev_bindc rfl (Ev.bind hs2 (ev_bindc rfl ?_)))
  simp only [Int.toNat_natCast, rdset_c hi, List.set_set, w64s i (by omega)]
  exact hr) xs (fun _ _ => trivial) hl c hc0 hc1
 exact ⟨ys, d, by omega, h⟩
theorem load_same (l : List Int) (hB : Bs l) (cs : List S45) (hy : cs.length ≤ 1048576 ∧ ∀ y ∈ cs, Fit45 y) :
  ∃ (m : List S49) (c : Int), Ev (fun k => spec_LoadSave.f k l cs) (m, c) ∧ Ev (fun k => impl_LoadSave.f k l cs) (m, c) ∧ (∀ y ∈ m, Fit49 y) ∧ m.length ≤ 30 := by
 obtain ⟨r1, r2, r3, hs, hi, h2, hf⟩ := save_same l hB
 by_cases h0 : r3 = 0
 case neg => exact ⟨[], r3, Ev.bind hs (ev_neg h0 (ev_some rfl)), Ev.bind hi (ev_neg h0 (ev_some rfl)), (fun y hy => by cases hy), by simp⟩
 by_cases h3 : r1 > 3
 ·exact ⟨[], 4, Ev.bind hs (ev_pos h0 (ev_pos h3 (ev_some rfl))), Ev.bind hi (ev_pos h0 (ev_pos h3 (ev_some rfl))), (fun y hy => by cases hy), by simp⟩
 have hfit : ∀ y ∈ r2, Fit49 y := fun y hy => by have := hf y hy; exact ⟨by have := this.1; omega, by have := this.2.1; omega⟩
 obtain ⟨m, t, hsp, him, hm1, hm2⟩ := migrate_same r1 r2 ⟨by omega, hfit⟩ (fun y hy => ⟨hfit y hy, (hf y hy).2.2⟩) cs hy
 cases t with
 | true => exact ⟨m, 0, Ev.bind hs (ev_pos h0 (ev_neg h3 (Ev.bind hsp (ev_pos rfl (ev_some rfl))))), Ev.bind hi (ev_pos h0 (ev_neg h3 (Ev.bind him (ev_pos rfl (ev_some rfl))))), fun y hy => (hm1 y hy).1, hm2⟩
 | false => exact ⟨[], 6, Ev.bind hs (ev_pos h0 (ev_neg h3 (Ev.bind hsp (ev_neg (fun h_ => by cases h_) (ev_some rfl))))), Ev.bind hi (ev_pos h0 (ev_neg h3 (Ev.bind him (ev_neg (fun h_ => by cases h_) (ev_some rfl))))), (fun y hy => by cases hy), by simp⟩
theorem FnExactLoadSave : ∀ (l0 : List (Int)) (l1 : List (S40)), (l0.length * 1 ≤ 140737488351232 ∧ ∀ y ∈ l0, InU8 y) → (l1.length * 56 ≤ 140737488351232 ∧ ∀ y ∈ l1, Ok40 y) → ∃ k, laws_FnExactLoadSave.f k l0 l1 = some true := by
 intro l cs gl gc
 refine Ev.rounds (g := fun k => laws_FnExactLoadSave.f k l cs) ?_
 refine ev_ite (fun _ => ev_some rfl) fun hol => ?_
 have hol : l.length ≤ 1048576 := by omega
 obtain ⟨r2, hr2, h | ⟨g0, g1, hy⟩⟩ := szChangeS_some cs gc 1048576 (by omega) (by omega)
 ·exact Ev.bind hr2 (ev_pos h (ev_some rfl))
 ·have tb := toByteS_ev l hol
  have ty := toChangeS_ev cs hy
  have hy' : (cs.map cv40).length ≤ 1048576 ∧ ∀ y ∈ cs.map cv40, Fit45 y := ⟨by rw [List.length_map]; exact hy.1, fun y hy2 => by
   obtain ⟨z, hz, rfl⟩ := List.mem_map.1 hy2
   exact fit_cv40 (hy.2 z hz)⟩
  obtain ⟨m, t, hsp, him, hm1, hm2⟩ := load_same l (fun x hx => by have := gl.2 x hx; exact ⟨this.1, by have := this.2; omega⟩) (cs.map cv40) hy'
  have hm' : m.length ≤ 1048576 ∧ ∀ y ∈ m, Fit49 y := ⟨by omega, hm1⟩
  obtain ⟨y1, d1, _, p0, p1, _, mk1⟩ := markByteS_ev l hol 1 (by omega) (by omega)
  obtain ⟨y3, d3, p3, mk3⟩ := markChangeS_ev (cs.map cv40) hy'.1 d1 (by omega) (by omega)
  obtain ⟨y2, d2, hch, q0, q1, ml, mk2⟩ := markValueS_ev m (by omega) 1 (by omega) (by omega)
  have hh := heldValueS_ev y2 (by omega) 1 d2 (by omega) (by omega) hch
  have ee := eqValueS_ev m hm'
  have eb := eqByteS_ev l hol
  have ey := eqChangeS_ev (cs.map cv40) hy'
  have et : (t != t) = false := by simp
  refine Ev.bind hr2 (ev_neg (by omega) (Ev.bind tb (Ev.bind ty (Ev.bind hsp (Ev.bind tb (Ev.bind ty (Ev.bind him (Ev.bind ee (ev_pos rfl ?_)))))))))
  simp only [et]
  refine st_laws_FnExactLoadSave_j0 (ev_neg (by decide) (Ev.bind tb (Ev.bind eb (ev_pos rfl (Ev.bind ty (Ev.bind ey (ev_pos rfl (Ev.bind mk1 (Ev.bind mk3 (ev_neg (by omega) (Ev.bind ee (ev_pos rfl ?_))))))))))))
  simp only [et]
  refine st_laws_FnExactLoadSave_j1 (ev_neg (by decide) (Ev.bind mk2 (Ev.bind hh (ev_neg (by omega) (ev_pos rfl (Ev.bind tb (Ev.bind ty (Ev.bind him (Ev.bind ee (ev_pos rfl ?_))))))))))
  simp only [et]
  exact st_laws_FnExactLoadSave_j2 (ev_neg (by decide) (Ev.bind hh (ev_neg (by omega) (ev_pos rfl (ev_some rfl)))))
end Go.Proofs.Ytjjbkebodkjnkaa.Pure
