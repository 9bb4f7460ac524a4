/- Texts of a row. -/
import Derived.Test.YtbamdbdcglohmaaZFnKeys5
namespace Go.Proofs.Ytbamdbdcglohmaa.Pure
open Go.RowKit Go.Proofs.Ytbamdbdcglohmaa.PFnKeys Go.Proofs.Ytbamdbdcglohmaa.OFnKeys Go.Proofs.YtbamdbdcglohmaaW.PrintWords Go.Proofs.YtbamdbdcglohmaaW.PrintLast Go.Proofs.YtbamdbdcglohmaaW.PrintMore Go.Proofs.YtbamdbdcglohmaaO
set_option linter.unusedVariables false
set_option linter.unusedSimpArgs false
theorem st_spec_l1Cur_values_j0 {r : (List Int × Int × Int)} {x3 : List Int} {x4 : Int} {x1000 : List Int} {x1001 : Int} {x1002 : Int} (h : Ev (fun k => (spec_l1Cur_pick.f x1000 x1001 x1002 100).bind fun bt139 => ((spec_l1Cur_pick.f x1000 bt139.2.1 bt139.2.2 9).bind fun bt142 => (spec_l1Cur_values.l0 k x3 x4 bt139.1 (wrap64 (bt142.1 - 4)) x1000 bt142.2.1 bt142.2.2))) r) : Ev (fun k => spec_l1Cur_values.j0 k x3 x4 x1000 x1001 x1002) r := Ev.step (fun k => by rw [spec_l1Cur_values.j0]) h
theorem st_spec_l1Cur_values_l0 {r : (List Int × Int × Int)} {x3 : List Int} {x4 : Int} {x5 : Int} {x6 : Int} {x1000 : List Int} {x1001 : Int} {x1002 : Int} (h : Ev (fun k => if x4 > 0 then (if x3.length < 17592186044416 then ((some (x3 ++ [x5] : List Int)).bind fun y145 => ((spec_l1Cur_one.f x1000 x1001 x1002 4).bind fun bt148 => (if bt148.1 = true then ((spec_l1Cur_pick.f x1000 bt148.2.1 bt148.2.2 9).bind fun bt151 => (spec_l1Cur_values.j2 k y145 x4 (wrap64 (x5 + x6)) (wrap64 (bt151.1 - 4)) x1000 bt151.2.1 bt151.2.2)) else (spec_l1Cur_values.j2 k y145 x4 (wrap64 (x5 + x6)) x6 x1000 bt148.2.1 bt148.2.2)))) else (none)) else (some (x3, x1001, x1002))) r) : Ev (fun k => spec_l1Cur_values.l0 k x3 x4 x5 x6 x1000 x1001 x1002) r := Ev.step (fun k => by rw [spec_l1Cur_values.l0]) h
theorem st_spec_l1Cur_values_j2 {r : (List Int × Int × Int)} {x3 : List Int} {x4 : Int} {x5 : Int} {x6 : Int} {x1000 : List Int} {x1001 : Int} {x1002 : Int} (h : Ev (fun k => (spec_l1Cur_one.f x1000 x1001 x1002 100).bind fun bt154 => (if bt154.1 = true then ((spec_l1Cur_keyValue.f x1000 bt154.2.1 bt154.2.2).bind fun bt157 => (spec_l1Cur_values.l0 k x3 (wrap64 (x4 - 1)) bt157.1 x6 x1000 bt157.2.1 bt157.2.2)) else (spec_l1Cur_values.l0 k x3 (wrap64 (x4 - 1)) x5 x6 x1000 bt154.2.1 bt154.2.2))) r) : Ev (fun k => spec_l1Cur_values.j2 k x3 x4 x5 x6 x1000 x1001 x1002) r := Ev.step (fun k => by rw [spec_l1Cur_values.j2]) h
theorem st_laws_FnKeys_j0 {r : (Bool)} {x3 : List Int} {x4 : Int} {x5 : List (S41)} {x6 : Bool} {x47 : Bool} (h : Ev (fun k => if x47 = true then (some false) else (if x6 = true then ((impl_WorstOf.f k x3 x5).bind fun bt312 => (if bt312.2 = true then (if bt312.1 > x4 then (laws_FnKeys.j1 k x3 x4 x5 true) else (if 0 < (x5.length : Int) then (if ((rd_T41 x5 0).f0) = 0 then (if 0 ≤ (wrap64 ((x5.length : Int) - 1)) then (if (wrap64 ((x5.length : Int) - 1)) < (x5.length : Int) then (laws_FnKeys.j1 k x3 x4 x5 (((rd_T41 x5 (wrap64 ((x5.length : Int) - 1))).f0) != (wrap64 ((x3.length : Int) - 1)))) else (none)) else (none)) else (laws_FnKeys.j1 k x3 x4 x5 true)) else (none))) else (laws_FnKeys.j1 k x3 x4 x5 true))) else (some true))) r) : Ev (fun k => laws_FnKeys.j0 k x3 x4 x5 x6 x47) r := Ev.step (fun k => by rw [laws_FnKeys.j0]) h
theorem st_laws_FnKeys_j1 {r : (Bool)} {x3 : List Int} {x4 : Int} {x5 : List (S41)} {x82 : Bool} (h : Ev (fun k => if x82 = true then (some false) else (laws_FnKeys.l0 k x3 x4 x5 x5 (x5.length : Int) 0)) r) : Ev (fun k => laws_FnKeys.j1 k x3 x4 x5 x82) r := Ev.step (fun k => by rw [laws_FnKeys.j1]) h
theorem st_laws_FnKeys_l0 {r : (Bool)} {x3 : List Int} {x4 : Int} {x5 : List (S41)} {x83 : List (S41)} {x84 : Int} {x85 : Int} (h : Ev (fun k => if x85 < x84 then (if 0 ≤ x85 then (if x85 < (x83.length : Int) then (if 0 ≤ ((rd_T41 x83 x85).f0) then (if ((rd_T41 x83 x85).f0) < (x3.length : Int) then (if (rd x3 ((rd_T41 x83 x85).f0)) = ((rd_T41 x83 x85).f1) then (laws_FnKeys.l0 k x3 x4 x5 x83 x84 (wrap64 (x85 + 1))) else (some false)) else (none)) else (none)) else (none)) else (none)) else (if (x3.length : Int) > 9 then (laws_FnKeys.j3 k x3 x4 x5 true) else (laws_FnKeys.j3 k x3 x4 x5 (decide ((x3.length : Int) < 3))))) r) : Ev (fun k => laws_FnKeys.l0 k x3 x4 x5 x83 x84 x85) r := Ev.step (fun k => by rw [laws_FnKeys.l0]) h
theorem st_laws_FnKeys_j3 {r : (Bool)} {x3 : List Int} {x4 : Int} {x5 : List (S41)} {x105 : Bool} (h : Ev (fun k => if x105 = true then (some true) else (laws_FnKeys.l1 k x3 x4 x5 0)) r) : Ev (fun k => laws_FnKeys.j3 k x3 x4 x5 x105) r := Ev.step (fun k => by rw [laws_FnKeys.j3]) h
theorem st_laws_FnKeys_l1 {r : (Bool)} {x3 : List Int} {x4 : Int} {x5 : List (S41)} {x13 : Int} (h : Ev (fun k => if 0 ≤ (IntKind.u64.wrap (wrap64 ((x3.length : Int) - 2))) then (if x13 < (shl .i64 1 (IntKind.u64.wrap (wrap64 ((x3.length : Int) - 2)))) then (if 0 < (x3.length : Int) then (laws_FnKeys.l2 k x3 x4 x5 x13 (([(⟨0, rd x3 0⟩ : S41)] : List (S41))) 1) else (none)) else (some true)) else (none)) r) : Ev (fun k => laws_FnKeys.l1 k x3 x4 x5 x13) r := Ev.step (fun k => by rw [laws_FnKeys.l1]) h
theorem st_laws_FnKeys_l2 {r : (Bool)} {x3 : List Int} {x4 : Int} {x5 : List (S41)} {x13 : Int} {x14 : List (S41)} {x15 : Int} (h : Ev (fun k => if x15 < (wrap64 ((x3.length : Int) - 1)) then (if 0 ≤ (IntKind.u64.wrap (wrap64 (x15 - 1))) then (if (Go.bits .and .i64 (shr .i64 x13 (IntKind.u64.wrap (wrap64 (x15 - 1)))) 1) = 1 then (if 0 ≤ x15 then (if x15 < (x3.length : Int) then (if x14.length < 8796093022208 then (laws_FnKeys.l2 k x3 x4 x5 x13 (x14 ++ [(⟨x15, rd x3 x15⟩ : S41)]) (wrap64 (x15 + 1))) else (none)) else (none)) else (none)) else (laws_FnKeys.l2 k x3 x4 x5 x13 x14 (wrap64 (x15 + 1)))) else (none)) else (if 0 ≤ (wrap64 ((x3.length : Int) - 1)) then (if (wrap64 ((x3.length : Int) - 1)) < (x3.length : Int) then (if x14.length < 8796093022208 then ((some (x14 ++ [(⟨wrap64 ((x3.length : Int) - 1), rd x3 (wrap64 ((x3.length : Int) - 1))⟩ : S41)] : List (S41))).bind fun y328 => ((spec_WorstOf.f k x3 y328).bind fun bt331 => (if bt331.1 ≤ x4 then (if (y328.length : Int) < (x5.length : Int) then (some false) else (laws_FnKeys.l1 k x3 x4 x5 (wrap64 (x13 + 1)))) else (laws_FnKeys.l1 k x3 x4 x5 (wrap64 (x13 + 1)))))) else (none)) else (none)) else (none))) r) : Ev (fun k => laws_FnKeys.l2 k x3 x4 x5 x13 x14 x15) r := Ev.step (fun k => by rw [laws_FnKeys.l2]) h
theorem st_slices_IndexFunc_w38_l0 {r : (Int)} {x0 : List Int} {x7 : Int} {x8 : Int} (h : Ev (fun k => if x8 < x7 then (if 0 ≤ x8 then (if x8 < (x0.length : Int) then ((impl_areKeyValues_1.f (rd x0 x8)).bind fun t186 => (if t186 = true then (some x8) else (slices_IndexFunc_w38.l0 k x0 x7 (wrap64 (x8 + 1))))) else (none)) else (none)) else (some (-1))) r) : Ev (fun k => slices_IndexFunc_w38.l0 k x0 x7 x8) r := Ev.step (fun k => by rw [slices_IndexFunc_w38.l0]) h
theorem st_impl_fits_l0 {r : (Bool)} {x0 : List Int} {x2 : Int} {x3 : Int} {x11 : Int} {x195000 : Int} {x195001 : Int} {x196000 : Int} {x196001 : Int} (h : Ev (fun k => if x11 < x2 then ((impl_on.f x195000 x195001 x196000 x196001 x11).bind fun t196 => (if 0 ≤ x11 then (if x11 < (x0.length : Int) then ((impl_size.f (wrap64 (t196 - (rd x0 x11)))).bind fun t198 => (if t198 > x3 then (some false) else (impl_fits.l0 k x0 x2 x3 (wrap64 (x11 + 1)) x195000 x195001 x196000 x196001))) else (none)) else (none))) else (some true)) r) : Ev (fun k => impl_fits.l0 k x0 x2 x3 x11 x195000 x195001 x196000 x196001) r := Ev.step (fun k => by rw [impl_fits.l0]) h
theorem st_impl_FewestKeys_j0 {r : ((List (S41)) × Bool)} {x0 : List Int} {x1 : Int} {x6 : Int} {x27 : Bool} (h : Ev (fun k => if x27 = true then (some (([] : List (S41)), false)) else (if 0 ≤ x6 then (if (x6 : Int).toNat ≤ 35184372088832 then ((some (List.replicate (x6 : Int).toNat 0 : List Int)).bind fun y202 => (if 0 ≤ (wrap64 (x6 - 1)) then (if (wrap64 (x6 - 1)) < (y202.length : Int) then (impl_FewestKeys.l0 k x0 x1 x6 (y202.set ((wrap64 (x6 - 1)) : Int).toNat 1) (List.replicate (x6 : Int).toNat 0) (wrap64 (x6 - 2))) else (none)) else (none))) else (none)) else (none))) r) : Ev (fun k => impl_FewestKeys.j0 k x0 x1 x6 x27) r := Ev.step (fun k => by rw [impl_FewestKeys.j0]) h
theorem st_impl_FewestKeys_l0 {r : ((List (S41)) × Bool)} {x0 : List Int} {x1 : Int} {x6 : Int} {x7 : List Int} {x8 : List Int} {x9 : Int} (h : Ev (fun k => if x9 ≥ 0 then (impl_FewestKeys.l1 k x0 x1 x6 x7 x8 x9 (wrap64 (x9 + 1))) else (if 0 < (x0.length : Int) then (impl_FewestKeys.l2 k x0 x6 x8 (([(⟨0, rd x0 0⟩ : S41)] : List (S41))) 0) else (none))) r) : Ev (fun k => impl_FewestKeys.l0 k x0 x1 x6 x7 x8 x9) r := Ev.step (fun k => by rw [impl_FewestKeys.l0]) h
theorem st_impl_FewestKeys_l1 {r : ((List (S41)) × Bool)} {x0 : List Int} {x1 : Int} {x6 : Int} {x7 : List Int} {x8 : List Int} {x9 : Int} {x10 : Int} (h : Ev (fun k => if x10 < x6 then (if 0 ≤ x9 then (if x9 < (x7.length : Int) then (if (rd x7 x9) = 0 then ((impl_fits.f k x0 x9 x10 x1).bind fun t210 => (if t210 = true then (if 0 ≤ x10 then (if x10 < (x7.length : Int) then (if x9 < (x8.length : Int) then (impl_FewestKeys.l1 k x0 x1 x6 (x7.set (x9 : Int).toNat (wrap64 ((rd x7 x10) + 1))) (x8.set (x9 : Int).toNat x10) x9 (wrap64 (x10 + 1))) else (none)) else (none)) else (none)) else (impl_FewestKeys.l1 k x0 x1 x6 x7 x8 x9 (wrap64 (x10 + 1))))) else (if 0 ≤ x10 then (if x10 < (x7.length : Int) then (if (wrap64 ((rd x7 x10) + 1)) < (rd x7 x9) then ((impl_fits.f k x0 x9 x10 x1).bind fun t216 => (if t216 = true then (if x9 < (x8.length : Int) then (impl_FewestKeys.l1 k x0 x1 x6 (x7.set (x9 : Int).toNat (wrap64 ((rd x7 x10) + 1))) (x8.set (x9 : Int).toNat x10) x9 (wrap64 (x10 + 1))) else (none)) else (impl_FewestKeys.l1 k x0 x1 x6 x7 x8 x9 (wrap64 (x10 + 1))))) else (impl_FewestKeys.l1 k x0 x1 x6 x7 x8 x9 (wrap64 (x10 + 1)))) else (none)) else (none))) else (none)) else (none)) else (impl_FewestKeys.l0 k x0 x1 x6 x7 x8 (wrap64 (x9 - 1)))) r) : Ev (fun k => impl_FewestKeys.l1 k x0 x1 x6 x7 x8 x9 x10) r := Ev.step (fun k => by rw [impl_FewestKeys.l1]) h
theorem st_impl_FewestKeys_l2 {r : ((List (S41)) × Bool)} {x0 : List Int} {x6 : Int} {x8 : List Int} {x11 : List (S41)} {x12 : Int} (h : Ev (fun k => if x12 < (wrap64 (x6 - 1)) then (if 0 ≤ x12 then (if x12 < (x8.length : Int) then (if 0 ≤ (rd x8 x12) then (if (rd x8 x12) < (x0.length : Int) then (if x11.length < 8796093022208 then (impl_FewestKeys.l2 k x0 x6 x8 (x11 ++ [(⟨rd x8 x12, rd x0 (rd x8 x12)⟩ : S41)]) (rd x8 x12)) else (none)) else (none)) else (none)) else (none)) else (none)) else (some (x11, true))) r) : Ev (fun k => impl_FewestKeys.l2 k x0 x6 x8 x11 x12) r := Ev.step (fun k => by rw [impl_FewestKeys.l2]) h
theorem st_spec_l11Values_j0 {r : (Bool)} {x0 : List Int} {x12 : Bool} (h : Ev (fun k => if x12 = true then (some false) else (spec_l11Values.l0 k x0 (x0.length : Int) 0)) r) : Ev (fun k => spec_l11Values.j0 k x0 x12) r := Ev.step (fun k => by rw [spec_l11Values.j0]) h
theorem st_spec_l11Values_l0 {r : (Bool)} {x13 : List Int} {x14 : Int} {x15 : Int} (h : Ev (fun k => if x15 < x14 then (if 0 ≤ x15 then (if x15 < (x13.length : Int) then ((spec_l11Value.f (rd x13 x15)).bind fun t231 => (if t231 = true then (spec_l11Values.l0 k x13 x14 (wrap64 (x15 + 1))) else (some false))) else (none)) else (none)) else (some true)) r) : Ev (fun k => spec_l11Values.l0 k x13 x14 x15) r := Ev.step (fun k => by rw [spec_l11Values.l0]) h
theorem st_spec_l11At_l0 {r : (Int)} {x0 : List (S41)} {x1 : Int} {x5 : Int} (h : Ev (fun k => if x5 < (x0.length : Int) then (if 0 ≤ (wrap64 (x5 - 1)) then (if (wrap64 (x5 - 1)) < (x0.length : Int) then (if 0 ≤ x5 then (if x1 ≤ ((rd_T41 x0 x5).f0) then ((spec_l1Down.f (wrap64 ((wrap64 (((rd_T41 x0 x5).f1) - ((rd_T41 x0 (wrap64 (x5 - 1))).f1))) * (wrap64 (x1 - ((rd_T41 x0 (wrap64 (x5 - 1))).f0))))) (wrap64 (((rd_T41 x0 x5).f0) - ((rd_T41 x0 (wrap64 (x5 - 1))).f0)))).bind fun t238 => (some (wrap64 (((rd_T41 x0 (wrap64 (x5 - 1))).f1) + t238)))) else (spec_l11At.l0 k x0 x1 (wrap64 (x5 + 1)))) else (none)) else (none)) else (none)) else (if 0 ≤ (wrap64 ((x0.length : Int) - 1)) then (if (wrap64 ((x0.length : Int) - 1)) < (x0.length : Int) then (some ((rd_T41 x0 (wrap64 ((x0.length : Int) - 1))).f1)) else (none)) else (none))) r) : Ev (fun k => spec_l11At.l0 k x0 x1 x5) r := Ev.step (fun k => by rw [spec_l11At.l0]) h
theorem st_spec_l11Spans_l0 {r : (Bool)} {x0 : List Int} {x2 : Int} {x3 : Int} {x9 : List (S41)} {x10 : Int} (h : Ev (fun k => if x10 ≤ x2 then ((spec_l11At.f k x9 x10).bind fun t245 => (if 0 ≤ x10 then (if x10 < (x0.length : Int) then ((spec_l1Abs.f (wrap64 (t245 - (rd x0 x10)))).bind fun t247 => (if t247 > x3 then (some false) else (spec_l11Spans.l0 k x0 x2 x3 x9 (wrap64 (x10 + 1))))) else (none)) else (none))) else (some true)) r) : Ev (fun k => spec_l11Spans.l0 k x0 x2 x3 x9 x10) r := Ev.step (fun k => by rw [spec_l11Spans.l0]) h
theorem st_spec_FewestKeys_j0 {r : ((List (S41)) × Bool)} {x0 : List Int} {x1 : Int} {x20 : Bool} (h : Ev (fun k => if x20 = true then (some (([] : List (S41)), false)) else (if 0 ≤ (x0.length : Int) then (if ((x0.length : Int) : Int).toNat ≤ 35184372088832 then (spec_FewestKeys.l0 k x0 x1 (x0.length : Int) (List.replicate ((x0.length : Int) : Int).toNat 0) (List.replicate ((x0.length : Int) : Int).toNat 0) (wrap64 ((x0.length : Int) - 2))) else (none)) else (none))) r) : Ev (fun k => spec_FewestKeys.j0 k x0 x1 x20) r := Ev.step (fun k => by rw [spec_FewestKeys.j0]) h
theorem st_spec_FewestKeys_l0 {r : ((List (S41)) × Bool)} {x0 : List Int} {x1 : Int} {x6 : Int} {x7 : List Int} {x8 : List Int} {x9 : Int} (h : Ev (fun k => if x9 ≥ 0 then (if 0 ≤ x9 then (if x9 < (x7.length : Int) then (spec_FewestKeys.l1 k x0 x1 x6 (x7.set (x9 : Int).toNat (-1)) x8 x9 (wrap64 (x9 + 1))) else (none)) else (none)) else (spec_FewestKeys.l2 k x0 x6 x8 ([] : List (S41)) 0)) r) : Ev (fun k => spec_FewestKeys.l0 k x0 x1 x6 x7 x8 x9) r := Ev.step (fun k => by rw [spec_FewestKeys.l0]) h
theorem st_spec_FewestKeys_l1 {r : ((List (S41)) × Bool)} {x0 : List Int} {x1 : Int} {x6 : Int} {x7 : List Int} {x8 : List Int} {x9 : Int} {x10 : Int} (h : Ev (fun k => if x10 < x6 then (if 0 ≤ x9 then (if x9 < (x7.length : Int) then (if (rd x7 x9) < 0 then ((spec_l11Spans.f k x0 x9 x10 x1).bind fun t258 => (if t258 = true then (if 0 ≤ x10 then (if x10 < (x7.length : Int) then (if x9 < (x8.length : Int) then (spec_FewestKeys.l1 k x0 x1 x6 (x7.set (x9 : Int).toNat (wrap64 ((rd x7 x10) + 1))) (x8.set (x9 : Int).toNat x10) x9 (wrap64 (x10 + 1))) else (none)) else (none)) else (none)) else (spec_FewestKeys.l1 k x0 x1 x6 x7 x8 x9 (wrap64 (x10 + 1))))) else (if 0 ≤ x10 then (if x10 < (x7.length : Int) then (if (wrap64 ((rd x7 x10) + 1)) < (rd x7 x9) then ((spec_l11Spans.f k x0 x9 x10 x1).bind fun t264 => (if t264 = true then (if x9 < (x8.length : Int) then (spec_FewestKeys.l1 k x0 x1 x6 (x7.set (x9 : Int).toNat (wrap64 ((rd x7 x10) + 1))) (x8.set (x9 : Int).toNat x10) x9 (wrap64 (x10 + 1))) else (none)) else (spec_FewestKeys.l1 k x0 x1 x6 x7 x8 x9 (wrap64 (x10 + 1))))) else (spec_FewestKeys.l1 k x0 x1 x6 x7 x8 x9 (wrap64 (x10 + 1)))) else (none)) else (none))) else (none)) else (none)) else (spec_FewestKeys.l0 k x0 x1 x6 x7 x8 (wrap64 (x9 - 1)))) r) : Ev (fun k => spec_FewestKeys.l1 k x0 x1 x6 x7 x8 x9 x10) r := Ev.step (fun k => by rw [spec_FewestKeys.l1]) h
theorem st_spec_FewestKeys_l2 {r : ((List (S41)) × Bool)} {x0 : List Int} {x6 : Int} {x8 : List Int} {x11 : List (S41)} {x12 : Int} (h : Ev (fun k => if 0 ≤ x12 then (if x12 < (x0.length : Int) then (if x11.length < 8796093022208 then ((some (x11 ++ [(⟨x12, rd x0 x12⟩ : S41)] : List (S41))).bind fun y269 => (if x12 = (wrap64 (x6 - 1)) then (some (y269, true)) else (if x12 < (x8.length : Int) then (spec_FewestKeys.l2 k x0 x6 x8 y269 (rd x8 x12)) else (none)))) else (none)) else (none)) else (none)) r) : Ev (fun k => spec_FewestKeys.l2 k x0 x6 x8 x11 x12) r := Ev.step (fun k => by rw [spec_FewestKeys.l2]) h
theorem st_impl_areKeys_l0 {r : (Bool)} {x0 : List (S41)} {x1 : Int} {x7 : List (S41)} {x8 : Int} {x9 : Int} (h : Ev (fun k => if x9 < x8 then (if 0 ≤ x9 then (if x9 < (x7.length : Int) then ((impl_inRange.f ((rd_T41 x7 x9).f0) 0 (wrap64 (x1 - 1))).bind fun t276 => (if t276 = true then ((impl_isKeyValue.f ((rd_T41 x7 x9).f1)).bind fun t277 => (if t277 = true then (if x9 > 0 then (if 0 ≤ (wrap64 (x9 - 1)) then (if (wrap64 (x9 - 1)) < (x0.length : Int) then (if ((rd_T41 x0 (wrap64 (x9 - 1))).f0) ≥ ((rd_T41 x7 x9).f0) then (some false) else (impl_areKeys.l0 k x0 x1 x7 x8 (wrap64 (x9 + 1)))) else (none)) else (none)) else (impl_areKeys.l0 k x0 x1 x7 x8 (wrap64 (x9 + 1)))) else (some false))) else (some false))) else (none)) else (none)) else ((impl_inRange.f (x0.length : Int) 1 60).bind fun t273 => (some t273))) r) : Ev (fun k => impl_areKeys.l0 k x0 x1 x7 x8 x9) r := Ev.step (fun k => by rw [impl_areKeys.l0]) h
theorem st_impl_valueAt_l0 {r : (Int)} {x0 : List (S41)} {x1 : Int} {x7 : List (S41)} {x8 : Int} {x9 : Int} (h : Ev (fun k => if x9 < x8 then (if 0 ≤ x9 then (if x9 < (x7.length : Int) then (if x1 ≤ ((rd_T41 x7 x9).f0) then (if x9 = 0 then (some ((rd_T41 x7 x9).f1)) else (if x1 = ((rd_T41 x7 x9).f0) then (some ((rd_T41 x7 x9).f1)) else (if 0 ≤ (wrap64 (x9 - 1)) then (if (wrap64 (x9 - 1)) < (x0.length : Int) then ((impl_on.f ((rd_T41 x0 (wrap64 (x9 - 1))).f0) ((rd_T41 x0 (wrap64 (x9 - 1))).f1) ((rd_T41 x7 x9).f0) ((rd_T41 x7 x9).f1) x1).bind fun t283 => (some t283)) else (none)) else (none)))) else (impl_valueAt.l0 k x0 x1 x7 x8 (wrap64 (x9 + 1)))) else (none)) else (none)) else (if 0 ≤ (wrap64 ((x0.length : Int) - 1)) then (if (wrap64 ((x0.length : Int) - 1)) < (x0.length : Int) then (some ((rd_T41 x0 (wrap64 ((x0.length : Int) - 1))).f1)) else (none)) else (none))) r) : Ev (fun k => impl_valueAt.l0 k x0 x1 x7 x8 x9) r := Ev.step (fun k => by rw [impl_valueAt.l0]) h
theorem st_impl_WorstOf_j0 {r : (Int × Bool)} {x0 : List Int} {x1 : List (S41)} {x22 : Bool} (h : Ev (fun k => if x22 = true then (some (0, false)) else (impl_WorstOf.l0 k x1 0 x0 (x0.length : Int) 0)) r) : Ev (fun k => impl_WorstOf.j0 k x0 x1 x22) r := Ev.step (fun k => by rw [impl_WorstOf.j0]) h
theorem st_impl_WorstOf_l0 {r : (Int × Bool)} {x1 : List (S41)} {x6 : Int} {x23 : List Int} {x24 : Int} {x25 : Int} (h : Ev (fun k => if x25 < x24 then (if 0 ≤ x25 then (if x25 < (x23.length : Int) then ((impl_valueAt.f k x1 x25).bind fun t288 => ((impl_size.f (wrap64 (t288 - (rd x23 x25)))).bind fun t289 => (impl_WorstOf.l0 k x1 (mx x6 t289) x23 x24 (wrap64 (x25 + 1))))) else (none)) else (none)) else (some (x6, true))) r) : Ev (fun k => impl_WorstOf.l0 k x1 x6 x23 x24 x25) r := Ev.step (fun k => by rw [impl_WorstOf.l0]) h
theorem st_spec_l11Keys_j0 {r : (Bool)} {x0 : List (S41)} {x1 : Int} {x14 : Bool} (h : Ev (fun k => if x14 = true then (some false) else (spec_l11Keys.l0 k x0 x1 x0 (x0.length : Int) 0)) r) : Ev (fun k => spec_l11Keys.j0 k x0 x1 x14) r := Ev.step (fun k => by rw [spec_l11Keys.j0]) h
theorem st_spec_l11Keys_l0 {r : (Bool)} {x0 : List (S41)} {x1 : Int} {x15 : List (S41)} {x16 : Int} {x17 : Int} (h : Ev (fun k => if x17 < x16 then (if 0 ≤ x17 then (if x17 < (x15.length : Int) then ((spec_l1In.f ((rd_T41 x15 x17).f0) 0 (wrap64 (x1 - 1))).bind fun t292 => (if t292 = true then ((spec_l11Value.f ((rd_T41 x15 x17).f1)).bind fun t293 => (if t293 = true then (if x17 > 0 then (if 0 ≤ (wrap64 (x17 - 1)) then (if (wrap64 (x17 - 1)) < (x0.length : Int) then (if ((rd_T41 x0 (wrap64 (x17 - 1))).f0) ≥ ((rd_T41 x15 x17).f0) then (some false) else (spec_l11Keys.l0 k x0 x1 x15 x16 (wrap64 (x17 + 1)))) else (none)) else (none)) else (spec_l11Keys.l0 k x0 x1 x15 x16 (wrap64 (x17 + 1)))) else (some false))) else (some false))) else (none)) else (none)) else (some true)) r) : Ev (fun k => spec_l11Keys.l0 k x0 x1 x15 x16 x17) r := Ev.step (fun k => by rw [spec_l11Keys.l0]) h
theorem st_spec_WorstOf_j0 {r : (Int × Bool)} {x0 : List Int} {x1 : List (S41)} {x17 : Bool} (h : Ev (fun k => if x17 = true then (some (0, false)) else (spec_WorstOf.l0 k x1 0 x0 (x0.length : Int) 0)) r) : Ev (fun k => spec_WorstOf.j0 k x0 x1 x17) r := Ev.step (fun k => by rw [spec_WorstOf.j0]) h
theorem st_spec_WorstOf_l0 {r : (Int × Bool)} {x1 : List (S41)} {x6 : Int} {x18 : List Int} {x19 : Int} {x20 : Int} (h : Ev (fun k => if x20 < x19 then (if 0 ≤ x20 then (if x20 < (x18.length : Int) then ((spec_l11At.f k x1 x20).bind fun t298 => ((spec_l1Abs.f (wrap64 (t298 - (rd x18 x20)))).bind fun t299 => (if t299 > x6 then (spec_WorstOf.l0 k x1 t299 x18 x19 (wrap64 (x20 + 1))) else (spec_WorstOf.l0 k x1 x6 x18 x19 (wrap64 (x20 + 1)))))) else (none)) else (none)) else (some (x6, true))) r) : Ev (fun k => spec_WorstOf.l0 k x1 x6 x18 x19 x20) r := Ev.step (fun k => by rw [spec_WorstOf.l0]) h
theorem inr_some (a b c : Int) : impl_inRange.f a b c = some (decide (b ≤ a ∧ a ≤ c)) := by
  unfold impl_inRange.f
  split <;> simp_all <;> omega
theorem in_some (a b c : Int) : spec_l1In.f a b c = some (decide (b ≤ a ∧ a ≤ c)) := by
  unfold spec_l1In.f
  split <;> simp_all <;> omega
def Vals (v : List Int) : Prop := 1 ≤ v.length ∧ v.length ≤ 60 ∧ ∀ i : Nat, i < v.length → -100000 ≤ rd v (i : Int) ∧ rd v (i : Int) ≤ 100000
def dn (x m : Int) : Int := if Int.tmod x m < 0 then Int.tdiv x m - 1 else Int.tdiv x m
def line (v : List Int) (a b f : Nat) : Int := rd v (a : Int) + dn ((rd v (b : Int) - rd v (a : Int)) * ((f : Int) - (a : Int))) ((b : Int) - (a : Int))
def Near (v : List Int) (most : Int) (a b f : Nat) : Prop := ((line v a b f - rd v (f : Int)).natAbs : Int) ≤ most
def Fits (v : List Int) (most : Int) (a b : Nat) : Prop := ∀ f : Nat, a < f → f < b → Near v most a b f
theorem tdiv_bound (x m : Int) : (Int.tdiv x m).natAbs ≤ x.natAbs := by rw [Int.natAbs_tdiv]; exact Nat.div_le_self _ _
theorem prod_bound (d e : Int) (hd : d.natAbs ≤ 200000) (he : e.natAbs ≤ 60) : (d * e).natAbs ≤ 12000000 := by rw [Int.natAbs_mul]; exact Nat.mul_le_mul hd he
theorem down_impl (x m : Int) (hm : 0 < m) (hx : x.natAbs ≤ 12000000) : impl_down.f x m = some (dn x m) := by
  have hb := tdiv_bound x m
  unfold impl_down.f dn
  rw [if_neg (by omega), w64 (n := Int.tdiv x m) (by omega) (by omega)]
  by_cases h : Int.tmod x m < 0
  · rw [if_pos h, if_pos h, w64 (by omega) (by omega)]
  · rw [if_neg h, if_neg h]
theorem tmod_neg_le (x m : Int) (hx : x < 0) : Int.tmod x m ≤ 0 := by
  have h1 : 0 ≤ Int.tmod (-x) m := Int.tmod_nonneg m (by omega)
  rw [Int.neg_tmod] at h1
  omega
theorem down_spec (x m : Int) (hm : 0 < m) (hx : x.natAbs ≤ 12000000) : spec_l1Down.f x m = some (dn x m) := by
  have hb := tdiv_bound x m
  unfold spec_l1Down.f dn
  rw [if_neg (by omega), w64 (n := Int.tdiv x m) (by omega) (by omega)]
  by_cases h0 : Int.tmod x m = 0
  · rw [if_pos h0, if_neg (by omega)]
  · rw [if_neg h0]
    by_cases hx0 : x < 0
    · have := tmod_neg_le x m hx0
      rw [if_pos (by rw [decide_eq_true hx0, decide_eq_false (by omega)]; rfl), if_pos (by omega), w64 (by omega) (by omega)]
    · have h1 : 0 ≤ Int.tmod x m := Int.tmod_nonneg m (by omega)
      rw [if_neg (by rw [decide_eq_false hx0, decide_eq_false (by omega)]; decide), if_neg (by omega)]
theorem dn_mul (d m : Int) (hm : 0 < m) : dn (d * m) m = d := by
  unfold dn
  rw [Int.mul_tmod_left, if_neg (by omega), Int.mul_tdiv_cancel _ (by omega)]
theorem line_end (v : List Int) (a b : Nat) (h : a < b) : line v a b b = rd v (b : Int) := by
  unfold line
  rw [dn_mul _ _ (by omega)]; omega
theorem dn_bound (x m : Int) : (dn x m).natAbs ≤ x.natAbs + 1 := by
  have := tdiv_bound x m
  unfold dn
  split <;> omega
section
variable {v : List Int} (hv : Vals v)
include hv
theorem pbound (a b f : Nat) (ha : a < v.length) (hb : b < v.length) (haf : a ≤ f) (hf : f < v.length) : ((rd v (b : Int) - rd v (a : Int)) * ((f : Int) - (a : Int))).natAbs ≤ 12000000 := by
  have h1 := hv.2.2 a ha
  have h2 := hv.2.2 b hb
  have h3 := hv.2.1
  exact prod_bound _ _ (by omega) (by omega)
theorem line_bound (a b f : Nat) (hab : a < b) (hb : b < v.length) (haf : a ≤ f) (hfb : f ≤ b) : (line v a b f).natAbs ≤ 12100001 := by
  have h1 := pbound hv a b f (by omega) hb haf (by omega)
  have h2 := dn_bound ((rd v (b : Int) - rd v (a : Int)) * ((f : Int) - (a : Int))) ((b : Int) - (a : Int))
  have h3 := hv.2.2 a (by omega)
  unfold line
  omega
theorem on_impl (a b f : Nat) (hab : a < b) (hb : b < v.length) (haf : a ≤ f) (hfb : f ≤ b) : impl_on.f (a : Int) (rd v (a : Int)) (b : Int) (rd v (b : Int)) (f : Int) = some (line v a b f) := by
  have h1 := pbound hv a b f (by omega) hb haf (by omega)
  have h2 := line_bound hv a b f hab hb haf hfb
  have h3 := hv.2.2 a (by omega)
  have h4 := hv.2.2 b hb
  have h5 := hv.2.1
  unfold impl_on.f
  rw [w64 (n := rd v (b : Int) - rd v (a : Int)) (by omega) (by omega), w64 (n := (f : Int) - (a : Int)) (by omega) (by omega), w64 (n := (rd v (b : Int) - rd v (a : Int)) * ((f : Int) - (a : Int))) (by omega) (by omega), w64 (n := (b : Int) - (a : Int)) (by omega) (by omega), down_impl _ _ (by omega) h1, Option.bind_some]
  unfold line at h2 ⊢
  rw [w64 (by omega) (by omega)]
theorem on_spec (a b f : Nat) (hab : a < b) (hb : b < v.length) (haf : a ≤ f) (hfb : f ≤ b) : ((spec_l1Down.f (wrap64 ((wrap64 (rd v (b : Int) - rd v (a : Int))) * (wrap64 ((f : Int) - (a : Int))))) (wrap64 ((b : Int) - (a : Int)))).bind fun t => some (wrap64 (rd v (a : Int) + t))) = some (line v a b f) := by
  have h1 := pbound hv a b f (by omega) hb haf (by omega)
  have h2 := line_bound hv a b f hab hb haf hfb
  have h3 := hv.2.2 a (by omega)
  have h4 := hv.2.2 b hb
  have h5 := hv.2.1
  rw [w64 (n := rd v (b : Int) - rd v (a : Int)) (by omega) (by omega), w64 (n := (f : Int) - (a : Int)) (by omega) (by omega), w64 (n := (rd v (b : Int) - rd v (a : Int)) * ((f : Int) - (a : Int))) (by omega) (by omega), w64 (n := (b : Int) - (a : Int)) (by omega) (by omega), down_spec _ _ (by omega) h1, Option.bind_some]
  unfold line at h2 ⊢
  rw [w64 (by omega) (by omega)]
end
theorem size_small (x : Int) (h : x.natAbs ≤ 100000000) : impl_size.f (wrap64 x) = some (x.natAbs : Int) := by
  rw [w64 (by omega) (by omega)]
  unfold impl_size.f mx
  rw [w64 (by omega) (by omega)]
  congr 1
  split <;> omega
theorem abs_small (x : Int) (h : x.natAbs ≤ 100000000) : spec_l1Abs.f (wrap64 x) = some (x.natAbs : Int) := by
  rw [w64 (by omega) (by omega)]
  unfold spec_l1Abs.f
  by_cases h0 : x < 0
  · rw [if_pos h0, w64 (by omega) (by omega)]; congr 1; omega
  · rw [if_neg h0]; congr 1; omega
def fr (fs : List Nat) (i : Nat) : Nat := fs.getD i 0
def key (v : List Int) (f : Nat) : S41 := ⟨(f : Int), rd v (f : Int)⟩
def keys (v : List Int) (fs : List Nat) : List S41 := fs.map (key v)
theorem keys_len (v : List Int) (fs : List Nat) : (keys v fs).length = fs.length := List.length_map _
theorem rd_key (v : List Int) (fs : List Nat) (i : Nat) (h : i < fs.length) : rd_T41 (keys v fs) (i : Int) = key v (fr fs i) := by
  have h' : i < (keys v fs).length := by rw [keys_len]; exact h
  have e : rd_T41 (keys v fs) (i : Int) = (keys v fs)[i] := getD_get h'
  rw [e]
  simp [keys, fr, List.getD_eq_getElem?_getD, h]
def valAt (v : List Int) (fs : List Nat) (i f : Nat) : Int := if i = 0 then rd v (f : Int) else line v (fr fs (i - 1)) (fr fs i) f
structure Stands (v : List Int) (fs : List Nat) (i f : Nat) : Prop where
  hi : i < fs.length
  hf : f ≤ fr fs i
  hlt : fr fs i < v.length
  hb : ∀ q, q < i → fr fs q < f
  h0 : i = 0 → f = fr fs 0
theorem at_spec {v : List Int} (hv : Vals v) {fs : List Nat} (hl : fs.length ≤ 1000) {i f : Nat} (h : Stands v fs i f) : Ev (fun k => spec_l11At.f k (keys v fs) (f : Int)) (valAt v fs i f) := by
  obtain ⟨hi, hf, hlt, hb, h0⟩ := h
  have hkl := keys_len v fs
  have r0 : rd_T41 (keys v fs) 0 = key v (fr fs 0) := rd_key v fs 0 (by omega)
  refine ev_pos (by omega) ?_
  rw [r0]
  by_cases hi0 : i = 0
  · subst hi0
    have hf0 := h0 rfl
    refine ev_pos (by show (f : Int) ≤ (fr fs 0 : Int); omega) (ev_some ?_)
    unfold valAt
    rw [if_pos rfl, hf0]; rfl
  · have hb0 := hb 0 (by omega)
    refine ev_neg (by show ¬ (f : Int) ≤ (fr fs 0 : Int); omega) ?_
    refine ev_for1 i (fun k q (_ : Unit) => spec_l11At.l0 k (keys v fs) (f : Int) (q : Int)) (fun q _ => 1 ≤ q) _ ?_ ?_ 1 () (by omega) (Nat.le_refl _)
    · intro _ _
      have e1 : wrap64 ((i : Int) - 1) = ((i - 1 : Nat) : Int) := by rw [w64 (by omega) (by omega)]; omega
      refine st_spec_l11At_l0 (ev_pos (by omega) ?_)
      rw [e1, rd_key v fs i hi, rd_key v fs (i - 1) (by omega)]
      refine ev_pos (by omega) (ev_pos (by omega) (ev_pos (by omega) (ev_pos (by show (f : Int) ≤ (fr fs i : Int); omega) ?_)))
      have hprev := hb (i - 1) (by omega)
      have := on_spec hv (fr fs (i - 1)) (fr fs i) f (by omega) hlt (by omega) hf
      refine ev_eq ?_
      unfold valAt
      rw [if_neg hi0]
      exact this
    · intro q _ hq h1
      refine .inr ⟨(), by omega, fun r hr => st_spec_l11At_l0 (ev_pos (by omega) ?_)⟩
      have e1 : wrap64 ((q : Int) - 1) = ((q - 1 : Nat) : Int) := by rw [w64 (by omega) (by omega)]; omega
      have hbq := hb q hq
      rw [e1, rd_key v fs q (by omega), rd_key v fs (q - 1) (by omega)]
      refine ev_pos (by omega) (ev_pos (by omega) (ev_pos (by omega) (ev_neg (by show ¬ (f : Int) ≤ (fr fs q : Int); omega) ?_)))
      rw [w64s q (by omega)]; exact hr
theorem at_impl {v : List Int} (hv : Vals v) {fs : List Nat} (hl : fs.length ≤ 1000) {i f : Nat} (h : Stands v fs i f) : Ev (fun k => impl_valueAt.f k (keys v fs) (f : Int)) (valAt v fs i f) := by
  obtain ⟨hi, hf, hlt, hb, h0⟩ := h
  have hkl := keys_len v fs
  refine ev_for1 i (fun k q (_ : Unit) => impl_valueAt.l0 k (keys v fs) (f : Int) (keys v fs) ((keys v fs).length : Int) (q : Int)) (fun _ _ => True) _ ?_ ?_ 0 () (Nat.zero_le _) trivial
  · intro _ _
    refine st_impl_valueAt_l0 (ev_pos (by omega) (ev_pos (by omega) (ev_pos (by omega) ?_)))
    rw [rd_key v fs i hi]
    refine ev_pos (by show (f : Int) ≤ (fr fs i : Int); omega) ?_
    unfold valAt
    by_cases hi0 : i = 0
    · subst hi0
      rw [if_pos rfl, h0 rfl]
      exact ev_pos rfl (ev_some rfl)
    · rw [if_neg hi0]
      have hprev := hb (i - 1) (by omega)
      refine ev_neg (by omega) ?_
      by_cases hfe : f = fr fs i
      · refine ev_pos (by show (f : Int) = (fr fs i : Int); omega) (ev_some ?_)
        rw [hfe, line_end v _ _ (by omega)]; rfl
      · refine ev_neg (by show ¬ (f : Int) = (fr fs i : Int); omega) ?_
        have e1 : wrap64 ((i : Int) - 1) = ((i - 1 : Nat) : Int) := by rw [w64 (by omega) (by omega)]; omega
        rw [e1, rd_key v fs (i - 1) (by omega)]
        exact ev_pos (by omega) (ev_pos (by omega) (ev_bindc (on_impl hv (fr fs (i - 1)) (fr fs i) f (by omega) hlt (by omega) hf) (ev_some rfl)))
  · intro q _ hq _
    refine .inr ⟨(), trivial, fun r hr => st_impl_valueAt_l0 (ev_pos (by omega) (ev_pos (by omega) (ev_pos (by omega) ?_)))⟩
    have hbq := hb q hq
    rw [rd_key v fs q (by omega)]
    refine ev_neg (by show ¬ (f : Int) ≤ (fr fs q : Int); omega) ?_
    rw [w64s q (by omega)]; exact hr
theorem val_bound {v : List Int} (hv : Vals v) {fs : List Nat} {i f : Nat} (h : Stands v fs i f) : (valAt v fs i f - rd v (f : Int)).natAbs ≤ 100000000 := by
  obtain ⟨hi, hf, hlt, hb, h0⟩ := h
  have h1 := hv.2.2 f (by omega)
  unfold valAt
  split
  · omega
  · have hprev := hb (i - 1) (by omega)
    have := line_bound hv (fr fs (i - 1)) (fr fs i) f (by omega) hlt (by omega) hf
    omega
theorem fits_impl {v : List Int} (hv : Vals v) (most : Int) (a b : Nat) (hab : a < b) (hb : b < v.length) (t : Bool) (ht : t = true ↔ Fits v most a b) : Ev (fun k => impl_fits.f k v (a : Int) (b : Int) most) t := by
  have hn := hv.2.1
  refine ev_pos (by omega) (ev_pos (by omega) (ev_pos (by omega) (ev_pos (by omega) ?_)))
  rw [w64s a (by omega)]
  refine ev_for1 b (fun k f (_ : Unit) => impl_fits.l0 k v (b : Int) most (f : Int) (a : Int) (rd v (a : Int)) (b : Int) (rd v (b : Int))) (fun f _ => a < f ∧ ∀ g, a < g → g < f → Near v most a b g) t ?_ ?_ (a + 1) () (by omega) ⟨by omega, fun g h1 h2 => by omega⟩
  · rintro _ ⟨_, h⟩
    exact st_impl_fits_l0 (ev_neg (by omega) (ev_some (ht.2 h).symm))
  · rintro f _ hf ⟨haf, h⟩
    have h1 := line_bound hv a b f hab hb (by omega) (by omega)
    have h2 := hv.2.2 f (by omega)
    have hs := size_small (line v a b f - rd v (f : Int)) (by omega)
    by_cases hok : Near v most a b f
    · refine .inr ⟨(), ⟨by omega, fun g g1 g2 => ?_⟩, fun r hr => st_impl_fits_l0 (ev_pos (by omega) (ev_bindc (on_impl hv a b f hab hb (by omega) (by omega)) (ev_pos (by omega) (ev_pos (by omega) (ev_bindc hs (ev_neg (by unfold Near at hok; omega) ?_))))))⟩
      · rcases Nat.lt_or_ge g f with h3 | h3
        · exact h g g1 h3
        · obtain rfl : g = f := by omega
          exact hok
      · rw [w64s f (by omega)]; exact hr
    · have : t = false := by
        cases t with
        | false => rfl
        | true => exact absurd (ht.1 rfl f haf hf) hok
      subst this
      exact .inl (st_impl_fits_l0 (ev_pos (by omega) (ev_bindc (on_impl hv a b f hab hb (by omega) (by omega)) (ev_pos (by omega) (ev_pos (by omega) (ev_bindc hs (ev_pos (by unfold Near at hok; omega) (ev_some rfl))))))))
theorem spans_spec {v : List Int} (hv : Vals v) (most : Int) (hm : 0 ≤ most) (a b : Nat) (hab : a < b) (hb : b < v.length) (t : Bool) (ht : t = true ↔ Fits v most a b) : Ev (fun k => spec_l11Spans.f k v (a : Int) (b : Int) most) t := by
  have hn := hv.2.1
  refine ev_pos (by omega) (ev_pos (by omega) (ev_pos (by omega) (ev_pos (by omega) ?_)))
  have hst : ∀ f, a < f → f ≤ b → Stands v [a, b] 1 f := fun f h1 h2 => ⟨by simp, h2, hb, fun q hq => (by
    obtain rfl : q = 0 := by omega
    exact h1), fun h => by omega⟩
  refine ev_for1 (b + 1) (fun k f (_ : Unit) => spec_l11Spans.l0 k v (b : Int) most (keys v [a, b]) (f : Int)) (fun f _ => a ≤ f ∧ ∀ g, a < g → g < b → g < f → Near v most a b g) t ?_ ?_ a () (by omega) ⟨by omega, fun g h1 _ h2 => by omega⟩
  · rintro _ ⟨_, h⟩
    exact st_spec_l11Spans_l0 (ev_neg (by omega) (ev_some (ht.2 (fun f h1 h2 => h f h1 h2 (by omega))).symm))
  · rintro f _ hf ⟨haf, h⟩
    have h2 := hv.2.2 f (by omega)
    by_cases hfa : f = a
    · subst hfa
      have hat := at_spec hv (fs := [f, b]) (by simp) (i := 0) (f := f) ⟨by simp, Nat.le_refl _, by show f < _; omega, fun q hq => by omega, fun _ => rfl⟩
      have hs := abs_small (rd v (f : Int) - rd v (f : Int)) (by omega)
      refine .inr ⟨(), ⟨by omega, fun g g1 g2 g3 => by omega⟩, fun r hr => st_spec_l11Spans_l0 (ev_pos (by omega) (Ev.bind hat (ev_pos (by omega) (ev_pos (by omega) (ev_bindc hs (ev_neg (by omega) ?_))))))⟩
      rw [w64s f (by omega)]; exact hr
    · have hat := at_spec hv (by simp) (hst f (by omega) (by omega))
      have h1 := line_bound hv a b f hab hb (by omega) (by omega)
      have hs := abs_small (line v a b f - rd v (f : Int)) (by omega)
      by_cases hok : Near v most a b f
      · refine .inr ⟨(), ⟨by omega, fun g g1 g2 g3 => ?_⟩, fun r hr => st_spec_l11Spans_l0 (ev_pos (by omega) (Ev.bind hat (ev_pos (by omega) (ev_pos (by omega) (ev_bindc hs (ev_neg (by unfold Near at hok; omega) ?_))))))⟩
        · rcases Nat.lt_or_ge g f with h3 | h3
          · exact h g g1 g2 h3
          · obtain rfl : g = f := by omega
            exact hok
        · rw [w64s f (by omega)]; exact hr
      · have hfb : f ≠ b := fun e => hok (by unfold Near; rw [e, line_end v a b hab]; simpa using hm)
        have : t = false := by
          cases t with
          | false => rfl
          | true => exact absurd (ht.1 rfl f (by omega) (by omega)) hok
        subst this
        exact .inl (st_spec_l11Spans_l0 (ev_pos (by omega) (Ev.bind hat (ev_pos (by omega) (ev_pos (by omega) (ev_bindc hs (ev_pos (by unfold Near at hok; omega) (ev_some rfl))))))))
def Inc (n : Nat) : List Nat → Prop
  | [] => False
  | [j] => j + 1 = n
  | j :: b :: r => j < b ∧ Inc n (b :: r)
def Way (v : List Int) (most : Int) : List Nat → Prop
  | [] => False
  | [j] => j + 1 = v.length
  | j :: b :: r => j < b ∧ Fits v most j b ∧ Way v most (b :: r)
theorem way_inc {v : List Int} {most : Int} : ∀ {fs : List Nat}, Way v most fs → Inc v.length fs
  | [], h => h
  | [_], h => h
  | _ :: _ :: _, h => ⟨h.1, way_inc h.2.2⟩
theorem way_fits {v : List Int} {most : Int} : ∀ {fs : List Nat}, Way v most fs → ∀ i, i + 1 < fs.length → Fits v most (fr fs i) (fr fs (i + 1))
  | [], h, _, _ => h.elim
  | [_], _, i, hi => by simp at hi
  | j :: b :: r, h, 0, _ => h.2.1
  | j :: b :: r, h, i + 1, hi => way_fits h.2.2 i (by simpa using hi)
theorem way_of {v : List Int} {most : Int} : ∀ {fs : List Nat}, Inc v.length fs → (∀ i, i + 1 < fs.length → Fits v most (fr fs i) (fr fs (i + 1))) → Way v most fs
  | [], h, _ => h
  | [_], h, _ => h
  | j :: b :: r, h, k => ⟨h.1, k 0 (by simp), way_of h.2 fun i hi => k (i + 1) (by simpa using hi)⟩
theorem inc_up {n : Nat} : ∀ {fs : List Nat}, Inc n fs → ∀ i, i + 1 < fs.length → fr fs i < fr fs (i + 1)
  | [], h, _, _ => h.elim
  | [_], _, i, hi => by simp at hi
  | j :: b :: r, h, 0, _ => h.1
  | j :: b :: r, h, i + 1, hi => inc_up h.2 i (by simpa using hi)
theorem inc_last {n : Nat} : ∀ {fs : List Nat}, Inc n fs → 0 < fs.length ∧ fr fs (fs.length - 1) + 1 = n
  | [], h => h.elim
  | [_], h => ⟨by simp, h⟩
  | j :: b :: r, h => ⟨by simp, (inc_last h.2).2⟩
theorem inc_len {n : Nat} : ∀ {fs : List Nat}, Inc n fs → fr fs 0 + fs.length ≤ n
  | [], h => h.elim
  | [j], h => by have h : j + 1 = n := h; show j + 1 ≤ n; omega
  | j :: b :: r, h => by
    have h1 := inc_len h.2
    have h2 : j < b := h.1
    have h1 : b + (r.length + 1) ≤ n := h1
    show j + (r.length + 1 + 1) ≤ n
    omega
theorem inc_mono {n : Nat} {fs : List Nat} (h : Inc n fs) : ∀ d i, i + d < fs.length → fr fs i + d ≤ fr fs (i + d)
  | 0, i, _ => by simp
  | d + 1, i, hi => by
    have h1 := inc_mono h d i (by omega)
    have h2 := inc_up h (i + d) (by omega)
    show fr fs i + (d + 1) ≤ fr fs (i + d + 1)
    omega
theorem inc_lt {n : Nat} {fs : List Nat} (h : Inc n fs) (i : Nat) (hi : i < fs.length) : fr fs i < n := by
  have h1 := inc_last h
  have h2 := inc_mono h (fs.length - 1 - i) i (by omega)
  rw [show i + (fs.length - 1 - i) = fs.length - 1 by omega] at h2
  omega
theorem stands {v : List Int} {fs : List Nat} (h : Inc v.length fs) (h0 : fr fs 0 = 0) (f : Nat) (hf : f < v.length) : ∃ i, Stands v fs i f := by
  have key : ∀ m, m ≤ fs.length → (∀ q, q < m → fr fs q < f) ∨ ∃ i, i < m ∧ f ≤ fr fs i ∧ ∀ q, q < i → fr fs q < f := by
    intro m
    induction m with
    | zero => intro _; exact .inl (fun q hq => by omega)
    | succ m ih =>
      intro hm
      rcases ih (by omega) with g | ⟨i, g1, g2, g3⟩
      · by_cases hc : fr fs m < f
        · refine .inl (fun q hq => ?_)
          rcases Nat.lt_or_ge q m with g' | g'
          · exact g q g'
          · obtain rfl : q = m := by omega
            exact hc
        · exact .inr ⟨m, by omega, by omega, g⟩
      · exact .inr ⟨i, by omega, g2, g3⟩
  have hl := inc_last h
  rcases key fs.length (Nat.le_refl _) with g | ⟨i, g1, g2, g3⟩
  · have := g (fs.length - 1) (by omega)
    omega
  · exact ⟨i, g1, g2, inc_lt h i g1, g3, fun e => by subst e; omega⟩
def Sem (v : List Int) (most : Int) (S X : List Int) (i : Nat) : Prop := ∀ j : Nat, i ≤ j → j < v.length →
  (j + 1 = v.length → rd S (j : Int) = 0) ∧ (j + 1 < v.length → ∃ b : Nat, rd X (j : Int) = (b : Int) ∧ j < b ∧ b < v.length ∧ Fits v most j b ∧ rd S (j : Int) = rd S (b : Int) + 1) ∧
  (∀ b : Nat, j < b → b < v.length → Fits v most j b → rd S (j : Int) ≤ rd S (b : Int) + 1) ∧ 0 ≤ rd S (j : Int) ∧ rd S (j : Int) + j + 1 ≤ v.length
theorem rd_set_same (l : List Int) (a : Nat) (s : Int) (h : a < l.length) : rd (l.set a s) (a : Int) = s := by
  rw [rd_get (by simpa using h), List.getElem_set_self]
theorem rd_set_ne (l : List Int) (a j : Nat) (s : Int) (h : j ≠ a) : rd (l.set a s) (j : Int) = rd l (j : Int) := by
  simp only [rd_nat, List.getD_eq_getElem?_getD]
  rw [List.getElem?_set_ne (Ne.symm h)]
def Good (v : List Int) (most : Int) (ks : List S41) : Prop := ∃ fs, ks = keys v fs ∧ Way v most fs ∧ fr fs 0 = 0 ∧ ∀ gs, Way v most gs → fr gs 0 = 0 → fs.length ≤ gs.length
theorem fewest_way {v : List Int} {most : Int} {S X : List Int} (hs : Sem v most S X 0) : ∀ {fs : List Nat}, Way v most fs → rd S (fr fs 0 : Int) + 1 ≤ (fs.length : Int)
  | [], h => h.elim
  | [j], h => by
    have h : j + 1 = v.length := h
    have := (hs j (Nat.zero_le _) (by omega)).1 h
    show rd S (j : Int) + 1 ≤ ((1 : Nat) : Int)
    omega
  | j :: b :: r, h => by
    have h1 := fewest_way hs h.2.2
    have hb := inc_lt (way_inc h.2.2) 0 (by simp)
    have hb : b < v.length := hb
    have hjb : j < b := h.1
    have h2 := (hs j (Nat.zero_le _) (by omega)).2.2.1 b hjb hb h.2.1
    have h1 : rd S (b : Int) + 1 ≤ ((r.length + 1 : Nat) : Int) := h1
    show rd S (j : Int) + 1 ≤ ((r.length + 1 + 1 : Nat) : Int)
    omega
theorem path {v : List Int} (hv : Vals v) {most : Int} {S X : List Int} (hX : X.length = v.length) (hs : Sem v most S X 0) : ∀ (d j : Nat), v.length - j = d → j < v.length →
    ∃ fs, Way v most fs ∧ fr fs 0 = j ∧ (fs.length : Int) = rd S (j : Int) + 1 ∧ (∀ acc : List S41, acc.length ≤ j → Ev (fun k => spec_FewestKeys.l2 k v (v.length : Int) X acc (j : Int)) (acc ++ keys v fs, true)) ∧
      (∀ acc : List S41, acc.length ≤ j → Ev (fun k => impl_FewestKeys.l2 k v (v.length : Int) X (acc ++ [key v j]) (j : Int)) (acc ++ keys v fs, true)) := by
  have hn := hv.2.1
  intro d
  induction d using Nat.strongRecOn with
  | _ d ih =>
    intro j hd hj
    have hsj := hs j (Nat.zero_le _) hj
    have e1 : wrap64 ((v.length : Int) - 1) = (v.length : Int) - 1 := w64 (by omega) (by omega)
    by_cases hlast : j + 1 = v.length
    · refine ⟨[j], hlast, rfl, by rw [hsj.1 hlast]; rfl, fun acc ha => ?_, fun acc ha => ?_⟩
      · refine st_spec_FewestKeys_l2 (ev_pos (by omega) (ev_pos (by omega) (ev_pos (by omega) (ev_bindc rfl ?_))))
        rw [e1]
        exact ev_pos (by omega) (ev_some rfl)
      · refine st_impl_FewestKeys_l2 ?_
        rw [e1]
        exact ev_neg (by omega) (ev_some rfl)
    · obtain ⟨b, hb, hjb, hbn, hfit, hnd⟩ := hsj.2.1 (by omega)
      obtain ⟨fs, w1, w2, w3, w4, w5⟩ := ih (v.length - b) (by omega) b rfl hbn
      have hfs : ∃ r, fs = b :: r := by
        cases fs with
        | nil => exact w1.elim
        | cons x r => exact ⟨r, by have w2 : x = b := w2; rw [w2]⟩
      obtain ⟨r, rfl⟩ := hfs
      refine ⟨j :: b :: r, ⟨hjb, hfit, w1⟩, rfl, by rw [List.length_cons]; omega, fun acc ha => ?_, fun acc ha => ?_⟩
      · refine st_spec_FewestKeys_l2 (ev_pos (by omega) (ev_pos (by omega) (ev_pos (by omega) (ev_bindc rfl ?_))))
        rw [e1]
        refine ev_neg (by omega) (ev_pos (by omega) ?_)
        rw [hb]
        have := w4 (acc ++ [key v j]) (by rw [List.length_append, List.length_singleton]; omega)
        rw [List.append_assoc] at this
        exact this
      · refine st_impl_FewestKeys_l2 ?_
        rw [e1, hb]
        refine ev_pos (by omega) (ev_pos (by omega) (ev_pos (by omega) (ev_pos (by omega) (ev_pos (by omega) (ev_pos (by rw [List.length_append, List.length_singleton]; omega) ?_)))))
        have := w5 (acc ++ [key v j]) (by rw [List.length_append, List.length_singleton]; omega)
        rw [List.append_assoc acc [key v j] (keys v (b :: r))] at this
        exact this
theorem good_of {v : List Int} (hv : Vals v) {most : Int} {S I X : List Int} (hX : X.length = v.length) (hs : Sem v most S X 0) : ∃ ks, Ev (fun k => spec_FewestKeys.l0 k v most (v.length : Int) S X (-1)) (ks, true) ∧ Ev (fun k => impl_FewestKeys.l0 k v most (v.length : Int) I X (-1)) (ks, true) ∧ Good v most ks := by
  have h1 := hv.1
  obtain ⟨fs, w1, w2, w3, w4, w5⟩ := path hv hX hs v.length 0 (by omega) (by omega)
  refine ⟨keys v fs, st_spec_FewestKeys_l0 (ev_neg (by omega) (w4 [] (by simp))), st_impl_FewestKeys_l0 (ev_neg (by omega) (ev_pos (by omega) (w5 [] (by simp)))), fs, rfl, w1, w2, fun gs g1 g2 => ?_⟩
  have := fewest_way hs g1
  rw [g2] at this
  omega
def J (v : List Int) (most : Int) (S : List Int) (a b : Nat) (s x : Int) : Prop :=
  (s = -1 ∧ ∀ c : Nat, a < c → c < b → ¬ Fits v most a c) ∨ (0 ≤ s ∧ (∃ c : Nat, x = (c : Int) ∧ a < c ∧ c < b ∧ Fits v most a c ∧ s = rd S (c : Int) + 1) ∧ ∀ c : Nat, a < c → c < b → Fits v most a c → s ≤ rd S (c : Int) + 1)
theorem J_sign {v : List Int} {most : Int} {S : List Int} {a b : Nat} {s x : Int} (h : J v most S a b s x) : s = -1 ∨ 0 ≤ s := by
  rcases h with ⟨h, _⟩ | ⟨h, _⟩
  · exact .inl h
  · exact .inr h
theorem J_put {v : List Int} {most : Int} {S : List Int} {a b : Nat} {s x : Int} (h : J v most S a b s x) (hab : a < b) (hb : s = -1 ∨ rd S (b : Int) + 1 < s) (hf : Fits v most a b) (h0 : 0 ≤ rd S (b : Int)) : J v most S a (b + 1) (rd S (b : Int) + 1) (b : Int) := by
  refine .inr ⟨by omega, ⟨b, rfl, hab, by omega, hf, rfl⟩, fun c h1 h2 h3 => ?_⟩
  rcases Nat.lt_or_ge c b with h4 | h4
  · rcases h with ⟨_, hno⟩ | ⟨_, _, hmin⟩
    · exact absurd h3 (hno c h1 h4)
    · have := hmin c h1 h4 h3
      omega
  · obtain rfl : c = b := by omega
    exact Int.le_refl _
theorem J_keep {v : List Int} {most : Int} {S : List Int} {a b : Nat} {s x : Int} (h : J v most S a b s x) (hk : ¬ Fits v most a b ∨ ¬ (s = -1 ∨ rd S (b : Int) + 1 < s)) : J v most S a (b + 1) s x := by
  rcases h with ⟨hs1, hno⟩ | ⟨hs0, ⟨c, hx, hac, hcb, hcf, hsc⟩, hmin⟩
  · refine .inl ⟨hs1, fun c h1 h2 h3 => ?_⟩
    rcases Nat.lt_or_ge c b with h4 | h4
    · exact hno c h1 h4 h3
    · obtain rfl : c = b := by omega
      rcases hk with h5 | h5
      · exact h5 h3
      · exact h5 (.inl hs1)
  · refine .inr ⟨hs0, ⟨c, hx, hac, by omega, hcf, hsc⟩, fun c' h1 h2 h3 => ?_⟩
    rcases Nat.lt_or_ge c' b with h4 | h4
    · exact hmin c' h1 h4 h3
    · obtain rfl : c' = b := by omega
      rcases hk with h5 | h5
      · exact absurd h3 h5
      · exact Int.not_lt.1 (fun h6 => h5 (.inr h6))
theorem J_end {v : List Int} {most : Int} {S X : List Int} {a : Nat} {s x : Int} (hJ : J v most S a v.length s x) (ha : a + 1 < v.length) (hS : S.length = v.length) (hX : X.length = v.length) (hs : Sem v most S X (a + 1)) : Sem v most (S.set a s) (X.set a x) a := by
  have hfit1 : Fits v most a (a + 1) := fun f h1 h2 => by omega
  rcases hJ with ⟨_, hno⟩ | ⟨hs0, ⟨c, hx, hac, hcn, hcf, hsc⟩, hmin⟩
  · exact absurd hfit1 (hno (a + 1) (by omega) ha)
  · intro j haj hj
    rcases Nat.lt_or_ge a j with hlt | hge
    · have h := hs j hlt hj
      rw [rd_set_ne S a j s (by omega), rd_set_ne X a j x (by omega)]
      refine ⟨h.1, fun hj1 => ?_, fun b' hb1 hb2 hb3 => ?_, h.2.2.2⟩
      · obtain ⟨b', q1, q2, q3, q4, q5⟩ := h.2.1 hj1
        exact ⟨b', q1, q2, q3, q4, by rw [rd_set_ne S a b' s (by omega)]; exact q5⟩
      · rw [rd_set_ne S a b' s (by omega)]
        exact h.2.2.1 b' hb1 hb2 hb3
    · obtain rfl : j = a := by omega
      rw [rd_set_same S j s (by omega), rd_set_same X j x (by omega)]
      have h1 := hmin (j + 1) (by omega) ha hfit1
      have h2 := (hs (j + 1) (Nat.le_refl _) ha).2.2.2.2
      refine ⟨fun hl => by omega, fun _ => ⟨c, hx, hac, hcn, hcf, by rw [rd_set_ne S j c s (by omega)]; exact hsc⟩, fun b' hb1 hb2 hb3 => ?_, hs0, by omega⟩
      rw [rd_set_ne S j b' s (by omega)]
      exact hmin b' hb1 hb2 hb3
theorem spec_put {v : List Int} {most : Int} (S X : List Int) (n : Int) (a b : Nat) (nb s : Int) (hb' : (b : Int) < n) (ha : a < S.length) (hb : b < S.length) (hx : a < X.length) (hbl : b < 1000) (rs : rd S (a : Int) = s) (rb : rd S (b : Int) = nb) (hnb : 0 ≤ nb ∧ nb ≤ 1000) (ts : Ev (fun k => spec_l11Spans.f k v (a : Int) (b : Int) most) true) (hbet : s < 0 ∨ nb + 1 < s) (r : List S41 × Bool)
    (h : Ev (fun k => spec_FewestKeys.l1 k v most n (S.set a (nb + 1)) (X.set a (b : Int)) (a : Int) ((b + 1 : Nat) : Int)) r) : Ev (fun k => spec_FewestKeys.l1 k v most n S X (a : Int) (b : Int)) r := by
  have w1 : wrap64 (nb + 1) = nb + 1 := w64 (by omega) (by omega)
  have h' : Ev (fun k => spec_FewestKeys.l1 k v most n (S.set ((a : Int)).toNat (wrap64 (rd S (b : Int) + 1))) (X.set ((a : Int)).toNat (b : Int)) (a : Int) (wrap64 ((b : Int) + 1))) r := by
    rw [rb, w1, w64s b (by omega)]; exact h
  refine st_spec_FewestKeys_l1 (ev_pos hb' (ev_pos (by omega) (ev_pos (by omega) (ev_ite (fun _ => Ev.bind ts (ev_pos rfl (ev_pos (by omega) (ev_pos (by omega) (ev_pos (by omega) h'))))) fun hs => ?_))))
  exact ev_pos (by omega) (ev_pos (by omega) (ev_pos (by rw [rb, w1, rs]; omega) (Ev.bind ts (ev_pos rfl (ev_pos (by omega) h')))))
theorem spec_keep {v : List Int} {most : Int} (S X : List Int) (n : Int) (a b : Nat) (nb s : Int) (hb' : (b : Int) < n) (ha : a < S.length) (hb : b < S.length) (hbl : b < 1000) (rs : rd S (a : Int) = s) (rb : rd S (b : Int) = nb) (hnb : 0 ≤ nb ∧ nb ≤ 1000) (t : Bool) (ts : Ev (fun k => spec_l11Spans.f k v (a : Int) (b : Int) most) t) (hbet : t = false ∨ ¬ (s < 0 ∨ nb + 1 < s)) (r : List S41 × Bool)
    (h : Ev (fun k => spec_FewestKeys.l1 k v most n S X (a : Int) ((b + 1 : Nat) : Int)) r) : Ev (fun k => spec_FewestKeys.l1 k v most n S X (a : Int) (b : Int)) r := by
  have w1 : wrap64 (nb + 1) = nb + 1 := w64 (by omega) (by omega)
  have h' : Ev (fun k => spec_FewestKeys.l1 k v most n S X (a : Int) (wrap64 ((b : Int) + 1))) r := by rw [w64s b (by omega)]; exact h
  refine st_spec_FewestKeys_l1 (ev_pos hb' (ev_pos (by omega) (ev_pos (by omega) (ev_ite (fun hs => ?_) fun hs => ev_pos (by omega) (ev_pos (by omega) (ev_ite (fun hlt => ?_) fun _ => h'))))))
  · rcases hbet with rfl | hbet
    · exact Ev.bind ts (ev_neg (by decide) h')
    · exact absurd (.inl (by rw [← rs]; exact hs)) hbet
  · rcases hbet with rfl | hbet
    · exact Ev.bind ts (ev_neg (by decide) h')
    · rw [rb, w1, rs] at hlt
      exact absurd (.inr hlt) hbet
theorem impl_put {v : List Int} {most : Int} (I X : List Int) (n : Int) (a b : Nat) (nb s : Int) (hb' : (b : Int) < n) (ha : a < I.length) (hb : b < I.length) (hx : a < X.length) (hbl : b < 1000) (rs : rd I (a : Int) = s + 1) (rb : rd I (b : Int) = nb + 1) (hnb : 0 ≤ nb ∧ nb ≤ 1000) (ts : Ev (fun k => impl_fits.f k v (a : Int) (b : Int) most) true) (hbet : s = -1 ∨ nb + 1 < s) (r : List S41 × Bool)
    (h : Ev (fun k => impl_FewestKeys.l1 k v most n (I.set a (nb + 1 + 1)) (X.set a (b : Int)) (a : Int) ((b + 1 : Nat) : Int)) r) : Ev (fun k => impl_FewestKeys.l1 k v most n I X (a : Int) (b : Int)) r := by
  have w1 : wrap64 (nb + 1 + 1) = nb + 1 + 1 := w64 (by omega) (by omega)
  have h' : Ev (fun k => impl_FewestKeys.l1 k v most n (I.set ((a : Int)).toNat (wrap64 (rd I (b : Int) + 1))) (X.set ((a : Int)).toNat (b : Int)) (a : Int) (wrap64 ((b : Int) + 1))) r := by
    rw [rb, w1, w64s b (by omega)]; exact h
  refine st_impl_FewestKeys_l1 (ev_pos hb' (ev_pos (by omega) (ev_pos (by omega) (ev_ite (fun _ => Ev.bind ts (ev_pos rfl (ev_pos (by omega) (ev_pos (by omega) (ev_pos (by omega) h'))))) fun hs => ?_))))
  exact ev_pos (by omega) (ev_pos (by omega) (ev_pos (by rw [rb, w1, rs]; omega) (Ev.bind ts (ev_pos rfl (ev_pos (by omega) h')))))
theorem impl_keep {v : List Int} {most : Int} (I X : List Int) (n : Int) (a b : Nat) (nb s : Int) (hb' : (b : Int) < n) (ha : a < I.length) (hb : b < I.length) (hbl : b < 1000) (rs : rd I (a : Int) = s + 1) (rb : rd I (b : Int) = nb + 1) (hnb : 0 ≤ nb ∧ nb ≤ 1000) (t : Bool) (ts : Ev (fun k => impl_fits.f k v (a : Int) (b : Int) most) t) (hbet : t = false ∨ ¬ (s = -1 ∨ nb + 1 < s)) (r : List S41 × Bool)
    (h : Ev (fun k => impl_FewestKeys.l1 k v most n I X (a : Int) ((b + 1 : Nat) : Int)) r) : Ev (fun k => impl_FewestKeys.l1 k v most n I X (a : Int) (b : Int)) r := by
  have w1 : wrap64 (nb + 1 + 1) = nb + 1 + 1 := w64 (by omega) (by omega)
  have h' : Ev (fun k => impl_FewestKeys.l1 k v most n I X (a : Int) (wrap64 ((b : Int) + 1))) r := by rw [w64s b (by omega)]; exact h
  refine st_impl_FewestKeys_l1 (ev_pos hb' (ev_pos (by omega) (ev_pos (by omega) (ev_ite (fun hs => ?_) fun hs => ev_pos (by omega) (ev_pos (by omega) (ev_ite (fun hlt => ?_) fun _ => h'))))))
  · rcases hbet with rfl | hbet
    · exact Ev.bind ts (ev_neg (by decide) h')
    · exact absurd (.inl (by omega)) hbet
  · rcases hbet with rfl | hbet
    · exact Ev.bind ts (ev_neg (by decide) h')
    · rw [rb, w1, rs] at hlt
      exact absurd (.inr (by omega)) hbet
theorem inner {v : List Int} (hv : Vals v) {most : Int} (hm : 0 ≤ most) (a : Nat) (S I X : List Int) (ha : a + 1 < v.length) (hS : S.length = v.length) (hI : I.length = v.length) (hX : X.length = v.length)
    (hrel : ∀ j : Nat, a + 1 ≤ j → j < v.length → rd I (j : Int) = rd S (j : Int) + 1) (hs : Sem v most S X (a + 1))
    (next : ∀ s x : Int, Sem v most (S.set a s) (X.set a x) a → ∃ ks, Ev (fun k => spec_FewestKeys.l0 k v most (v.length : Int) (S.set a s) (X.set a x) ((a : Int) - 1)) (ks, true) ∧ Ev (fun k => impl_FewestKeys.l0 k v most (v.length : Int) (I.set a (s + 1)) (X.set a x) ((a : Int) - 1)) (ks, true) ∧ Good v most ks) :
    ∀ (d b : Nat) (s x : Int), v.length - b = d → a < b → b ≤ v.length → J v most S a b s x →
      ∃ ks, Ev (fun k => spec_FewestKeys.l1 k v most (v.length : Int) (S.set a s) (X.set a x) (a : Int) (b : Int)) (ks, true) ∧ Ev (fun k => impl_FewestKeys.l1 k v most (v.length : Int) (I.set a (s + 1)) (X.set a x) (a : Int) (b : Int)) (ks, true) ∧ Good v most ks := by
  have hn := hv.2.1
  intro d
  induction d with
  | zero =>
    intro b s x hd hab hbn hJ
    obtain rfl : b = v.length := by omega
    have e1 : wrap64 ((a : Int) - 1) = (a : Int) - 1 := w64 (by omega) (by omega)
    obtain ⟨ks, k1, k2, k3⟩ := next s x (J_end hJ ha hS hX hs)
    refine ⟨ks, st_spec_FewestKeys_l1 (ev_neg (Int.lt_irrefl _) ?_), st_impl_FewestKeys_l1 (ev_neg (Int.lt_irrefl _) ?_), k3⟩
    · rw [e1]; exact k1
    · rw [e1]; exact k2
  | succ d ihd =>
    intro b s x hd hab hbn hJ
    have hb : b < v.length := by omega
    have hbi : (b : Int) < (v.length : Int) := by omega
    have hnb : 0 ≤ rd S (b : Int) ∧ rd S (b : Int) ≤ 1000 := by have := (hs b (by omega) hb).2.2.2; omega
    obtain ⟨t, ht⟩ := bool_of (Fits v most a b)
    have ti := fits_impl hv most a b hab hb t ht
    have ts := spans_spec hv most hm a b hab hb t ht
    have rSb : rd (S.set a s) (b : Int) = rd S (b : Int) := rd_set_ne S a b s (by omega)
    have rIb : rd (I.set a (s + 1)) (b : Int) = rd S (b : Int) + 1 := by rw [rd_set_ne I a b (s + 1) (by omega)]; exact hrel b (by omega) hb
    have rS : rd (S.set a s) (a : Int) = s := rd_set_same S a s (by omega)
    have rI : rd (I.set a (s + 1)) (a : Int) = s + 1 := rd_set_same I a (s + 1) (by omega)
    have l1 : a < (S.set a s).length := by rw [List.length_set]; omega
    have l2 : b < (S.set a s).length := by rw [List.length_set]; omega
    have l3 : a < (I.set a (s + 1)).length := by rw [List.length_set]; omega
    have l4 : b < (I.set a (s + 1)).length := by rw [List.length_set]; omega
    have l5 : a < (X.set a x).length := by rw [List.length_set]; omega
    have hsg := J_sign hJ
    by_cases hput : Fits v most a b ∧ (s = -1 ∨ rd S (b : Int) + 1 < s)
    · obtain rfl : t = true := ht.2 hput.1
      obtain ⟨ks, k1, k2, k3⟩ := ihd (b + 1) _ _ (by omega) (by omega) (by omega) (J_put hJ hab hput.2 hput.1 hnb.1)
      refine ⟨ks, spec_put _ _ _ a b _ s hbi l1 l2 l5 (by omega) rS rSb hnb ts ?_ _ ?_, impl_put _ _ _ a b _ s hbi l3 l4 l5 (by omega) rI rIb hnb ti hput.2 _ ?_, k3⟩
      · rcases hput.2 with h | h
        · exact .inl (by omega)
        · exact .inr h
      · rw [List.set_set, List.set_set]; exact k1
      · rw [List.set_set, List.set_set]; exact k2
    · have hk : ¬ Fits v most a b ∨ ¬ (s = -1 ∨ rd S (b : Int) + 1 < s) := by
        by_cases h : Fits v most a b
        · exact .inr (fun h' => hput ⟨h, h'⟩)
        · exact .inl h
      obtain ⟨ks, k1, k2, k3⟩ := ihd (b + 1) s x (by omega) (by omega) (by omega) (J_keep hJ hk)
      have hk' : t = false ∨ ¬ (s = -1 ∨ rd S (b : Int) + 1 < s) := by
        rcases hk with h | h
        · refine .inl ?_
          cases t with
          | false => rfl
          | true => exact absurd (ht.1 rfl) h
        · exact .inr h
      refine ⟨ks, spec_keep _ _ _ a b _ s hbi l1 l2 (by omega) rS rSb hnb t ts ?_ _ k1, impl_keep _ _ _ a b _ s hbi l3 l4 (by omega) rI rIb hnb t ti hk' _ k2, k3⟩
      rcases hk' with h | h
      · exact .inl h
      · refine .inr (fun h' => h ?_)
        rcases h' with h' | h'
        · exact .inl (by omega)
        · exact .inr h'
theorem dp {v : List Int} (hv : Vals v) {most : Int} (hm : 0 ≤ most) : ∀ (i : Nat) (S I X : List Int), i + 1 ≤ v.length → S.length = v.length → I.length = v.length → X.length = v.length →
    (∀ j : Nat, i ≤ j → j < v.length → rd I (j : Int) = rd S (j : Int) + 1) → (∀ j : Nat, j < i → rd I (j : Int) = 0) → Sem v most S X i →
    ∃ ks, Ev (fun k => spec_FewestKeys.l0 k v most (v.length : Int) S X ((i : Int) - 1)) (ks, true) ∧ Ev (fun k => impl_FewestKeys.l0 k v most (v.length : Int) I X ((i : Int) - 1)) (ks, true) ∧ Good v most ks := by
  have hn := hv.2.1
  intro a
  induction a with
  | zero =>
    intro S I X hi hS hI hX hrel hz hs
    exact good_of hv hX hs
  | succ a ih =>
    intro S I X hi hS hI hX hrel hz hs
    have e0 : ((a + 1 : Nat) : Int) - 1 = (a : Int) := by omega
    rw [e0]
    have hI0 : rd I (a : Int) = 0 := hz a (by omega)
    have hXa : X.set a (rd X (a : Int)) = X := by
      rw [rd_get (by omega)]
      exact List.set_getElem_self _
    have hIa : I.set a (-1 + 1) = I := by
      have : rd I (a : Int) = I[a] := rd_get (by omega)
      rw [hI0] at this
      rw [show (-1 + 1 : Int) = 0 by omega, this]
      exact List.set_getElem_self _
    obtain ⟨ks, k1, k2, k3⟩ := inner hv hm a S I X (by omega) hS hI hX hrel hs (fun s x hsem => ih (S.set a s) (I.set a (s + 1)) (X.set a x) (by omega) (by simpa using hS) (by simpa using hI) (by simpa using hX) (fun j haj hj => by
      rcases Nat.lt_or_ge a j with hlt | hge
      · rw [rd_set_ne S a j s (by omega), rd_set_ne I a j (s + 1) (by omega)]
        exact hrel j hlt hj
      · obtain rfl : j = a := by omega
        rw [rd_set_same S j s (by omega), rd_set_same I j (s + 1) (by omega)]) (fun j hj => by
      rw [rd_set_ne I a j (s + 1) (by omega)]
      exact hz j (by omega)) hsem) (v.length - (a + 1)) (a + 1) (-1) (rd X (a : Int)) rfl (by omega) (by omega) (.inl ⟨rfl, fun c h1 h2 => by omega⟩)
    rw [hXa] at k1 k2
    rw [hIa] at k2
    refine ⟨ks, st_spec_FewestKeys_l0 (ev_pos (by omega) (ev_pos (by omega) (ev_pos (by omega) ?_))), st_impl_FewestKeys_l0 (ev_pos (by omega) ?_), k3⟩
    · rw [w64s a (by omega), Int.toNat_natCast]; exact k1
    · rw [w64s a (by omega)]; exact k2
theorem vals_impl (v : List Int) (hl : v.length ≤ 1000) (b : Bool) (hb : b = true ↔ ∀ i : Nat, i < v.length → -100000 ≤ rd v (i : Int) ∧ rd v (i : Int) ≤ 100000) : Ev (fun k => impl_areKeyValues.f k v) b := by
  have one : ∀ x : Int, impl_areKeyValues_1.f x = some (!decide (-100000 ≤ x ∧ x ≤ 100000)) := fun x => by
    unfold impl_areKeyValues_1.f impl_isKeyValue.f
    rw [inr_some]; rfl
  have key : ∃ p : Int, Ev (fun k => slices_IndexFunc_w38.f k v) p ∧ ((p = -1 ∧ b = true) ∨ (0 ≤ p ∧ b = false)) := by
    refine ev_for v.length (fun k i (_ : Unit) => slices_IndexFunc_w38.l0 k v (v.length : Int) (i : Int)) (fun i _ => ∀ j : Nat, j < i → -100000 ≤ rd v (j : Int) ∧ rd v (j : Int) ≤ 100000) (fun p => (p = -1 ∧ b = true) ∨ (0 ≤ p ∧ b = false)) ?_ ?_ 0 () (Nat.zero_le _) (fun j hj => by omega)
    · intro _ h
      exact ⟨-1, st_slices_IndexFunc_w38_l0 (ev_neg (by omega) (ev_some rfl)), .inl ⟨rfl, hb.2 h⟩⟩
    · intro i _ hi h
      by_cases hx : -100000 ≤ rd v (i : Int) ∧ rd v (i : Int) ≤ 100000
      · refine .inr ⟨(), fun j hj => ?_, fun r hr => st_slices_IndexFunc_w38_l0 (ev_pos (by omega) (ev_pos (by omega) (ev_pos (by omega) (ev_bindc (one _) (ev_neg (by rw [decide_eq_true hx]; decide) ?_)))))⟩
        · rcases Nat.lt_or_ge j i with h1 | h1
          · exact h j h1
          · obtain rfl : j = i := by omega
            exact hx
        · rw [w64s i (by omega)]; exact hr
      · refine .inl ⟨(i : Int), st_slices_IndexFunc_w38_l0 (ev_pos (by omega) (ev_pos (by omega) (ev_pos (by omega) (ev_bindc (one _) (ev_pos (by rw [decide_eq_false hx]; rfl) (ev_some rfl)))))), .inr ⟨by omega, ?_⟩⟩
        cases b with
        | false => rfl
        | true => exact absurd (hb.1 rfl i hi) hx
  obtain ⟨p, hp, hq⟩ := key
  refine Ev.bind (Ev.bind hp (ev_some rfl)) (ev_some ?_)
  rcases hq with ⟨rfl, rfl⟩ | ⟨h0, rfl⟩
  · rfl
  · rw [decide_eq_true (by omega)]; rfl
theorem vals_spec (v : List Int) (hl : v.length ≤ 1000) (b : Bool) (hb : b = true ↔ Vals v) : Ev (fun k => spec_l11Values.f k v) b := by
  have no : ¬ Vals v → b = false := bool_false hb
  have one : ∀ x : Int, spec_l11Value.f x = some (decide (-100000 ≤ x ∧ x ≤ 100000)) := fun x => by
    unfold spec_l11Value.f
    rw [in_some]; rfl
  have j0t : Ev (fun k => spec_l11Values.j0 k v true) false := st_spec_l11Values_j0 (ev_pos rfl (ev_some rfl))
  refine ev_ite (fun h => by rw [no (fun h' => by have := h'.1; omega)]; exact j0t) fun h => ?_
  by_cases h60 : (v.length : Int) > 60
  · rw [decide_eq_true h60, no (fun h' => by have := h'.2.1; omega)]; exact j0t
  · rw [decide_eq_false h60]
    refine st_spec_l11Values_j0 (ev_neg (by decide) ?_)
    refine ev_all v.length (fun k i => spec_l11Values.l0 k v (v.length : Int) (i : Int)) (fun i => -100000 ≤ rd v (i : Int) ∧ rd v (i : Int) ≤ 100000) true b ?_ ?_ ?_ ?_
    · rw [hb]; unfold Vals; exact ⟨fun h' => ⟨rfl, h'.2.2⟩, fun h' => ⟨by omega, by omega, h'.2⟩⟩
    · exact st_spec_l11Values_l0 (ev_neg (by omega) (ev_some rfl))
    · intro i hi _ hx r hr
      refine st_spec_l11Values_l0 (ev_pos (by omega) (ev_pos (by omega) (ev_pos (by omega) (ev_bindc (one _) (ev_pos (decide_eq_true hx) ?_)))))
      rw [w64s i (by omega)]; exact hr
    · intro i hi _ hx
      exact st_spec_l11Values_l0 (ev_pos (by omega) (ev_pos (by omega) (ev_pos (by omega) (ev_bindc (one _) (ev_neg (by rw [decide_eq_false hx]; decide) (ev_some rfl))))))
theorem fewest_same (v : List Int) (hl : v.length ≤ 1000) (most : Int) : ∃ ks ok, Ev (fun k => spec_FewestKeys.f k v most) (ks, ok) ∧ Ev (fun k => impl_FewestKeys.f k v most) (ks, ok) ∧ (ok = true → Vals v ∧ 0 ≤ most ∧ Good v most ks) := by
  have si : ∀ x, Ev (fun k => spec_FewestKeys.j0 k v most x) ([], false) → Ev (fun k => spec_FewestKeys.j0 k v most x) ([], false) := fun _ h => h
  have sj : Ev (fun k => spec_FewestKeys.j0 k v most true) ([], false) := st_spec_FewestKeys_j0 (ev_pos rfl (ev_some rfl))
  have ij : Ev (fun k => impl_FewestKeys.j0 k v most (v.length : Int) true) ([], false) := st_impl_FewestKeys_j0 (ev_pos rfl (ev_some rfl))
  obtain ⟨b, hb⟩ := bool_of (Vals v)
  obtain ⟨c, hc⟩ := bool_of (∀ i : Nat, i < v.length → -100000 ≤ rd v (i : Int) ∧ rd v (i : Int) ≤ 100000)
  have hs := vals_spec v hl b hb
  have hi := vals_impl v hl c hc
  cases b with
  | false =>
    refine ⟨[], false, Ev.bind hs (ev_neg (by decide) sj), ev_bindc (inr_some _ _ _) (ev_ite (fun h => Ev.bind hi (ev_ite (fun h2 => ?_) fun _ => ij)) fun _ => ij), fun h => by cases h⟩
    have h := of_decide_eq_true h
    have : (false = true) := hb.2 ⟨by omega, by omega, hc.1 h2⟩
    cases this
  | true =>
    have hv := hb.1 rfl
    have h1 := hv.1
    have h2 := hv.2.1
    obtain rfl : c = true := hc.2 hv.2.2
    by_cases hm : 0 ≤ most ∧ most ≤ 100000
    · have e1 : wrap64 ((v.length : Int) - 1) = ((v.length - 1 : Nat) : Int) := by rw [w64 (by omega) (by omega)]; omega
      have e2 : wrap64 ((v.length : Int) - 2) = ((v.length - 1 : Nat) : Int) - 1 := by rw [w64 (by omega) (by omega)]; omega
      have rz : ∀ j : Nat, j < v.length → rd (List.replicate v.length 0) (j : Int) = 0 := fun j hj => by
        rw [rd_get (by simpa using hj)]; simp
      have hlr : (List.replicate v.length (0 : Int)).length = v.length := List.length_replicate
      obtain ⟨ks, k1, k2, k3⟩ := dp hv hm.1 (v.length - 1) (List.replicate v.length 0) ((List.replicate v.length 0).set (v.length - 1) 1) (List.replicate v.length 0) (by omega) hlr (by rw [List.length_set]; exact hlr) hlr (fun j hj1 hj2 => by
        obtain rfl : j = v.length - 1 := by omega
        rw [rd_set_same _ _ _ (by rw [hlr]; omega), rz _ hj2]; rfl) (fun j hj => by
        rw [rd_set_ne _ _ _ _ (by omega)]; exact rz j (by omega)) (fun j hj1 hj2 => by
        rw [rz j hj2]
        exact ⟨fun _ => rfl, fun h => by omega, fun b hb1 hb2 => by omega, by omega, by omega⟩)
      refine ⟨ks, true, Ev.bind hs (ev_pos rfl (ev_bindc (in_some _ _ _) ?_)), ev_bindc (inr_some _ _ _) (ev_pos (decide_eq_true (by omega)) (Ev.bind hi (ev_pos rfl (ev_bindc (inr_some _ _ _) ?_)))), fun _ => ⟨hv, hm.1, k3⟩⟩
      · rw [decide_eq_true hm]
        refine st_spec_FewestKeys_j0 (ev_neg (by decide) (ev_pos (by omega) (ev_pos (by omega) ?_)))
        rw [e2, Int.toNat_natCast]; exact k1
      · rw [decide_eq_true hm]
        refine st_impl_FewestKeys_j0 (ev_neg (by decide) (ev_pos (by omega) (ev_pos (by omega) (ev_bindc rfl ?_))))
        rw [e1, e2, Int.toNat_natCast, Int.toNat_natCast]
        exact ev_pos (by omega) (ev_pos (by rw [hlr]; omega) k2)
    · refine ⟨[], false, Ev.bind hs (ev_pos rfl (ev_bindc (in_some _ _ _) (by rw [decide_eq_false hm]; exact sj))), ev_bindc (inr_some _ _ _) (ev_pos (decide_eq_true (by omega)) (Ev.bind hi (ev_pos rfl (ev_bindc (inr_some _ _ _) (by rw [decide_eq_false hm]; exact ij))))), fun h => by cases h⟩
theorem keys_in {v : List Int} (hv : Vals v) {fs : List Nat} (h : Inc v.length fs) (i : Nat) (hi : i < fs.length) : (0 ≤ (key v (fr fs i)).f0 ∧ (key v (fr fs i)).f0 ≤ 59) ∧ (-100000 ≤ (key v (fr fs i)).f1 ∧ (key v (fr fs i)).f1 ≤ 100000) := by
  have h1 := inc_lt h i hi
  have h2 := hv.2.1
  have h3 := hv.2.2 _ h1
  exact ⟨⟨by show (0 : Int) ≤ (fr fs i : Int); omega, by show (fr fs i : Int) ≤ 59; omega⟩, h3⟩
theorem areKeys_impl {v : List Int} (hv : Vals v) {fs : List Nat} (h : Inc v.length fs) : Ev (fun k => impl_areKeys.f k (keys v fs) 60) true := by
  have hl := inc_len h
  have hp := (inc_last h).1
  have h60 := hv.2.1
  have hkl := keys_len v fs
  have e59 : wrap64 ((60 : Int) - 1) = 59 := w64 (by omega) (by omega)
  refine ev_for1 fs.length (fun k i (_ : Unit) => impl_areKeys.l0 k (keys v fs) 60 (keys v fs) ((keys v fs).length : Int) (i : Int)) (fun _ _ => True) _ ?_ ?_ 0 () (Nat.zero_le _) trivial
  · intro _ _
    exact st_impl_areKeys_l0 (ev_neg (by omega) (ev_bindc (inr_some _ _ _) (ev_some (decide_eq_true (by omega)))))
  · intro i _ hi _
    refine .inr ⟨(), trivial, fun r hr => st_impl_areKeys_l0 (ev_pos (by omega) (ev_pos (by omega) (ev_pos (by omega) ?_)))⟩
    obtain ⟨k1, k2⟩ := keys_in hv h i hi
    have one : impl_isKeyValue.f (key v (fr fs i)).f1 = some true := by
      unfold impl_isKeyValue.f
      rw [inr_some, decide_eq_true k2]; rfl
    rw [e59, rd_key v fs i hi]
    refine ev_bindc (inr_some _ _ _) (ev_pos (decide_eq_true k1) (ev_bindc one (ev_pos rfl ?_)))
    rw [w64s i (by omega)]
    refine ev_ite (fun h0 => ?_) fun _ => hr
    have e1 : wrap64 ((i : Int) - 1) = ((i - 1 : Nat) : Int) := by rw [w64 (by omega) (by omega)]; omega
    rw [e1, rd_key v fs (i - 1) (by omega)]
    have hup := inc_up h (i - 1) (by omega)
    rw [show i - 1 + 1 = i by omega] at hup
    exact ev_pos (by omega) (ev_pos (by omega) (ev_neg (by show ¬ (fr fs (i - 1) : Int) ≥ (fr fs i : Int); omega) hr))
theorem areKeys_spec {v : List Int} (hv : Vals v) {fs : List Nat} (h : Inc v.length fs) : Ev (fun k => spec_l11Keys.f k (keys v fs) 60) true := by
  have hl := inc_len h
  have hp := (inc_last h).1
  have h60 := hv.2.1
  have hkl := keys_len v fs
  have e59 : wrap64 ((60 : Int) - 1) = 59 := w64 (by omega) (by omega)
  refine ev_neg (by omega) ?_
  rw [decide_eq_false (by omega)]
  refine st_spec_l11Keys_j0 (ev_neg (by decide) ?_)
  refine ev_for1 fs.length (fun k i (_ : Unit) => spec_l11Keys.l0 k (keys v fs) 60 (keys v fs) ((keys v fs).length : Int) (i : Int)) (fun _ _ => True) _ ?_ ?_ 0 () (Nat.zero_le _) trivial
  · intro _ _
    exact st_spec_l11Keys_l0 (ev_neg (by omega) (ev_some rfl))
  · intro i _ hi _
    refine .inr ⟨(), trivial, fun r hr => st_spec_l11Keys_l0 (ev_pos (by omega) (ev_pos (by omega) (ev_pos (by omega) ?_)))⟩
    obtain ⟨k1, k2⟩ := keys_in hv h i hi
    have one : spec_l11Value.f (key v (fr fs i)).f1 = some true := by
      unfold spec_l11Value.f
      rw [in_some, decide_eq_true k2]; rfl
    rw [e59, rd_key v fs i hi]
    refine ev_bindc (in_some _ _ _) (ev_pos (decide_eq_true k1) (ev_bindc one (ev_pos rfl ?_)))
    rw [w64s i (by omega)]
    refine ev_ite (fun h0 => ?_) fun _ => hr
    have e1 : wrap64 ((i : Int) - 1) = ((i - 1 : Nat) : Int) := by rw [w64 (by omega) (by omega)]; omega
    rw [e1, rd_key v fs (i - 1) (by omega)]
    have hup := inc_up h (i - 1) (by omega)
    rw [show i - 1 + 1 = i by omega] at hup
    exact ev_pos (by omega) (ev_pos (by omega) (ev_neg (by show ¬ (fr fs (i - 1) : Int) ≥ (fr fs i : Int); omega) hr))
def off (v : List Int) (fs : List Nat) (i f : Nat) : Int := ((valAt v fs i f - rd v (f : Int)).natAbs : Int)
theorem worst_impl {v : List Int} (hv : Vals v) {most : Int} (hm : 0 ≤ most) {fs : List Nat} (h : Inc v.length fs) (h0 : fr fs 0 = 0) (hfit : ∀ i f, Stands v fs i f → off v fs i f ≤ most) : ∃ w, Ev (fun k => impl_WorstOf.f k v (keys v fs)) (w, true) ∧ w ≤ most := by
  have h60 := hv.2.1
  have h1 := hv.1
  have hl := inc_len h
  have key : ∃ p : Int × Bool, Ev (fun k => impl_WorstOf.l0 k (keys v fs) 0 v (v.length : Int) 0) p ∧ (p.1 ≤ most ∧ p.2 = true) := by
    refine ev_for v.length (fun k f (s : Int) => impl_WorstOf.l0 k (keys v fs) s v (v.length : Int) (f : Int)) (fun _ s => s ≤ most) (fun p => p.1 ≤ most ∧ p.2 = true) ?_ ?_ 0 0 (Nat.zero_le _) hm
    · intro s hs
      exact ⟨(s, true), st_impl_WorstOf_l0 (ev_neg (by omega) (ev_some rfl)), hs, rfl⟩
    · intro f s hf hs
      obtain ⟨i, hi⟩ := stands h h0 f hf
      have hz := size_small _ (val_bound hv hi)
      have ho := hfit i f hi
      refine .inr ⟨mx s (off v fs i f), ?_, fun r hr => st_impl_WorstOf_l0 (ev_pos (by omega) (ev_pos (by omega) (ev_pos (by omega) (Ev.bind (at_impl hv (by omega) hi) (ev_bindc hz ?_)))))⟩
      · show (if s < off v fs i f then off v fs i f else s) ≤ most
        split <;> omega
      · rw [w64s f (by omega)]; exact hr
  obtain ⟨⟨w, ok⟩, hp, hw, rfl⟩ := key
  exact ⟨w, ev_bindc (inr_some _ _ _) (ev_pos (decide_eq_true (by omega)) (Ev.bind (vals_impl v (by omega) true ⟨fun _ => hv.2.2, fun _ => rfl⟩) (ev_pos rfl (Ev.bind (areKeys_impl hv h) (st_impl_WorstOf_j0 (ev_neg (by decide) hp)))))), hw⟩
theorem worst_spec {v : List Int} (hv : Vals v) {fs : List Nat} (h : Inc v.length fs) (h0 : fr fs 0 = 0) : ∃ w, Ev (fun k => spec_WorstOf.f k v (keys v fs)) (w, true) ∧ ∀ f, f < v.length → ∃ i, Stands v fs i f ∧ off v fs i f ≤ w := by
  have h60 := hv.2.1
  have h1 := hv.1
  have hl := inc_len h
  have key : ∃ p : Int × Bool, Ev (fun k => spec_WorstOf.l0 k (keys v fs) 0 v (v.length : Int) 0) p ∧ ((∀ g, g < v.length → ∃ i, Stands v fs i g ∧ off v fs i g ≤ p.1) ∧ p.2 = true) := by
    refine ev_for v.length (fun k f (s : Int) => spec_WorstOf.l0 k (keys v fs) s v (v.length : Int) (f : Int)) (fun f s => ∀ g, g < f → ∃ i, Stands v fs i g ∧ off v fs i g ≤ s) (fun p => (∀ g, g < v.length → ∃ i, Stands v fs i g ∧ off v fs i g ≤ p.1) ∧ p.2 = true) ?_ ?_ 0 0 (Nat.zero_le _) (fun g hg => by omega)
    · intro s hs
      exact ⟨(s, true), st_spec_WorstOf_l0 (ev_neg (by omega) (ev_some rfl)), hs, rfl⟩
    · intro f s hf hs
      obtain ⟨i, hi⟩ := stands h h0 f hf
      have hz := abs_small _ (val_bound hv hi)
      by_cases hgt : off v fs i f > s
      · refine .inr ⟨off v fs i f, fun g hg => ?_, fun r hr => st_spec_WorstOf_l0 (ev_pos (by omega) (ev_pos (by omega) (ev_pos (by omega) (Ev.bind (at_spec hv (by omega) hi) (ev_bindc hz (ev_pos hgt ?_))))))⟩
        · rcases Nat.lt_or_ge g f with h2 | h2
          · obtain ⟨j, g1, g2⟩ := hs g h2
            exact ⟨j, g1, by omega⟩
          · obtain rfl : g = f := by omega
            exact ⟨i, hi, Int.le_refl _⟩
        · rw [w64s f (by omega)]; exact hr
      · refine .inr ⟨s, fun g hg => ?_, fun r hr => st_spec_WorstOf_l0 (ev_pos (by omega) (ev_pos (by omega) (ev_pos (by omega) (Ev.bind (at_spec hv (by omega) hi) (ev_bindc hz (ev_neg hgt ?_))))))⟩
        · rcases Nat.lt_or_ge g f with h2 | h2
          · exact hs g h2
          · obtain rfl : g = f := by omega
            exact ⟨i, hi, by omega⟩
        · rw [w64s f (by omega)]; exact hr
  obtain ⟨⟨w, ok⟩, hp, hw, rfl⟩ := key
  exact ⟨w, Ev.bind (vals_spec v (by omega) true ⟨fun _ => hv, fun _ => rfl⟩) (ev_pos rfl (Ev.bind (areKeys_spec hv h) (st_spec_WorstOf_j0 (ev_neg (by decide) hp)))), hw⟩
theorem fits_off {v : List Int} {most : Int} (hm : 0 ≤ most) {fs : List Nat} (h : Way v most fs) (i f : Nat) (hs : Stands v fs i f) : off v fs i f ≤ most := by
  obtain ⟨hi, hf, hlt, hb, h0⟩ := hs
  unfold off valAt
  by_cases hi0 : i = 0
  · rw [if_pos hi0]; simpa using hm
  · rw [if_neg hi0]
    have hprev := hb (i - 1) (by omega)
    have hfit := way_fits h (i - 1) (by omega)
    rw [show i - 1 + 1 = i by omega] at hfit
    by_cases hfe : f = fr fs i
    · rw [hfe, line_end v _ _ (by omega)]; simpa using hm
    · exact hfit f hprev (by omega)
theorem off_fits {v : List Int} {most w : Int} (hw : w ≤ most) {fs : List Nat} (h : Inc v.length fs) (hoff : ∀ f, f < v.length → ∃ i, Stands v fs i f ∧ off v fs i f ≤ w) : Way v most fs := by
  refine way_of h fun i hi f h1 h2 => ?_
  have hlt := inc_lt h (i + 1) hi
  obtain ⟨j, hj, ho⟩ := hoff f (by omega)
  have hji : j = i + 1 := by
    rcases Nat.lt_trichotomy j (i + 1) with h3 | h3 | h3
    · have := inc_mono h (i - j) j (by omega)
      rw [show j + (i - j) = i by omega] at this
      have := hj.hf
      omega
    · exact h3
    · have := hj.hb (i + 1) h3
      omega
  subst hji
  unfold off valAt at ho
  rw [if_neg (by omega), Nat.add_sub_cancel] at ho
  exact Int.le_trans ho hw
theorem and255 (a : Int) : 0 ≤ Go.bits .and .u64 a 255 ∧ Go.bits .and .u64 a 255 ≤ 255 := by
  have h : (BitVec.ofInt 64 a &&& BitVec.ofInt 64 255).toNat ≤ 255 := by
    rw [BitVec.toNat_and]
    exact Nat.le_trans Nat.and_le_right (by decide)
  have e : Go.bits .and .u64 a 255 = IntKind.u64.wrap (((BitVec.ofInt 64 a &&& BitVec.ofInt 64 255).toNat : Nat) : Int) := rfl
  rw [e, wrap_u64 (by omega) (by omega)]
  omega
theorem next_some (code : List Int) (hc : ∀ y ∈ code, InU8 y) (at_ seed : Int) (h0 : 0 ≤ at_) (h1 : at_ ≤ 1099511627776) : ∃ v s, spec_l1Cur_next.f code at_ seed = some (v, at_ + 1, s) ∧ 0 ≤ v ∧ v < 256 := by
  have e : wrap64 (at_ + 1) = at_ + 1 := w64 (by omega) (by omega)
  have hw : ∀ a : Int, wrap64 (Go.bits .and .u64 a 255) = Go.bits .and .u64 a 255 := fun a => by have := and255 a; exact w64 (by omega) (by omega)
  unfold spec_l1Cur_next.f
  rw [e]
  by_cases h : at_ < (code.length : Int)
  · obtain ⟨i, rfl⟩ : ∃ i : Nat, at_ = (i : Int) := ⟨at_.toNat, by omega⟩
    have hv : 0 ≤ rd code (i : Int) ∧ rd code (i : Int) < 256 := by
      rw [rd_get (by omega)]
      have := hc _ (List.getElem_mem (by omega : i < code.length))
      exact ⟨this.1, by have := this.2; omega⟩
    have hr : wrap64 (rd code (i : Int)) = rd code (i : Int) := w64 (by omega) (by omega)
    rw [if_pos h, if_pos h0, hr]
    by_cases h2 : (i : Int) + 1 ≤ (code.length : Int)
    · rw [if_pos h2]; exact ⟨_, _, rfl, hv.1, hv.2⟩
    · rw [if_neg h2, hw]; exact ⟨_, _, rfl, (and255 _).1, by have := (and255 (IntKind.u64.wrap ((IntKind.u64.wrap ((IntKind.u64.wrap (seed * 6364136223846793005)) + (IntKind.u64.wrap (rd code (i : Int))))) + 1442695040888963407) / 1099511627776)).2; omega⟩
  · rw [if_neg h]
    by_cases h2 : at_ + 1 ≤ (code.length : Int)
    · rw [if_pos h2]; exact ⟨0, _, rfl, by omega, by omega⟩
    · rw [if_neg h2, hw]; exact ⟨_, _, rfl, (and255 _).1, by have := (and255 (IntKind.u64.wrap ((IntKind.u64.wrap ((IntKind.u64.wrap (seed * 6364136223846793005)))) + 1442695040888963407) / 1099511627776)).2; omega⟩
theorem pick_some (code : List Int) (hc : ∀ y ∈ code, InU8 y) (at_ seed n : Int) (h0 : 0 ≤ at_) (h1 : at_ ≤ 1099511627776) (n1 : 1 ≤ n) (n2 : n ≤ 200) : ∃ v a s, spec_l1Cur_pick.f code at_ seed n = some (v, a, s) ∧ 0 ≤ v ∧ v < n ∧ at_ ≤ a ∧ a ≤ at_ + 1 := by
  unfold spec_l1Cur_pick.f
  by_cases h : n ≤ 1
  · rw [if_pos h]; exact ⟨0, at_, seed, rfl, by omega, by omega, by omega, by omega⟩
  · obtain ⟨v, s, hv, v0, v1⟩ := next_some code hc at_ seed h0 h1
    rw [if_neg h, hv]
    simp only [Option.bind_some]
    rw [if_neg (by omega), if_neg (by omega)]
    refine ⟨Int.tmod v n, at_ + 1, s, rfl, Int.tmod_nonneg _ v0, Int.tmod_lt_of_pos _ (by omega), by omega, by omega⟩
theorem pick_any (code : List Int) (hc : ∀ y ∈ code, InU8 y) (at_ seed n : Int) (h0 : 0 ≤ at_) (h1 : at_ ≤ 1000000000) (n1 : 1 ≤ n) : ∃ v a s, spec_l1Cur_pick.f code at_ seed n = some (v, a, s) ∧ at_ ≤ a ∧ a ≤ at_ + 2 := by
  unfold spec_l1Cur_pick.f
  by_cases h : n ≤ 1
  · rw [if_pos h]; exact ⟨0, at_, seed, rfl, by omega, by omega⟩
  · obtain ⟨v, s, hv, _, _⟩ := next_some code hc at_ seed h0 (by omega)
    rw [if_neg h, hv]
    simp only [Option.bind_some]
    by_cases h2 : n > 200
    · obtain ⟨v2, s2, hv2, _, _⟩ := next_some code hc (at_ + 1) s (by omega) (by omega)
      rw [if_pos h2, hv2]
      simp only [Option.bind_some]
      rw [if_neg (by omega)]
      exact ⟨_, _, _, rfl, by omega, by omega⟩
    · rw [if_neg h2, if_neg (by omega)]
      exact ⟨_, _, _, rfl, by omega, by omega⟩
theorem one_any (code : List Int) (hc : ∀ y ∈ code, InU8 y) (at_ seed n : Int) (h0 : 0 ≤ at_) (h1 : at_ ≤ 1000000000) (n1 : 1 ≤ n) : ∃ v a s, spec_l1Cur_one.f code at_ seed n = some (v, a, s) ∧ at_ ≤ a ∧ a ≤ at_ + 2 := by
  obtain ⟨v, a, s, h, h2⟩ := pick_any code hc at_ seed n h0 h1 n1
  exact ⟨_, _, _, by unfold spec_l1Cur_one.f; rw [h]; rfl, h2⟩
theorem among_any (code : List Int) (hc : ∀ y ∈ code, InU8 y) (at_ seed : Int) (l : List Int) (h0 : 0 ≤ at_) (h1 : at_ ≤ 1000000000) (n1 : 1 ≤ l.length) (n2 : l.length ≤ 200) : ∃ v a s, spec_l1Cur_among.f code at_ seed l = some (v, a, s) ∧ v ∈ l ∧ at_ ≤ a ∧ a ≤ at_ + 2 := by
  obtain ⟨v, a, s, h, v0, v1, a0, a1⟩ := pick_some code hc at_ seed (l.length : Int) h0 (by omega) (by omega) (by omega)
  obtain ⟨i, rfl⟩ : ∃ i : Nat, v = (i : Int) := ⟨v.toNat, by omega⟩
  refine ⟨rd l (i : Int), a, s, ?_, ?_, a0, by omega⟩
  · unfold spec_l1Cur_among.f
    rw [h]
    simp only [Option.bind_some]
    rw [if_pos v0, if_pos v1]
  · rw [rd_get (by omega)]; exact List.getElem_mem _
theorem key_any (code : List Int) (hc : ∀ y ∈ code, InU8 y) (at_ seed : Int) (h0 : 0 ≤ at_) (h1 : at_ ≤ 100000000) : ∃ v a s, spec_l1Cur_keyValue.f code at_ seed = some (v, a, s) ∧ at_ ≤ a ∧ a ≤ at_ + 4 := by
  obtain ⟨b, a, s, h, a0, a1⟩ := one_any code hc at_ seed 40 h0 (by omega) (by omega)
  unfold spec_l1Cur_keyValue.f
  rw [h]
  simp only [Option.bind_some]
  cases b with
  | true =>
    obtain ⟨x, a2, s2, h2, _, a3, a4⟩ := among_any code hc a s [100000, -100000, 100001] (by omega) (by omega) (by simp) (by simp)
    rw [if_pos rfl, h2]
    exact ⟨_, _, _, rfl, by show at_ ≤ a2; omega, by show a2 ≤ at_ + 4; omega⟩
  | false =>
    obtain ⟨x, a2, s2, h2, a3, a4⟩ := pick_any code hc a s 201 (by omega) (by omega) (by omega)
    rw [if_neg (by decide), h2]
    exact ⟨_, _, _, rfl, by show at_ ≤ a2; omega, by show a2 ≤ at_ + 4; omega⟩
theorem loop_any (code : List Int) (hc : ∀ y ∈ code, InU8 y) : ∀ (n : Nat) (l : List Int) (x y at_ seed : Int), l.length + n ≤ 1000 → 0 ≤ at_ → at_ + 20 * n ≤ 10000000 →
    ∃ v a s, Ev (fun k => spec_l1Cur_values.l0 k l (n : Int) x y code at_ seed) (v, a, s) ∧ v.length ≤ 1000
  | 0, l, x, y, at_, seed, hl, _, _ => ⟨l, at_, seed, st_spec_l1Cur_values_l0 (ev_neg (by omega) (ev_some rfl)), by omega⟩
  | n + 1, l, x, y, at_, seed, hl, h0, h1 => by
    have e1 : wrap64 (((n + 1 : Nat) : Int) - 1) = (n : Int) := by rw [w64 (by omega) (by omega)]; omega
    have rest : ∀ (l' : List Int) (x y a s : Int), l'.length ≤ l.length + 1 → at_ ≤ a → a ≤ at_ + 6 → ∃ v a' s', Ev (fun k => spec_l1Cur_values.j2 k l' ((n + 1 : Nat) : Int) x y code a s) (v, a', s') ∧ v.length ≤ 1000 := by
      intro l' x y a s hl' ha1 ha2
      obtain ⟨b, a2, s2, hb, a3, a4⟩ := one_any code hc a s 100 (by omega) (by omega) (by omega)
      cases b with
      | true =>
        obtain ⟨kv, a5, s5, hk, a6, a7⟩ := key_any code hc a2 s2 (by omega) (by omega)
        obtain ⟨v, a', s', hv, hvl⟩ := loop_any code hc n l' kv y a5 s5 (by omega) (by omega) (by omega)
        refine ⟨v, a', s', st_spec_l1Cur_values_j2 (ev_bindc hb (ev_pos rfl (ev_bindc hk ?_))), hvl⟩
        rw [e1]; exact hv
      | false =>
        obtain ⟨v, a', s', hv, hvl⟩ := loop_any code hc n l' x y a2 s2 (by omega) (by omega) (by omega)
        refine ⟨v, a', s', st_spec_l1Cur_values_j2 (ev_bindc hb (ev_neg (by simp) ?_)), hvl⟩
        rw [e1]; exact hv
    obtain ⟨b, a2, s2, hb, a3, a4⟩ := one_any code hc at_ seed 4 h0 (by omega) (by omega)
    cases b with
    | true =>
      obtain ⟨pv, a5, s5, hp, a6, a7⟩ := pick_any code hc a2 s2 9 (by omega) (by omega) (by omega)
      obtain ⟨v, a', s', hv, hvl⟩ := rest (l ++ [x]) (wrap64 (x + y)) (wrap64 (pv - 4)) a5 s5 (by simp) (by omega) (by omega)
      exact ⟨v, a', s', st_spec_l1Cur_values_l0 (ev_pos (by omega) (ev_pos (by omega) (ev_bindc rfl (ev_bindc hb (ev_pos rfl (ev_bindc hp hv)))))), hvl⟩
    | false =>
      obtain ⟨v, a', s', hv, hvl⟩ := rest (l ++ [x]) (wrap64 (x + y)) y a2 s2 (by simp) (by omega) (by omega)
      exact ⟨v, a', s', st_spec_l1Cur_values_l0 (ev_pos (by omega) (ev_pos (by omega) (ev_bindc rfl (ev_bindc hb (ev_neg (by simp) hv))))), hvl⟩
theorem values_any (code : List Int) (hc : ∀ y ∈ code, InU8 y) (at_ seed : Int) (h0 : 0 ≤ at_) (h1 : at_ ≤ 1000000) : ∃ v a s, Ev (fun k => spec_l1Cur_values.f k code at_ seed) (v, a, s) ∧ v.length ≤ 1000 := by
  have fin : ∀ (x4 a s : Int), 0 ≤ x4 → x4 ≤ 61 → 0 ≤ a → a ≤ 1000100 → ∃ v a' s', Ev (fun k => spec_l1Cur_values.j0 k [] x4 code a s) (v, a', s') ∧ v.length ≤ 1000 := by
    intro x4 a s g0 g1 g2 g3
    obtain ⟨n, rfl⟩ : ∃ n : Nat, x4 = (n : Int) := ⟨x4.toNat, by omega⟩
    obtain ⟨p, a2, s2, hp, a3, a4⟩ := pick_any code hc a s 100 g2 (by omega) (by omega)
    obtain ⟨q, a5, s5, hq, a6, a7⟩ := pick_any code hc a2 s2 9 (by omega) (by omega) (by omega)
    obtain ⟨v, a', s', hv, hvl⟩ := loop_any code hc n [] p (wrap64 (q - 4)) a5 s5 (by simp; omega) (by omega) (by omega)
    exact ⟨v, a', s', st_spec_l1Cur_values_j0 (ev_bindc hp (ev_bindc hq hv)), hvl⟩
  obtain ⟨p, a1, s1, hp, p0, p1, a2, a3⟩ := pick_some code hc at_ seed 20 h0 (by omega) (by omega) (by omega)
  obtain ⟨b, a4, s4, hb, a5, a6⟩ := one_any code hc a1 s1 16 (by omega) (by omega) (by omega)
  cases b with
  | true =>
    obtain ⟨c, a7, s7, hcc, hmem, a8, a9⟩ := among_any code hc a4 s4 [0, 60, 61] (by omega) (by omega) (by simp) (by simp)
    have hcb : 0 ≤ c ∧ c ≤ 61 := by
      simp only [List.mem_cons, List.not_mem_nil, or_false] at hmem
      omega
    obtain ⟨v, a', s', hv, hvl⟩ := fin c a7 s7 hcb.1 hcb.2 (by omega) (by omega)
    exact ⟨v, a', s', ev_bindc hp (ev_bindc hb (ev_pos rfl (ev_bindc hcc hv))), hvl⟩
  | false =>
    have e1 : wrap64 (1 + p) = 1 + p := w64 (by omega) (by omega)
    obtain ⟨v, a', s', hv, hvl⟩ := fin (1 + p) a4 s4 (by omega) (by omega) (by omega) (by omega)
    refine ⟨v, a', s', ev_bindc hp (ev_bindc hb (ev_neg (by simp) ?_)), hvl⟩
    simp only [e1]; exact hv
theorem draw_any (code : List Int) (hc : ∀ y ∈ code, InU8 y) : ∃ v most, Ev (fun k => spec_DrawFewestKeys.f k code) (v, most) ∧ v.length ≤ 1000 := by
  obtain ⟨p, a1, s1, hp, a2, a3⟩ := pick_any code hc 0 0 6 (by omega) (by omega) (by omega)
  obtain ⟨b, a4, s4, hb, a5, a6⟩ := one_any code hc a1 s1 20 (by omega) (by omega) (by omega)
  cases b with
  | true =>
    obtain ⟨c, a7, s7, hcc, _, a8, a9⟩ := among_any code hc a4 s4 [-1, 0, 100000, 100001, 50] (by omega) (by omega) (by simp) (by simp)
    obtain ⟨v, a', s', hv, hvl⟩ := values_any code hc a7 s7 (by omega) (by omega)
    exact ⟨v, c, ev_bindc hp (ev_bindc hb (ev_pos rfl (ev_bindc hcc (Ev.bind hv (ev_some rfl))))), hvl⟩
  | false =>
    obtain ⟨v, a', s', hv, hvl⟩ := values_any code hc a4 s4 (by omega) (by omega)
    exact ⟨v, p, ev_bindc hp (ev_bindc hb (ev_neg (by simp) (Ev.bind hv (ev_some rfl)))), hvl⟩
theorem inc_of {n : Nat} : ∀ {fs : List Nat}, fs.Pairwise (· < ·) → (∃ q, fs = q ++ [n - 1]) → 0 < n → Inc n fs
  | [], _, ⟨q, h⟩, _ => by cases q <;> simp at h
  | [j], _, ⟨q, h⟩, hn => by
    have : j = n - 1 := by
      cases q with
      | nil => simpa using h
      | cons a q => cases q <;> simp at h
    show j + 1 = n
    omega
  | j :: b :: r, hp, ⟨q, h⟩, hn => by
    rw [List.pairwise_cons] at hp
    refine ⟨hp.1 b (by simp), inc_of hp.2 ?_ hn⟩
    cases q with
    | nil => simp at h
    | cons a q =>
      simp only [List.cons_append, List.cons.injEq] at h
      exact ⟨q, h.2⟩
theorem mask_loop {v : List Int} (hv : Vals v) {most : Int} (hm : 0 ≤ most) {ks : List S41} (hg : Good v most ks) (h3 : 3 ≤ v.length) (x : Nat) (hx : x < 1000) (r : Bool)
    (next : Ev (fun k => laws_FnKeys.l1 k v most ks ((x + 1 : Nat) : Int)) r) : Ev (fun k => laws_FnKeys.l2 k v most ks (x : Int) [key v 0] 1) r := by
  have h60 := hv.2.1
  have e1 : wrap64 ((v.length : Int) - 1) = ((v.length - 1 : Nat) : Int) := by rw [w64 (by omega) (by omega)]; omega
  obtain ⟨fs, rfl, hw, hw0, hmin⟩ := hg
  have hwl := inc_len (way_inc hw)
  refine ev_for1 (v.length - 1) (fun k f (s : List S41) => laws_FnKeys.l2 k v most (keys v fs) (x : Int) s (f : Int)) (fun f s => ∃ gs : List Nat, s = keys v gs ∧ gs.Pairwise (· < ·) ∧ (∀ y ∈ gs, y < f) ∧ fr gs 0 = 0 ∧ 0 < gs.length ∧ gs.length ≤ f) r ?_ ?_ 1 [key v 0] (by omega) ⟨[0], rfl, by simp, by simp, rfl, by simp, by simp⟩
  · rintro s ⟨gs, rfl, hp, hlt, hz, hpos, hlen⟩
    have hkl := keys_len v gs
    refine st_laws_FnKeys_l2 (ev_neg (by rw [e1]; omega) ?_)
    rw [e1]
    have hinc : Inc v.length (gs ++ [v.length - 1]) := inc_of (List.pairwise_append.2 ⟨hp, by simp, fun a ha b hb => by
      rw [List.mem_singleton.1 hb]; exact hlt a ha⟩) ⟨gs, rfl⟩ (by omega)
    have hz' : fr (gs ++ [v.length - 1]) 0 = 0 := by
      cases gs with
      | nil => simp at hpos
      | cons a q => exact hz
    have ek : keys v gs ++ [(⟨((v.length - 1 : Nat) : Int), rd v ((v.length - 1 : Nat) : Int)⟩ : S41)] = keys v (gs ++ [v.length - 1]) := by
      simp [keys, key]
    refine ev_pos (by omega) (ev_pos (by omega) (ev_pos (by omega) (ev_bindc rfl ?_)))
    rw [ek]
    obtain ⟨w, hwo, hoff⟩ := worst_spec hv hinc hz'
    have nx : Ev (fun k => laws_FnKeys.l1 k v most (keys v fs) (wrap64 ((x : Int) + 1))) r := by rw [w64s x (by omega)]; exact next
    refine Ev.bind hwo (ev_ite (fun hle => ?_) fun _ => nx)
    have hle : w ≤ most := hle
    have := hmin _ (off_fits hle hinc hoff) hz'
    rw [keys_len, keys_len]
    exact ev_neg (by omega) nx
  · rintro f s hf ⟨gs, rfl, hp, hlt, hz, hpos, hlen⟩
    have hkl := keys_len v gs
    have e2 : wrap64 ((f : Int) - 1) = (f : Int) - 1 := w64 (by omega) (by omega)
    have hf1 : 1 ≤ f := by omega
    have e3 : IntKind.u64.wrap ((f : Int) - 1) = (f : Int) - 1 := wrap_u64 (by omega) (by omega)
    by_cases hb : (Go.bits .and .i64 (shr .i64 (x : Int) ((f : Int) - 1)) 1) = 1
    · refine .inr ⟨keys v (gs ++ [f]), ⟨gs ++ [f], rfl, List.pairwise_append.2 ⟨hp, by simp, fun a ha b hb => by
        rw [List.mem_singleton.1 hb]; exact hlt a ha⟩, fun y hy => ?_, ?_, by simp, by simp; omega⟩, fun r hr => st_laws_FnKeys_l2 (ev_pos (by rw [e1]; omega) ?_)⟩
      · rcases List.mem_append.1 hy with h | h
        · have := hlt y h; omega
        · rw [List.mem_singleton.1 h]; omega
      · cases gs with
        | nil => simp at hpos
        | cons a q => exact hz
      · rw [e2, e3]
        refine ev_pos (by omega) (ev_pos hb (ev_pos (by omega) (ev_pos (by omega) (ev_pos (by omega) ?_))))
        rw [w64s f (by omega)]
        have ek : keys v gs ++ [(⟨(f : Int), rd v (f : Int)⟩ : S41)] = keys v (gs ++ [f]) := by simp [keys, key]
        rw [ek]; exact hr
    · refine .inr ⟨keys v gs, ⟨gs, rfl, hp, fun y hy => by have := hlt y hy; omega, hz, hpos, by omega⟩, fun r hr => st_laws_FnKeys_l2 (ev_pos (by rw [e1]; omega) ?_)⟩
      rw [e2, e3]
      refine ev_pos (by omega) (ev_neg hb ?_)
      rw [w64s f (by omega)]; exact hr
theorem masks (v : List Int) (h3 : 3 ≤ v.length) (h9 : v.length ≤ 9) : 0 ≤ (IntKind.u64.wrap (wrap64 ((v.length : Int) - 2))) ∧ ∃ M : Nat, M ≤ 128 ∧ shl .i64 1 (IntKind.u64.wrap (wrap64 ((v.length : Int) - 2))) = (M : Int) := by
  have h : v.length = 3 ∨ v.length = 4 ∨ v.length = 5 ∨ v.length = 6 ∨ v.length = 7 ∨ v.length = 8 ∨ v.length = 9 := by omega
  rcases h with h | h | h | h | h | h | h <;> rw [h]
  · exact ⟨by decide +kernel, 2, by omega, by decide +kernel⟩
  · exact ⟨by decide +kernel, 4, by omega, by decide +kernel⟩
  · exact ⟨by decide +kernel, 8, by omega, by decide +kernel⟩
  · exact ⟨by decide +kernel, 16, by omega, by decide +kernel⟩
  · exact ⟨by decide +kernel, 32, by omega, by decide +kernel⟩
  · exact ⟨by decide +kernel, 64, by omega, by decide +kernel⟩
  · exact ⟨by decide +kernel, 128, by omega, by decide +kernel⟩
theorem FnKeys : ∀ (l0 : List (Int)), (l0.length * 1 ≤ 140737488351232 ∧ ∀ y ∈ l0, InU8 y) → ∃ k, laws_FnKeys.f k l0 = some true := by
  intro code gc
  refine Ev.rounds (g := fun k => laws_FnKeys.f k code) ?_
  refine ev_ite (fun _ => ev_some rfl) fun _ => ?_
  obtain ⟨v, most, hd, hl⟩ := draw_any code gc.2
  obtain ⟨ks, ok, hs, hi, hyes⟩ := fewest_same v hl most
  have eb : (ok != ok) = false := by simp
  have el : ((ks.length : Int) != (ks.length : Int)) = false := by simp
  refine Ev.bind hd (Ev.bind hi (Ev.bind hs (ev_neg (by simp) ?_)))
  simp only [el]
  cases ok with
  | false => exact st_laws_FnKeys_j0 (ev_neg (by decide) (ev_neg (by decide) (ev_some rfl)))
  | true =>
    obtain ⟨hv, hm, hg⟩ := hyes rfl
    have h60 := hv.2.1
    have hg' := hg
    obtain ⟨fs, rfl, hw, hw0, hmin⟩ := hg
    have hinc := way_inc hw
    have hlen := inc_len hinc
    have hlast := inc_last hinc
    have hkl := keys_len v fs
    obtain ⟨w, hwo, hwm⟩ := worst_impl hv hm hinc hw0 (fits_off hm hw)
    have e1 : wrap64 (((keys v fs).length : Int) - 1) = ((fs.length - 1 : Nat) : Int) := by rw [w64 (by omega) (by omega)]; omega
    have e2 : wrap64 ((v.length : Int) - 1) = ((v.length - 1 : Nat) : Int) := by rw [w64 (by omega) (by omega)]; omega
    have r0 : rd_T41 (keys v fs) 0 = key v (fr fs 0) := rd_key v fs 0 (by omega)
    refine st_laws_FnKeys_j0 (ev_neg (by decide) (ev_pos rfl (Ev.bind hwo (ev_pos rfl (ev_neg (by show ¬ w > most; omega) (ev_pos (by omega) ?_))))))
    rw [r0, e1, e2, rd_key v fs (fs.length - 1) (by omega)]
    refine ev_pos (by show (fr fs 0 : Int) = 0; omega) (ev_pos (by omega) (ev_pos (by omega) ?_))
    have ene : ((key v (fr fs (fs.length - 1))).f0 != ((v.length - 1 : Nat) : Int)) = false := by
      have : (key v (fr fs (fs.length - 1))).f0 = ((v.length - 1 : Nat) : Int) := by show (fr fs (fs.length - 1) : Int) = _; omega
      rw [this]; simp
    rw [ene]
    refine st_laws_FnKeys_j1 (ev_neg (by decide) ?_)
    refine ev_for1 fs.length (fun k i (_ : Unit) => laws_FnKeys.l0 k v most (keys v fs) (keys v fs) ((keys v fs).length : Int) (i : Int)) (fun _ _ => True) _ ?_ ?_ 0 () (Nat.zero_le _) trivial
    · intro _ _
      refine st_laws_FnKeys_l0 (ev_neg (by omega) ?_)
      have j3t : Ev (fun k => laws_FnKeys.j3 k v most (keys v fs) true) true := st_laws_FnKeys_j3 (ev_pos rfl (ev_some rfl))
      refine ev_ite (fun _ => j3t) fun h9 => ?_
      by_cases h3 : (v.length : Int) < 3
      · rw [decide_eq_true h3]; exact j3t
      · rw [decide_eq_false h3]
        refine st_laws_FnKeys_j3 (ev_neg (by decide) ?_)
        obtain ⟨m0, M, hM, hshl⟩ := masks v (by omega) (by omega)
        refine ev_for1 M (fun k x (_ : Unit) => laws_FnKeys.l1 k v most (keys v fs) (x : Int)) (fun _ _ => True) _ ?_ ?_ 0 () (Nat.zero_le _) trivial
        · intro _ _
          refine st_laws_FnKeys_l1 (ev_pos m0 (ev_neg ?_ (ev_some rfl)))
          rw [hshl]; omega
        · intro x _ hx _
          refine .inr ⟨(), trivial, fun r hr => st_laws_FnKeys_l1 (ev_pos m0 (ev_pos ?_ (ev_pos (by omega) ?_)))⟩
          · rw [hshl]; omega
          · exact mask_loop hv hm hg' (by omega) x (by omega) r hr
    · intro i _ hi _
      have hlt := inc_lt hinc i hi
      refine .inr ⟨(), trivial, fun r hr => st_laws_FnKeys_l0 (ev_pos (by omega) (ev_pos (by omega) (ev_pos (by omega) ?_)))⟩
      rw [rd_key v fs i hi]
      refine ev_pos (by show (0 : Int) ≤ (fr fs i : Int); omega) (ev_pos (by show (fr fs i : Int) < (v.length : Int); omega) (ev_pos rfl ?_))
      rw [w64s i (by omega)]; exact hr
end Go.Proofs.Ytbamdbdcglohmaa.Pure
