/- Texts of the row of the law FnExactRunCloud, laid together. -/
import Derived.Test.YthgfobcckoedaaaZFnExactRunCloud8
namespace Go.Proofs.Ythgfobcckoedaaa.Pure
open Go.RowKit Go.Proofs.Ythgfobcckoedaaa.PFnExactRunCloud Go.Proofs.Ythgfobcckoedaaa.OFnExactRunCloud Go.Proofs.YthgfobcckoedaaaW.PrintWords Go.Proofs.YthgfobcckoedaaaW.PrintLast Go.Proofs.YthgfobcckoedaaaW.PrintMore Go.Proofs.YthgfobcckoedaaaO
set_option linter.unusedVariables false
set_option linter.unusedSimpArgs false
theorem st_impl_RunCloud_j0 {r : (Int × Int × (List (S48)) × Bool)} {x2 : Int} {x25 : Bool} {x325000 : Int} {x325001 : Int} {x325002 : Int} {x325003 : Int} {x325004 : Int} {x325005 : Int} {x325006 : Int} {x326000 : Int} {x326001 : Int} {x326002 : List (S48)} (h : Ev (fun k => if x25 = true then (some (0, 0, ([] : List (S48)), false)) else ((impl_Spark_33.f x326002).bind fun t330 => (impl_RunCloud.l0 k x2 0 x325000 x325001 x325002 x325003 x325004 x325005 x325006 x326000 x326001 t330))) r) : Ev (fun k => impl_RunCloud.j0 k x2 x25 x325000 x325001 x325002 x325003 x325004 x325005 x325006 x326000 x326001 x326002) r := Ev.step (fun k => by rw [impl_RunCloud.j0]) h
theorem st_impl_RunCloud_l0 {r : (Int × Int × (List (S48)) × Bool)} {x35 : Int} {x36 : Int} {x325000 : Int} {x325001 : Int} {x325002 : Int} {x325003 : Int} {x325004 : Int} {x325005 : Int} {x325006 : Int} {x334000 : Int} {x334001 : Int} {x334002 : List (S48)} (h : Ev (fun k => if x36 < x35 then ((impl_Emitter_step.f k x325000 x325001 x325002 x325003 x325004 x325005 x325006 x334000 x334001 x334002).bind fun bt334 => (if bt334.2.2.2 = true then (impl_RunCloud.l0 k x35 (wrap64 (x36 + 1)) x325000 x325001 x325002 x325003 x325004 x325005 x325006 bt334.1 bt334.2.1 bt334.2.2.1) else (some (0, 0, ([] : List (S48)), false)))) else (some (x334000, x334001, x334002, true))) r) : Ev (fun k => impl_RunCloud.l0 k x35 x36 x325000 x325001 x325002 x325003 x325004 x325005 x325006 x334000 x334001 x334002) r := Ev.step (fun k => by rw [impl_RunCloud.l0]) h
theorem st_laws_FnExactRunCloud_j0 {r : (Bool)} {x2 : Int} {x9 : Bool} {x12 : Bool} {x50 : Bool} {x341000 : Int} {x341001 : Int} {x341002 : Int} {x341003 : Int} {x341004 : Int} {x341005 : Int} {x341006 : Int} {x342000 : Int} {x342001 : Int} {x342002 : List (S68)} {x362000 : Int} {x362001 : Int} {x362002 : List (S48)} {x368000 : Int} {x368001 : Int} {x368002 : List (S48)} {x382000 : Int} {x382001 : Int} {x382002 : List (S48)} (h : Ev (fun k => if x50 = true then (some false) else ((laws_toCloud.f k x342000 x342001 x342002).bind fun bt383 => ((laws_eqCloud.f k x368000 x368001 x368002 bt383.1 bt383.2.1 bt383.2.2).bind fun t388 => (if t388 = true then ((laws_markCloud.f k x368000 x368001 x368002 1).bind fun bt389 => (if bt389.1 < 0 then (laws_FnExactRunCloud.j1 k x2 x9 true x341000 x341001 x341002 x341003 x341004 x341005 x341006 x342000 x342001 x342002 x362000 x362001 x362002 x382000 x382001 x382002) else ((laws_eqCloud.f k x382000 x382001 x382002 x362000 x362001 x362002).bind fun t391 => (if t391 = true then (laws_FnExactRunCloud.j1 k x2 x9 (x12 != x9) x341000 x341001 x341002 x341003 x341004 x341005 x341006 x342000 x342001 x342002 x362000 x362001 x362002 x382000 x382001 x382002) else (laws_FnExactRunCloud.j1 k x2 x9 true x341000 x341001 x341002 x341003 x341004 x341005 x341006 x342000 x342001 x342002 x362000 x362001 x362002 x382000 x382001 x382002))))) else (some false))))) r) : Ev (fun k => laws_FnExactRunCloud.j0 k x2 x9 x12 x50 x341000 x341001 x341002 x341003 x341004 x341005 x341006 x342000 x342001 x342002 x362000 x362001 x362002 x368000 x368001 x368002 x382000 x382001 x382002) r := Ev.step (fun k => by rw [laws_FnExactRunCloud.j0]) h
theorem st_laws_FnExactRunCloud_j1 {r : (Bool)} {x2 : Int} {x9 : Bool} {x71 : Bool} {x341000 : Int} {x341001 : Int} {x341002 : Int} {x341003 : Int} {x341004 : Int} {x341005 : Int} {x341006 : Int} {x342000 : Int} {x342001 : Int} {x342002 : List (S68)} {x362000 : Int} {x362001 : Int} {x362002 : List (S48)} {x382000 : Int} {x382001 : Int} {x382002 : List (S48)} (h : Ev (fun k => if x71 = true then (some false) else ((laws_markCloud.f k x382000 x382001 x382002 1).bind fun bt392 => ((laws_heldCloud.f k x382000 x382001 bt392.2 1).bind fun t394 => (if t394 < 0 then (some false) else (if t394 = bt392.1 then ((laws_toEmitter.f x341000 x341001 x341002 x341003 x341004 x341005 x341006).bind fun bt395 => ((laws_toCloud.f k x342000 x342001 x342002).bind fun bt402 => ((impl_RunCloud.f k bt395.1 bt395.2.1 bt395.2.2.1 bt395.2.2.2.1 bt395.2.2.2.2.1 bt395.2.2.2.2.2.1 bt395.2.2.2.2.2.2 bt402.1 bt402.2.1 bt402.2.2 x2).bind fun bt407 => ((laws_eqCloud.f k bt407.1 bt407.2.1 bt407.2.2.1 x362000 x362001 x362002).bind fun t414 => (if t414 = true then (laws_FnExactRunCloud.j2 k bt392.1 (bt407.2.2.2 != x9) x382000 x382001 bt392.2) else (laws_FnExactRunCloud.j2 k bt392.1 true x382000 x382001 bt392.2)))))) else (some false)))))) r) : Ev (fun k => laws_FnExactRunCloud.j1 k x2 x9 x71 x341000 x341001 x341002 x341003 x341004 x341005 x341006 x342000 x342001 x342002 x362000 x362001 x362002 x382000 x382001 x382002) r := Ev.step (fun k => by rw [laws_FnExactRunCloud.j1]) h
theorem st_laws_FnExactRunCloud_j2 {r : (Bool)} {x14 : Int} {x100 : Bool} {x382000 : Int} {x382001 : Int} {x382002 : List (S48)} (h : Ev (fun k => if x100 = true then (some false) else ((laws_heldCloud.f k x382000 x382001 x382002 1).bind fun t415 => (if t415 < 0 then (some false) else (if t415 = x14 then (some true) else (some false))))) r) : Ev (fun k => laws_FnExactRunCloud.j2 k x14 x100 x382000 x382001 x382002) r := Ev.step (fun k => by rw [laws_FnExactRunCloud.j2]) h
theorem st_spec_GoodCloud_j0 {r : (Bool)} {x20 : Bool} {x159000 : Int} {x159001 : Int} {x159002 : List (S48)} (h : Ev (fun k => if x20 = true then (some false) else (spec_GoodCloud.l0 k x159002 (x159002.length : Int) 0)) r) : Ev (fun k => spec_GoodCloud.j0 k x20 x159000 x159001 x159002) r := Ev.step (fun k => by rw [spec_GoodCloud.j0]) h
theorem st_spec_GoodCloud_l0 {r : (Bool)} {x22 : List (S48)} {x23 : Int} {x24 : Int} (h : Ev (fun k => if x24 < x23 then (if 0 ≤ x24 then (if x24 < (x22.length : Int) then ((spec_GoodFixed.f ((rd_T48 x22 x24).f0)).bind fun t163 => (if t163 = true then ((spec_GoodFixed.f ((rd_T48 x22 x24).f1)).bind fun t164 => (if t164 = true then ((spec_GoodFixed.f ((rd_T48 x22 x24).f2)).bind fun t165 => (if t165 = true then ((spec_GoodFixed.f ((rd_T48 x22 x24).f3)).bind fun t166 => (if t166 = true then ((spec_l1In.f ((rd_T48 x22 x24).f4) 1 200).bind fun t167 => (if t167 = true then (spec_GoodCloud.l0 k x22 x23 (wrap64 (x24 + 1))) else (some false))) else (some false))) else (some false))) else (some false))) else (some false))) else (none)) else (none)) else (some true)) r) : Ev (fun k => spec_GoodCloud.l0 k x22 x23 x24) r := Ev.step (fun k => by rw [spec_GoodCloud.l0]) h
theorem st_spec_l1Near_j0 {r : (Int)} {x0 : Bool} {x2 : Int} {x186000 : Int} {x186001 : Int} (h : Ev (fun k => (spec_l1Over.f k x186000 x186001 (IntKind.u64.wrap (2 * x2)) 4398046511104).bind fun t188 => (if x0 = true then ((spec_l1Cut.f (wrap64 (-(wrap64 (t188))))).bind fun t189 => (some t189)) else ((spec_l1Cut.f (wrap64 (t188))).bind fun t190 => (some t190)))) r) : Ev (fun k => spec_l1Near.j0 k x0 x2 x186000 x186001) r := Ev.step (fun k => by rw [spec_l1Near.j0]) h
theorem st_spec_FixMul_j0 {r : (Int)} {x0 : Int} {x1 : Int} {x12 : Bool} (h : Ev (fun k => if x12 = true then (some 0) else ((spec_l1Abs.f x0).bind fun t193 => ((spec_l1Abs.f x1).bind fun t194 => ((spec_l1Times.f (IntKind.u64.wrap (t193)) (IntKind.u64.wrap (t194))).bind fun bt195 => ((spec_l1Near.f k ((decide (x0 < 0)) != (decide (x1 < 0))) bt195.1 bt195.2 65536).bind fun t197 => (some t197)))))) r) : Ev (fun k => spec_FixMul.j0 k x0 x1 x12) r := Ev.step (fun k => by rw [spec_FixMul.j0]) h
theorem st_spec_StepCloud_j0 {r : (Int × Int × (List (S48)) × Bool)} {x27 : Bool} {x213000 : Int} {x213001 : Int} {x213002 : Int} {x213003 : Int} {x213004 : Int} {x213005 : Int} {x213006 : Int} {x214000 : Int} {x214001 : Int} {x214002 : List (S48)} (h : Ev (fun k => if x27 = true then (some (0, 0, ([] : List (S48)), false)) else (spec_StepCloud.l0 k x214002 (x214002.length : Int) 0 x213000 x213001 x213002 x213003 x213004 x213005 x213006 x214000 x214001 x214002 x214000 (wrap64 (x214001 + 1)) ([] : List (S48)))) r) : Ev (fun k => spec_StepCloud.j0 k x27 x213000 x213001 x213002 x213003 x213004 x213005 x213006 x214000 x214001 x214002) r := Ev.step (fun k => by rw [spec_StepCloud.j0]) h
theorem st_spec_StepCloud_l0 {r : (Int × Int × (List (S48)) × Bool)} {x36 : List (S48)} {x37 : Int} {x38 : Int} {x213000 : Int} {x213001 : Int} {x213002 : Int} {x213003 : Int} {x213004 : Int} {x213005 : Int} {x213006 : Int} {x214000 : Int} {x214001 : Int} {x214002 : List (S48)} {x218000 : Int} {x218001 : Int} {x218002 : List (S48)} (h : Ev (fun k => if x38 < x37 then (if 0 ≤ x38 then (if x38 < (x36.length : Int) then (if (wrap64 (((rd_T48 x36 x38).f4) - 1)) = 0 then (spec_StepCloud.l0 k x36 x37 (wrap64 (x38 + 1)) x213000 x213001 x213002 x213003 x213004 x213005 x213006 x214000 x214001 x214002 x218000 x218001 x218002) else (if x218002.length < 3518437208883 then (spec_StepCloud.l0 k x36 x37 (wrap64 (x38 + 1)) x213000 x213001 x213002 x213003 x213004 x213005 x213006 x214000 x214001 x214002 x218000 x218001 (x218002 ++ [(⟨wrap64 (((rd_T48 x36 x38).f0) + ((rd_T48 x36 x38).f2)), wrap64 (((rd_T48 x36 x38).f1) + ((rd_T48 x36 x38).f3)), (rd_T48 x36 x38).f2, wrap64 (((rd_T48 x36 x38).f3) - x213006), wrap64 (((rd_T48 x36 x38).f4) - 1)⟩ : S48)])) else (none))) else (none)) else (none)) else (if x213002 = 0 then (none) else (if (Int.tmod x214001 x213002) = 0 then (spec_StepCloud.l1 k 0 x213000 x213001 x213002 x213003 x213004 x213005 x213006 x218000 x218001 x218002) else ((spec_GoodCloud.f k x218000 x218001 x218002).bind fun t235 => (if t235 = true then (some (x218000, x218001, x218002, true)) else (some (0, 0, ([] : List (S48)), false))))))) r) : Ev (fun k => spec_StepCloud.l0 k x36 x37 x38 x213000 x213001 x213002 x213003 x213004 x213005 x213006 x214000 x214001 x214002 x218000 x218001 x218002) r := Ev.step (fun k => by rw [spec_StepCloud.l0]) h
theorem st_spec_StepCloud_l1 {r : (Int × Int × (List (S48)) × Bool)} {x9 : Int} {x213000 : Int} {x213001 : Int} {x213002 : Int} {x213003 : Int} {x213004 : Int} {x213005 : Int} {x213006 : Int} {x218000 : Int} {x218001 : Int} {x218002 : List (S48)} (h : Ev (fun k => if x9 < x213003 then (spec_StepCloud.j3 k x9 (decide ((x218002.length : Int) < 60)) x213000 x213001 x213002 x213003 x213004 x213005 x213006 x218000 x218001 x218002) else (spec_StepCloud.j3 k x9 false x213000 x213001 x213002 x213003 x213004 x213005 x213006 x218000 x218001 x218002)) r) : Ev (fun k => spec_StepCloud.l1 k x9 x213000 x213001 x213002 x213003 x213004 x213005 x213006 x218000 x218001 x218002) r := Ev.step (fun k => by rw [spec_StepCloud.l1]) h
theorem st_spec_StepCloud_j3 {r : (Int × Int × (List (S48)) × Bool)} {x9 : Int} {x89 : Bool} {x213000 : Int} {x213001 : Int} {x213002 : Int} {x213003 : Int} {x213004 : Int} {x213005 : Int} {x213006 : Int} {x218000 : Int} {x218001 : Int} {x218002 : List (S48)} (h : Ev (fun k => if x89 = true then ((spec_l1Coin.f x218000).bind fun bt224 => ((spec_l1Coin.f bt224.1).bind fun bt226 => ((spec_CosOf.f k (Int.tmod bt224.2 4096)).bind fun t228 => ((spec_FixMul.f k (wrap64 (Int.tdiv (wrap64 (x213005 * bt226.2)) 32768)) t228).bind fun t229 => ((spec_SinOf.f k (Int.tmod bt224.2 4096)).bind fun t230 => ((spec_FixMul.f k (wrap64 (Int.tdiv (wrap64 (x213005 * bt226.2)) 32768)) t230).bind fun t231 => (if x218002.length < 3518437208883 then (spec_StepCloud.l1 k (wrap64 (x9 + 1)) x213000 x213001 x213002 x213003 x213004 x213005 x213006 bt226.1 x218001 (x218002 ++ [(⟨x213000, x213001, t229, t231, x213004⟩ : S48)])) else (none)))))))) else ((spec_GoodCloud.f k x218000 x218001 x218002).bind fun t223 => (if t223 = true then (some (x218000, x218001, x218002, true)) else (some (0, 0, ([] : List (S48)), false))))) r) : Ev (fun k => spec_StepCloud.j3 k x9 x89 x213000 x213001 x213002 x213003 x213004 x213005 x213006 x218000 x218001 x218002) r := Ev.step (fun k => by rw [spec_StepCloud.j3]) h
theorem st_spec_RunCloud_j0 {r : (Int × Int × (List (S48)) × Bool)} {x2 : Int} {x22 : Bool} {x237000 : Int} {x237001 : Int} {x237002 : Int} {x237003 : Int} {x237004 : Int} {x237005 : Int} {x237006 : Int} {x238000 : Int} {x238001 : Int} {x238002 : List (S48)} (h : Ev (fun k => if x22 = true then (some (0, 0, ([] : List (S48)), false)) else ((some (([] : List (S48)) : List (S48))).bind fun y242 => (if y242.length + x238002.length < 3518437208883 then (spec_RunCloud.l0 k x2 x237000 x237001 x237002 x237003 x237004 x237005 x237006 x238000 x238001 (y242 ++ x238002)) else (none)))) r) : Ev (fun k => spec_RunCloud.j0 k x2 x22 x237000 x237001 x237002 x237003 x237004 x237005 x237006 x238000 x238001 x238002) r := Ev.step (fun k => by rw [spec_RunCloud.j0]) h
theorem st_spec_RunCloud_l0 {r : (Int × Int × (List (S48)) × Bool)} {x2 : Int} {x237000 : Int} {x237001 : Int} {x237002 : Int} {x237003 : Int} {x237004 : Int} {x237005 : Int} {x237006 : Int} {x238000 : Int} {x238001 : Int} {x238002 : List (S48)} (h : Ev (fun k => if x2 > 0 then ((spec_StepCloud.f k x237000 x237001 x237002 x237003 x237004 x237005 x237006 x238000 x238001 x238002).bind fun bt248 => (if bt248.2.2.2 = true then (spec_RunCloud.l0 k (wrap64 (x2 - 1)) x237000 x237001 x237002 x237003 x237004 x237005 x237006 bt248.1 bt248.2.1 bt248.2.2.1) else (some (0, 0, ([] : List (S48)), false)))) else (some (x238000, x238001, x238002, true))) r) : Ev (fun k => spec_RunCloud.l0 k x2 x237000 x237001 x237002 x237003 x237004 x237005 x237006 x238000 x238001 x238002) r := Ev.step (fun k => by rw [spec_RunCloud.l0]) h
theorem st_impl_areFixed_l0 {r : (Bool)} {x5 : List Int} {x6 : Int} {x7 : Int} (h : Ev (fun k => if x7 < x6 then (if 0 ≤ x7 then (if x7 < (x5.length : Int) then ((impl_GoodFixed.f (rd x5 x7)).bind fun t267 => (if t267 = true then (impl_areFixed.l0 k x5 x6 (wrap64 (x7 + 1))) else (some false))) else (none)) else (none)) else (some true)) r) : Ev (fun k => impl_areFixed.l0 k x5 x6 x7) r := Ev.step (fun k => by rw [impl_areFixed.l0]) h
theorem st_impl_FixMul_j0 {r : (Int)} {x0 : Int} {x1 : Int} {x5 : Int} {x6 : Int} {x7 : Int} (h : Ev (fun _ => if ((IntKind.u64.wrap (x5 + (add64c x6 x7))) / 65536) = 0 then (if ((decide (x0 < 0)) != (decide (x1 < 0))) = true then (some (wrap64 (-(wrap64 (mn (Go.bits .or .u64 (IntKind.u64.wrap ((IntKind.u64.wrap (x5 + (add64c x6 x7))) * 281474976710656)) ((add64 x6 x7) / 65536)) 1099511627776))))) else (some (wrap64 (mn (Go.bits .or .u64 (IntKind.u64.wrap ((IntKind.u64.wrap (x5 + (add64c x6 x7))) * 281474976710656)) ((add64 x6 x7) / 65536)) 1099511627776)))) else (if ((decide (x0 < 0)) != (decide (x1 < 0))) = true then (some (-1099511627776)) else (some 1099511627776))) r) : Ev (fun k => impl_FixMul.j0 k x0 x1 x5 x6 x7) r := Ev.step (fun k => by rw [impl_FixMul.j0]) h
theorem st_impl_Emitter_step_l0 {r : (Int × Int × (List (S48)) × Bool)} {x19 : List (S48)} {x20 : Int} {x21 : Int} {x303000 : Int} {x303001 : Int} {x303002 : Int} {x303003 : Int} {x303004 : Int} {x303005 : Int} {x303006 : Int} {x304000 : Int} {x304001 : Int} {x304002 : List (S48)} {x306000 : Int} {x306001 : Int} {x306002 : List (S48)} (h : Ev (fun k => if x21 < x20 then (if 0 ≤ x21 then (if x21 < (x19.length : Int) then (if (wrap64 (((rd_T48 x19 x21).f4) - 1)) > 0 then (if x306002.length < 3518437208883 then (impl_Emitter_step.l0 k x19 x20 (wrap64 (x21 + 1)) x303000 x303001 x303002 x303003 x303004 x303005 x303006 x304000 x304001 x304002 x306000 x306001 (x306002 ++ [(⟨wrap64 (((rd_T48 x19 x21).f0) + ((rd_T48 x19 x21).f2)), wrap64 (((rd_T48 x19 x21).f1) + ((rd_T48 x19 x21).f3)), (rd_T48 x19 x21).f2, wrap64 (((rd_T48 x19 x21).f3) - x303006), wrap64 (((rd_T48 x19 x21).f4) - 1)⟩ : S48)])) else (none)) else (impl_Emitter_step.l0 k x19 x20 (wrap64 (x21 + 1)) x303000 x303001 x303002 x303003 x303004 x303005 x303006 x304000 x304001 x304002 x306000 x306001 x306002)) else (none)) else (none)) else (if x303002 = 0 then (none) else (if (Int.tmod x304001 x303002) = 0 then (impl_Emitter_step.l1 k 0 x303000 x303001 x303002 x303003 x303004 x303005 x303006 x306000 x306001 x306002) else ((impl_GoodCloud.f k x306000 x306001 x306002).bind fun t323 => (some (x306000, x306001, x306002, t323)))))) r) : Ev (fun k => impl_Emitter_step.l0 k x19 x20 x21 x303000 x303001 x303002 x303003 x303004 x303005 x303006 x304000 x304001 x304002 x306000 x306001 x306002) r := Ev.step (fun k => by rw [impl_Emitter_step.l0]) h
theorem st_impl_Emitter_step_l1 {r : (Int × Int × (List (S48)) × Bool)} {x9 : Int} {x303000 : Int} {x303001 : Int} {x303002 : Int} {x303003 : Int} {x303004 : Int} {x303005 : Int} {x303006 : Int} {x306000 : Int} {x306001 : Int} {x306002 : List (S48)} (h : Ev (fun k => if x9 < x303003 then (if (x306002.length : Int) < 60 then ((impl_Emitter_born.f k x303000 x303001 x303002 x303003 x303004 x303005 x303006 x306000).bind fun bt311 => (if x306002.length < 3518437208883 then (impl_Emitter_step.l1 k (wrap64 (x9 + 1)) x303000 x303001 x303002 x303003 x303004 x303005 x303006 bt311.2.2.2.2.2 x306001 (x306002 ++ [(⟨bt311.1, bt311.2.1, bt311.2.2.1, bt311.2.2.2.1, bt311.2.2.2.2.1⟩ : S48)])) else (none))) else ((impl_GoodCloud.f k x306000 x306001 x306002).bind fun t321 => (some (x306000, x306001, x306002, t321)))) else ((impl_GoodCloud.f k x306000 x306001 x306002).bind fun t322 => (some (x306000, x306001, x306002, t322)))) r) : Ev (fun k => impl_Emitter_step.l1 k x9 x303000 x303001 x303002 x303003 x303004 x303005 x303006 x306000 x306001 x306002) r := Ev.step (fun k => by rw [impl_Emitter_step.l1]) h
theorem in_some (a b c : Int) : spec_l1In.f a b c = some (decide (b ≤ a ∧ a ≤ c)) := by
  unfold spec_l1In.f
  split <;> simp_all <;> omega
theorem in_same (a b c : Int) : impl_inRange.f a b c = spec_l1In.f a b c := rfl
theorem szSparkS_some (xs : List S68) (g : xs.length * 40 ≤ 140737488351232 ∧ ∀ y ∈ xs, Ok68 y) (left : Int) (h0 : 0 ≤ left) (h1 : left ≤ 1048576) : ∃ r, Ev (fun _ => laws_szSparkS.f xs left) r ∧ (r < 0 ∨ 0 ≤ r ∧ r ≤ left ∧ xs.length ≤ 1048576) := by
  have g1 := g.1
  unfold laws_szSparkS.f
  rw [w64 (n := left - (xs.length : Int)) (by omega) (by omega)]
  refine exev_ite (fun _ => exev_some (.inl (by omega))) fun hc => ?_
  exact exev_some (.inr ⟨by omega, by omega, by omega⟩)
theorem szCloud_some (a0 : Int) (a1 : Int) (l2 : List S68) (ga0 : In64 a0) (ga1 : In64 a1) (gl2 : l2.length * 40 ≤ 140737488351232 ∧ ∀ y ∈ l2, Ok68 y) (left : Int) (h0 : 0 ≤ left) (h1 : left ≤ 1048576) : ∃ r, Ev (fun _ => laws_szCloud.f a0 a1 l2 left) r ∧ (r < 0 ∨ 0 ≤ r ∧ r ≤ left ∧ (l2.length ≤ 1048576)) := by
  unfold laws_szCloud.f
  obtain ⟨r0, hr0, hq0⟩ := szSparkS_some l2 gl2 (left) (by omega) (by omega)
  refine exev_bind hr0 (exev_ite (fun _ => exev_some (.inl (by omega))) fun c0 => ?_)
  rcases hq0 with hq0 | ⟨u0, v0, w0⟩
  · omega
  exact exev_some (.inr ⟨by omega, by omega, w0⟩)
def cv68 (x : S68) : S48 := ⟨x.f0, x.f1, x.f2, x.f3, x.f4⟩
theorem toSparkS_ev (xs : List S68) (h : xs.length ≤ 1048576) : Ev (fun k => laws_toSparkS.f k xs) (xs.map cv68) := by
  refine ev_pos (by omega) (ev_pos (by have := h; omega) ?_)
  refine ev_copy2 laws_toSparkS.l0 (fun k xs i => laws_toSpark.f ((rd_T68 xs i).f0) ((rd_T68 xs i).f1) ((rd_T68 xs i).f2) ((rd_T68 xs i).f3) ((rd_T68 xs i).f4)) (fun t => (⟨t.1, t.2.1, t.2.2.1, t.2.2.2.1, t.2.2.2.2⟩ : S48)) cv68 (fun _ _ _ _ => rfl) xs (by have := h; omega) (fun i hi => ?_) _ (by simp)
  · have e : rd_T68 xs (i : Int) = xs[i] := getD_get hi
    rw [e]
    exact ⟨_, ev_eq rfl, rfl⟩
theorem toCloud_ev (a0 : Int) (a1 : Int) (l2 : List S68) (hl2 : l2.length ≤ 1048576) : Ev (fun k => laws_toCloud.f k a0 a1 l2) (a0, a1, (l2.map cv68)) := by
  unfold laws_toCloud.f
  repeat (first | exact ev_some rfl | refine Ev.bind (toSparkS_ev _ hl2) ?_ | refine ev_bindc rfl ?_)
theorem eqSpark_self (a0 : Int) (a1 : Int) (a2 : Int) (a3 : Int) (a4 : Int) : laws_eqSpark.f a0 a1 a2 a3 a4 a0 a1 a2 a3 a4 = some true := by
  simp [laws_eqSpark.f]
theorem eqSparkS_ev (xs : List S48) (h : xs.length ≤ 1048576) : Ev (fun k => laws_eqSparkS.f k xs xs) true := by
  refine ev_pos rfl (ev_alike_self laws_eqSparkS.l0 (fun k xs ys i => laws_eqSpark.f ((rd_T48 xs i).f0) ((rd_T48 xs i).f1) ((rd_T48 xs i).f2) ((rd_T48 xs i).f3) ((rd_T48 xs i).f4) ((rd_T48 ys i).f0) ((rd_T48 ys i).f1) ((rd_T48 ys i).f2) ((rd_T48 ys i).f3) ((rd_T48 ys i).f4)) (fun _ _ _ _ => rfl) xs (by have := h; omega) (fun i hi => ?_))
  · exact ev_eq (eqSpark_self _ _ _ _ _)
theorem eqCloud_ev (a0 : Int) (a1 : Int) (l2 : List S48) (hl2 : l2.length ≤ 1048576) : Ev (fun k => laws_eqCloud.f k a0 a1 l2 a0 a1 l2) true := by
  unfold laws_eqCloud.f
  repeat (first | exact ev_some rfl | refine Ev.bind (eqSparkS_ev l2 hl2) ?_ | refine ev_pos rfl ?_ | refine ev_neg (by simp) ?_)
def MarkSparkS (x : S48) (c d : Int) : Prop := x = (⟨c, c + 1, c + 1 + 1, c + 1 + 1 + 1, c + 1 + 1 + 1 + 1⟩ : S48) ∧ d = c + 1 + 1 + 1 + 1 + 1
theorem rd_set48 {xs : List S48} {i : Nat} (h : i < xs.length) (v : S48) : rd_T48 (xs.set i v) (i : Int) = v := by
  unfold rd_T48
  rw [getD_get (by simpa using h), List.getElem_set_self]
theorem markSparkS_ev (xs : List S48) (hl : xs.length ≤ 1048576) (c : Int) (hc0 : 0 ≤ c) (hc1 : c ≤ 1152921504606846976) :
    ∃ ys d, Chain MarkSparkS ys c d ∧ c ≤ d ∧ d ≤ c + 5 * xs.length ∧ ys.length = xs.length ∧ Ev (fun k => laws_markSparkS.f k xs c) (d, ys) := by
  refine ev_mark (fun k zs c i => laws_markSparkS.l0 k zs c (i : Int)) MarkSparkS (fun _ => True) 5 (by omega) (by omega) ?_ ?_ xs (fun _ _ => trivial) hl c hc0 hc1
  · intro zs c
    exact Ev.step (fun _ => rfl) (ev_neg (by omega) (ev_some rfl))
  · intro zs c i hi h20 _ h0 h1
    refine ⟨_, _, ⟨rfl, rfl⟩, by omega, by omega, fun r hr => Ev.step (fun _ => rfl) (ev_pos (by omega) (ev_pos (by omega) ?_))⟩
    simp only [Option.bind_some, Int.toNat_natCast, rd_set48 hi, List.set_set, w64s i (by omega), w64 (n := c + 1) (by omega) (by omega), w64 (n := c + 1 + 1) (by omega) (by omega), w64 (n := c + 1 + 1 + 1) (by omega) (by omega), w64 (n := c + 1 + 1 + 1 + 1) (by omega) (by omega), w64 (n := c + 1 + 1 + 1 + 1 + 1) (by omega) (by omega)]
    exact hr
theorem heldSparkS_ev (ys : List S48) (hl : ys.length ≤ 1048576) (c d : Int) (hc : 0 ≤ c) (hd : d ≤ 2305843009213693952) (h : Chain MarkSparkS ys c d) : Ev (fun k => laws_heldSparkS.f k ys c) d := by
  refine ev_held (fun k zs c i => laws_heldSparkS.l0 k zs c (i : Int)) MarkSparkS (fun x c d h => by have := h.2; omega) ?_ ?_ ys hl c d hc hd h
  · intro zs c
    exact Ev.step (fun _ => rfl) (ev_neg (by omega) (ev_some rfl))
  · intro zs c c' i hi h20 hE h0 h1 r hr
    obtain ⟨hx, rfl⟩ := hE
    have hg : rd_T48 zs (i : Int) = (⟨c, c + 1, c + 1 + 1, c + 1 + 1 + 1, c + 1 + 1 + 1 + 1⟩ : S48) := (getD_get hi).trans hx
    refine Ev.step (fun _ => rfl) (ev_pos (by omega) (ev_pos (by omega) ?_))
    rw [hg]
    simp only [w64s i (by omega), w64 (n := c + 1) (by omega) (by omega), w64 (n := c + 1 + 1) (by omega) (by omega), w64 (n := c + 1 + 1 + 1) (by omega) (by omega), w64 (n := c + 1 + 1 + 1 + 1) (by omega) (by omega), w64 (n := c + 1 + 1 + 1 + 1 + 1) (by omega) (by omega)]
    exact ev_pos (by trivial) (ev_pos (by trivial) (ev_pos (by trivial) (ev_pos (by trivial) (ev_pos (by trivial) (hr)))))
theorem uw (n : Nat) (h : n < 18446744073709551616) : IntKind.u64.wrap (n : Int) = (n : Int) := wrap_u64 (by omega) (by omega)
theorem td32 (n : Nat) : Int.tdiv (n : Int) 4294967296 = ((n / 4294967296 : Nat) : Int) := by rw [Int.tdiv_eq_ediv_of_nonneg (by omega)]; omega
theorem tm32 (n : Nat) : Int.tmod (n : Int) 4294967296 = ((n % 4294967296 : Nat) : Int) := by rw [Int.tmod_eq_emod_of_nonneg (by omega)]; omega
theorem ed32 (n : Nat) : (n : Int) / 4294967296 = ((n / 4294967296 : Nat) : Int) := by omega
theorem b64 : (2 : Nat) ^ IntKind.u64.bits = 18446744073709551616 := by decide
theorem or_gen (X y : Nat) (e : X ||| y = X + y) (h : X + y < 18446744073709551616) : Go.bits .or .u64 (X : Int) (y : Int) = ((X + y : Nat) : Int) := by
  have hx' : X % 2 ^ IntKind.u64.bits = X := by rw [b64]; omega
  have hy' : y % 2 ^ IntKind.u64.bits = y := by rw [b64]; omega
  simp only [Go.bits, BitVec.ofInt_natCast, BitVec.toNat_or, BitVec.toNat_ofNat, hx', hy', e]
  exact uw _ h
theorem or_nat (x y k M : Nat) (hM : 2 ^ k = M) (hy : y < M) : x * M ||| y = x * M + y := by
  subst hM
  have h := Nat.shiftLeft_add_eq_or_of_lt hy x
  rw [Nat.shiftLeft_eq] at h
  exact h.symm
theorem or_split (x y : Nat) (hx : x < 4294967296) (hy : y < 4294967296) : Go.bits .or .u64 ((x * 4294967296 : Nat) : Int) (y : Int) = ((x * 4294967296 + y : Nat) : Int) :=
  or_gen _ y (or_nat x y 32 4294967296 (by decide) hy) (by omega)
theorem or_zero (y : Nat) (hy : y < 18446744073709551616) : Go.bits .or .u64 0 (y : Int) = (y : Int) := by
  have hy' : y % 2 ^ IntKind.u64.bits = y := by rw [b64]; omega
  have h0 : (0 : Int) = ((0 : Nat) : Int) := rfl
  rw [h0]
  simp only [Go.bits, BitVec.ofInt_natCast, BitVec.toNat_or, BitVec.toNat_ofNat, hy', Nat.zero_mod, Nat.zero_or]
  exact uw _ hy
theorem and_mask (x : Nat) (hx : x < 18446744073709551616) : Go.bits .and .u64 (x : Int) 4294967295 = ((x % 4294967296 : Nat) : Int) := by
  have e : x &&& 4294967295 = x % 4294967296 := Nat.and_two_pow_sub_one_eq_mod x 32
  have hx' : x % 2 ^ IntKind.u64.bits = x := by rw [b64]; omega
  have hm : 4294967295 % 2 ^ IntKind.u64.bits = 4294967295 := by rw [b64]
  have h0 : (4294967295 : Int) = ((4294967295 : Nat) : Int) := rfl
  rw [h0]
  simp only [Go.bits, BitVec.ofInt_natCast, BitVec.toNat_and, BitVec.toNat_ofNat, hx', hm, e]
  exact uw _ (by omega)
theorem times_small (a b : Nat) (ha : a ≤ 4398046511104) (hb : b ≤ 262144) : spec_l1Times.f (a : Int) (b : Int) = some (0, ((a * b : Nat) : Int)) := by
  have hA : a = a / 4294967296 * 4294967296 + a % 4294967296 := by omega
  generalize hah : a / 4294967296 = ah at hA
  generalize hal : a % 4294967296 = al at hA
  have h1 : ah ≤ 1024 := by omega
  have h2 : al < 4294967296 := by omega
  have p0 : al * b ≤ 4294967296 * 262144 := Nat.mul_le_mul (by omega) hb
  have p1 : ah * b ≤ 1024 * 262144 := Nat.mul_le_mul h1 hb
  have hb0 : b / 4294967296 = 0 := by omega
  have hb1 : b % 4294967296 = b := by omega
  have hab : a * b = ah * b * 4294967296 + al * b := by rw [hA, Nat.add_mul, Nat.mul_right_comm]
  have q0 : al * b / 4294967296 ≤ 262144 := by omega
  unfold spec_l1Times.f
  simp only [td32, tm32, hah, hal, hb0, hb1]
  generalize hm : al * b = m at *
  generalize hn : ah * b = n at *
  have c1 : (((al : Nat) : Int)) * ((b : Nat) : Int) = ((m : Nat) : Int) := by rw [← hm]; exact (Int.natCast_mul _ _).symm
  have c2 : (((ah : Nat) : Int)) * ((b : Nat) : Int) = ((n : Nat) : Int) := by rw [← hn]; exact (Int.natCast_mul _ _).symm
  have z : ((0 : Nat) : Int) = 0 := rfl
  have u0 : IntKind.u64.wrap 0 = 0 := wrap_u64 (by omega) (by omega)
  simp only [z, u0, Int.mul_zero, uw al (by omega), uw ah (by omega), uw b (by omega), c1, c2, uw m (by omega), uw n (by omega), td32, tm32, uw (m / 4294967296) (by omega), Int.zero_add, Int.add_zero]
  have c3 : ((n : Nat) : Int) + ((m / 4294967296 : Nat) : Int) = ((n + m / 4294967296 : Nat) : Int) := (Int.natCast_add _ _).symm
  simp only [c3, uw (n + m / 4294967296) (by omega), td32, tm32]
  have c4 : (n + m / 4294967296) / 4294967296 = 0 := by omega
  have c5 : (n + m / 4294967296) % 4294967296 = n + m / 4294967296 := by omega
  simp only [c4, c5, z, u0, uw (n + m / 4294967296) (by omega), td32, Int.add_zero]
  have c6 : (((n + m / 4294967296 : Nat) : Int)) * 4294967296 = (((n + m / 4294967296) * 4294967296 : Nat) : Int) := by omega
  rw [c6, uw _ (by omega), or_split _ _ (by omega) (by omega), hab]
  have c7 : (n + m / 4294967296) * 4294967296 + m % 4294967296 = n * 4294967296 + m := by omega
  rw [c7]
theorem mul64_small (a b : Nat) (ha : a ≤ 4294967295) (hb : b ≤ 262144) : bits_Mul64.f (a : Int) (b : Int) = some (0, ((a * b : Nat) : Int)) := by
  have p0 : a * b ≤ 4294967295 * 262144 := Nat.mul_le_mul ha hb
  have hb0 : b / 4294967296 = 0 := by omega
  have hb1 : b % 4294967296 = b := by omega
  have ha0 : a / 4294967296 = 0 := by omega
  have ha1 : a % 4294967296 = a := by omega
  have z : ((0 : Nat) : Int) = 0 := rfl
  have u0 : IntKind.u64.wrap 0 = 0 := wrap_u64 (by omega) (by omega)
  have c1 : ((a : Nat) : Int) * ((b : Nat) : Int) = ((a * b : Nat) : Int) := (Int.natCast_mul _ _).symm
  unfold bits_Mul64.f
  simp only [ed32, ha0, hb0, z, Int.mul_zero, Int.zero_mul, u0, and_mask a (by omega), and_mask b (by omega), ha1, hb1, c1, uw (a * b) (by omega), Int.zero_add]
  generalize a * b = m at *
  simp only [uw (m / 4294967296) (by omega), ed32, and_mask (m / 4294967296) (by omega)]
  have e1 : m / 4294967296 / 4294967296 = 0 := by omega
  have e2 : m / 4294967296 % 4294967296 = m / 4294967296 := by omega
  simp only [e1, e2, z, Int.add_zero, Int.zero_add, u0, uw (m / 4294967296) (by omega), ed32]
theorem over_l (N : Nat) (hN : N ≤ 576460752303423488) : ∀ (d lo hi : Nat), hi - lo ≤ d → lo ≤ N / 131072 → N / 131072 ≤ hi → hi ≤ 4398046511104 → Ev (fun k => spec_l1Over.l0 k 131072 (lo : Int) (hi : Int) 0 (N : Int)) ((N / 131072 : Nat) : Int)
  | d, lo, hi, hd, h1, h2, h3 => by
    by_cases h : lo < hi
    · obtain ⟨m, hm⟩ : ∃ m, m = lo + (hi - lo + 1) / 2 := ⟨_, rfl⟩
      have em : IntKind.u64.wrap ((lo : Int) + (IntKind.u64.wrap (Int.tdiv (IntKind.u64.wrap ((IntKind.u64.wrap ((hi : Int) - (lo : Int))) + 1)) 2))) = (m : Int) := by
        rw [wrap_u64 (n := (hi : Int) - (lo : Int)) (by omega) (by omega), wrap_u64 (n := (hi : Int) - (lo : Int) + 1) (by omega) (by omega), Int.tdiv_eq_ediv_of_nonneg (by omega), wrap_u64 (n := ((hi : Int) - (lo : Int) + 1) / 2) (by omega) (by omega), wrap_u64 (by omega) (by omega), hm]
        omega
      have e1 : IntKind.u64.wrap ((m : Int) - 1) = ((m - 1 : Nat) : Int) := by rw [wrap_u64 (by omega) (by omega)]; omega
      have ht := times_small m 131072 (by omega) (by omega)
      refine Ev.step (fun _ => rfl) (ev_pos (by omega) ?_)
      simp only [em, e1]
      refine ev_bindc ht ?_
      have hl : spec_l1Less.f 0 (N : Int) 0 ((m * 131072 : Nat) : Int) = some (decide ((N : Int) < ((m * 131072 : Nat) : Int))) := by
        unfold spec_l1Less.f
        rw [if_neg (by decide), if_pos rfl]
      refine ev_bindc hl ?_
      by_cases hc : N < m * 131072
      · exact ev_pos (decide_eq_true (by omega)) (over_l N hN (d - 1) lo (m - 1) (by omega) h1 (by omega) (by omega))
      · exact ev_neg (by rw [decide_eq_true_eq]; omega) (over_l N hN (d - 1) m hi (by omega) (by omega) h2 h3)
    · obtain rfl : lo = N / 131072 := by omega
      exact Ev.step (fun _ => rfl) (ev_neg (by omega) (ev_some rfl))
  termination_by d lo hi => hi - lo
def negOf (a b : Int) : Bool := (decide (a < 0)) != (decide (b < 0))
def quoOf (a b : Int) : Nat := (a.natAbs * b.natAbs + (if negOf a b = true then 32767 else 32768)) / 65536
def fixOf (a b : Int) : Int := if negOf a b = true then -((quoOf a b : Nat) : Int) else ((quoOf a b : Nat) : Int)
theorem fix_bound (a b : Int) (ha : a.natAbs ≤ 1000000) (hb : b.natAbs ≤ 131072) : a.natAbs * b.natAbs ≤ 131072000000 := Nat.mul_le_mul ha hb
theorem good_spec (a : Int) (h : a.natAbs ≤ 1000000) : spec_GoodFixed.f a = some true := by
  unfold spec_GoodFixed.f
  rw [in_some]
  exact congrArg some (decide_eq_true (by omega))
theorem abs_spec (a : Int) (h : a.natAbs ≤ 1000000) : spec_l1Abs.f a = some (a.natAbs : Int) := by
  unfold spec_l1Abs.f
  by_cases h0 : a < 0
  · rw [if_pos h0, w64 (by omega) (by omega)]; congr 1; omega
  · rw [if_neg h0]; congr 1; omega
theorem size_impl (a : Int) (h : a.natAbs ≤ 1000000) : impl_size.f a = some (a.natAbs : Int) := by
  unfold impl_size.f mx
  rw [w64 (by omega) (by omega)]
  congr 1
  split <;> omega
theorem fix_spec (a b : Int) (ha : a.natAbs ≤ 1000000) (hb : b.natAbs ≤ 131072) : Ev (fun k => spec_FixMul.f k a b) (fixOf a b) := by
  have hP := fix_bound a b ha hb
  refine ev_bindc (good_spec a ha) (ev_pos rfl (ev_bindc (good_spec b (by omega)) ?_))
  refine st_spec_FixMul_j0 (ev_neg (by decide) ?_)
  refine ev_bindc (abs_spec a ha) ?_
  refine ev_bindc (abs_spec b (by omega)) ?_
  rw [uw _ (by omega), uw _ (by omega)]
  refine ev_bindc (times_small _ _ (by omega) (by omega)) (Ev.bind (a := fixOf a b) ?_ (ev_some rfl))
  generalize hp : a.natAbs * b.natAbs = p at *
  have s1 : spec_l1Plus.f 0 (p : Int) (p : Int) = some (0, ((2 * p : Nat) : Int)) := by
    have e : (p : Int) + (p : Int) = ((2 * p : Nat) : Int) := by omega
    unfold spec_l1Plus.f
    rw [e, uw _ (by omega), if_neg (by omega)]
  have s2 : spec_l1Sum.f 0 (p : Int) 0 (p : Int) = some (0, ((2 * p : Nat) : Int)) := by
    have u0 : IntKind.u64.wrap (0 + 0) = 0 := wrap_u64 (by omega) (by omega)
    unfold spec_l1Sum.f
    rw [s1]
    show some (IntKind.u64.wrap (0 + 0), _) = _
    rw [u0]
  have s3 : spec_l1Plus.f 0 ((2 * p : Nat) : Int) 65536 = some (0, ((2 * p + 65536 : Nat) : Int)) := by
    have e : ((2 * p : Nat) : Int) + 65536 = ((2 * p + 65536 : Nat) : Int) := by omega
    unfold spec_l1Plus.f
    rw [e, uw _ (by omega), if_neg (by omega)]
  have u2 : IntKind.u64.wrap (2 * 65536) = 131072 := wrap_u64 (by omega) (by omega)
  refine ev_bindc s2 (ev_bindc s3 ?_)
  have hcut : ∀ z : Int, -1000000000 ≤ z → z ≤ 1000000000 → spec_l1Cut.f z = some z := fun z h0 h1 => by
    unfold spec_l1Cut.f
    rw [if_neg (by omega), if_neg (by omega)]
  unfold fixOf
  show Ev _ (if negOf a b = true then _ else _)
  by_cases hn : negOf a b = true
  · have hq : quoOf a b = (2 * p + 65535) / 131072 := by unfold quoOf; rw [if_pos hn, hp]; omega
    have e1 : IntKind.u64.wrap (((2 * p + 65536 : Nat) : Int) - 1) = ((2 * p + 65535 : Nat) : Int) := by rw [wrap_u64 (by omega) (by omega)]; omega
    have hb' : quoOf a b ≤ 4000000 := by omega
    rw [if_pos hn]
    refine ev_pos hn (ev_neg (by omega) (st_spec_l1Near_j0 ?_))
    simp only [u2, e1]
    refine Ev.bind (a := ((quoOf a b : Nat) : Int)) ?_ (ev_pos trivial ?_)
    · rw [hq]; exact over_l (2 * p + 65535) (by omega) 4398046511104 0 4398046511104 (by omega) (by omega) (by omega) (by omega)
    · rw [w64 (n := ((quoOf a b : Nat) : Int)) (by omega) (by omega), w64 (by omega) (by omega)]
      exact ev_bindc (hcut _ (by omega) (by omega)) (ev_some rfl)
  · have hq : quoOf a b = (2 * p + 65536) / 131072 := by unfold quoOf; rw [if_neg hn, hp]; omega
    have hb' : quoOf a b ≤ 4000000 := by omega
    rw [if_neg hn]
    refine ev_neg hn (st_spec_l1Near_j0 ?_)
    simp only [u2]
    refine Ev.bind (a := ((quoOf a b : Nat) : Int)) ?_ (ev_neg (by decide) ?_)
    · rw [hq]; exact over_l (2 * p + 65536) (by omega) 4398046511104 0 4398046511104 (by omega) (by omega) (by omega) (by omega)
    · rw [w64 (by omega) (by omega)]
      exact ev_bindc (hcut _ (by omega) (by omega)) (ev_some rfl)
abbrev FixOk (x : Int) : Prop := -1099511627776 ≤ x ∧ x ≤ 1099511627776
theorem fixed_impl (x : Int) : impl_GoodFixed.f x = some (decide (-1099511627776 ≤ x ∧ x ≤ 1099511627776)) := by
  unfold impl_GoodFixed.f
  rw [in_same, in_some]; rfl
theorem fixed_spec (x : Int) : spec_GoodFixed.f x = some (decide (-1099511627776 ≤ x ∧ x ≤ 1099511627776)) := by
  unfold spec_GoodFixed.f
  rw [in_some]; rfl
theorem areFixed_ev (l : List Int) (hl : l.length ≤ 1000) (b : Bool) (hb : b = true ↔ ∀ i : Nat, i < l.length → FixOk (rd l (i : Int))) : Ev (fun k => impl_areFixed.f k l) b := by
  refine ev_all l.length (fun k i => impl_areFixed.l0 k l (l.length : Int) (i : Int)) (fun i => FixOk (rd l (i : Int))) true b ⟨fun h => ⟨rfl, hb.1 h⟩, fun h => hb.2 h.2⟩ ?_ ?_ ?_
  · exact st_impl_areFixed_l0 (ev_neg (by omega) (ev_some rfl))
  · intro i hi _ hok r hr
    refine st_impl_areFixed_l0 (ev_pos (by omega) (ev_pos (by omega) (ev_pos (by omega) (ev_bindc (fixed_impl _) (ev_pos (decide_eq_true hok) ?_)))))
    rw [w64s i (by omega)]
    exact hr
  · intro i hi _ hok
    exact st_impl_areFixed_l0 (ev_pos (by omega) (ev_pos (by omega) (ev_pos (by omega) (ev_bindc (fixed_impl _) (ev_neg (by rw [decide_eq_true_eq]; exact hok) (ev_some rfl))))))
theorem two_fixed (a b : Int) (ha : a.natAbs ≤ 1000000) (hb : b.natAbs ≤ 131072) : Ev (fun k => impl_areFixed.f k ([a, b] : List Int)) true := by
  refine areFixed_ev [a, b] (by simp) true ⟨fun _ i hi => ?_, fun _ => rfl⟩
  rw [rd_get hi]
  unfold FixOk
  match i, hi with
  | 0, _ => show _ ≤ a ∧ a ≤ _; omega
  | 1, _ => show _ ≤ b ∧ b ≤ _; omega
theorem fix_impl (a b : Int) (ha : a.natAbs ≤ 1000000) (hb : b.natAbs ≤ 131072) : Ev (fun k => impl_FixMul.f k a b) (fixOf a b) := by
  have hP := fix_bound a b ha hb
  refine Ev.bind (two_fixed a b ha hb) (ev_pos rfl (ev_bindc (size_impl a ha) (ev_bindc (size_impl b (by omega)) ?_)))
  rw [uw _ (by omega), uw _ (by omega)]
  refine ev_bindc (mul64_small _ _ (by omega) (by omega)) ?_
  generalize hp : a.natAbs * b.natAbs = p at *
  have key : ∀ c : Nat, c ≤ 32768 → add64 (p : Int) (c : Int) = ((p + c : Nat) : Int) ∧ add64c (p : Int) (c : Int) = 0 := fun c hc => by
    unfold add64 add64c
    simp only [Int.toNat_natCast]
    omega
  have u0 : IntKind.u64.wrap (0 + 0) = 0 := wrap_u64 (by omega) (by omega)
  have u1 : IntKind.u64.wrap (0 * 281474976710656) = 0 := wrap_u64 (by omega) (by omega)
  have hd : ∀ c : Nat, ((p + c : Nat) : Int) / 65536 = (((p + c) / 65536 : Nat) : Int) := fun c => by omega
  show Ev (fun k => if negOf a b = true then _ else _) _
  by_cases hn : negOf a b = true
  · have hq : quoOf a b = (p + 32767) / 65536 := by unfold quoOf; rw [if_pos hn, hp]
    obtain ⟨k1, k2⟩ := key 32767 (by omega)
    have e : ((32768 : Int) - 1) = ((32767 : Nat) : Int) := rfl
    have hm : mn (Go.bits .or .u64 0 ((quoOf a b : Nat) : Int)) 1099511627776 = ((quoOf a b : Nat) : Int) := by rw [or_zero _ (by omega)]; unfold mn; rw [if_neg (by omega)]
    refine ev_pos hn (st_impl_FixMul_j0 ?_)
    rw [e, k1, k2, hd, ← hq, u0]
    refine ev_pos (by decide) (ev_pos hn ?_)
    rw [u1, hm, w64 (n := ((quoOf a b : Nat) : Int)) (by omega) (by omega), w64 (by omega) (by omega)]
    exact ev_some (by unfold fixOf; rw [if_pos hn])
  · have hq : quoOf a b = (p + 32768) / 65536 := by unfold quoOf; rw [if_neg hn, hp]
    obtain ⟨k1, k2⟩ := key 32768 (by omega)
    have e : (32768 : Int) = ((32768 : Nat) : Int) := rfl
    have hm : mn (Go.bits .or .u64 0 ((quoOf a b : Nat) : Int)) 1099511627776 = ((quoOf a b : Nat) : Int) := by rw [or_zero _ (by omega)]; unfold mn; rw [if_neg (by omega)]
    refine ev_neg hn (st_impl_FixMul_j0 ?_)
    rw [e, k1, k2, hd, ← hq, u0]
    refine ev_pos (by decide) (ev_neg hn ?_)
    rw [u1, hm, w64 (by omega) (by omega)]
    exact ev_some (by unfold fixOf; rw [if_neg hn])
theorem mod_spec (a : Nat) (ha : a ≤ 1000000) : spec_l1Mod.f (a : Int) 4096 = some ((a % 4096 : Nat) : Int) := by
  have e1 : Int.tdiv (a : Int) 4096 = ((a / 4096 : Nat) : Int) := by rw [Int.tdiv_eq_ediv_of_nonneg (by omega)]; omega
  have hd : spec_l1Down.f (a : Int) 4096 = some ((a / 4096 : Nat) : Int) := by
    unfold spec_l1Down.f
    rw [if_neg (by decide), e1, w64 (by omega) (by omega)]
    split
    · rfl
    · rw [if_neg (by rw [decide_eq_false (show ¬ (a : Int) < 0 by omega)]; decide)]
  unfold spec_l1Mod.f
  rw [hd]
  show some (wrap64 _) = _
  rw [w64 (n := 4096 * ((a / 4096 : Nat) : Int)) (by omega) (by omega), w64 (by omega) (by omega)]
  congr 1
  omega
theorem mod_impl (a : Nat) (ha : a ≤ 1000000) : impl_mod.f (a : Int) 4096 = some ((a % 4096 : Nat) : Int) := by
  unfold impl_mod.f
  have t1 : Int.tmod (a : Int) 4096 = ((a % 4096 : Nat) : Int) := by rw [Int.tmod_eq_emod_of_nonneg (by omega)]; omega
  have t2 : Int.tmod (((a % 4096 : Nat) : Int) + 4096) 4096 = ((a % 4096 : Nat) : Int) := by rw [Int.tmod_eq_emod_of_nonneg (by omega)]; omega
  rw [if_neg (by decide), t1, w64 (by omega) (by omega), t2]
theorem tab_bound : ∀ j : Fin 17, 0 ≤ rd impl_SinOf.tab (j.val : Int) ∧ rd impl_SinOf.tab (j.val : Int) ≤ 65536 := by decide
theorem tab_b (j : Nat) (h : j < 17) : 0 ≤ rd impl_SinOf.tab (j : Int) ∧ rd impl_SinOf.tab (j : Int) ≤ 65536 := tab_bound ⟨j, h⟩
theorem mul_b (x : Int) (y : Int) (h0 : 0 ≤ x) (h1 : x ≤ 65536) (g0 : 0 ≤ y) (g1 : y ≤ 64) : 0 ≤ x * y ∧ x * y ≤ 65536 * y := ⟨Int.mul_nonneg h0 g0, Int.mul_le_mul_of_nonneg_right h1 g0⟩
theorem at_bound (c : Nat) (h : c < 1024) : 0 ≤ impl_SinOf.at_ (c : Int) ∧ impl_SinOf.at_ (c : Int) ≤ 65536 := by
  have b1 := tab_b (c / 64) (by omega)
  have b2 := tab_b (c / 64 + 1) (by omega)
  have e1 : ((c : Int)) / 64 = ((c / 64 : Nat) : Int) := by omega
  have e2 : ((c : Int)) / 64 + 1 = ((c / 64 + 1 : Nat) : Int) := by omega
  unfold impl_SinOf.at_
  rw [e2, e1]
  have m1 := mul_b _ (64 - (c : Int) % 64) b1.1 b1.2 (by omega) (by omega)
  have m2 := mul_b _ ((c : Int) % 64) b2.1 b2.2 (by omega) (by omega)
  generalize rd impl_SinOf.tab ((c / 64 : Nat) : Int) * (64 - (c : Int) % 64) = u at *
  generalize rd impl_SinOf.tab ((c / 64 + 1 : Nat) : Int) * ((c : Int) % 64) = v at *
  omega
theorem sin_base (c : Nat) (h : c < 1024) : Ev (fun k => spec_SinOf.f k (c : Int)) (impl_SinOf.at_ (c : Int)) := by
  have b1 := tab_b (c / 64) (by omega)
  have b2 := tab_b (c / 64 + 1) (by omega)
  have e0 : c % 4096 = c := by omega
  have e1 : wrap64 (Int.tdiv (c : Int) 64) = ((c / 64 : Nat) : Int) := by rw [Int.tdiv_eq_ediv_of_nonneg (by omega), w64 (by omega) (by omega)]; omega
  have e2 : wrap64 (((c / 64 : Nat) : Int) + 1) = ((c / 64 + 1 : Nat) : Int) := w64s _ (by omega)
  have e3 : Int.tmod (c : Int) 64 = (c : Int) % 64 := Int.tmod_eq_emod_of_nonneg (by omega)
  have m1 := mul_b _ (64 - (c : Int) % 64) b1.1 b1.2 (by omega) (by omega)
  have m2 := mul_b _ ((c : Int) % 64) b2.1 b2.2 (by omega) (by omega)
  have hm := mod_spec c (by omega)
  rw [e0] at hm
  have ht : spec_l1Table.f = some impl_SinOf.tab := rfl
  have hl : (impl_SinOf.tab.length : Int) = 17 := rfl
  refine Ev.step (fun k => by rw [spec_SinOf.f]) ?_
  refine ev_bindc hm (ev_neg (by omega) (ev_neg (by omega) (ev_neg (by omega) (ev_bindc ht ?_))))
  simp only [e1, e2, e3, hl]
  refine ev_pos (by omega) (ev_pos (by omega) (ev_pos (by omega) (ev_pos (by omega) (ev_some ?_))))
  rw [w64 (n := 64 - (c : Int) % 64) (by omega) (by omega)]
  have e4 : ((c : Int)) / 64 = ((c / 64 : Nat) : Int) := by omega
  have e5 : ((c : Int)) / 64 + 1 = ((c / 64 + 1 : Nat) : Int) := by omega
  unfold impl_SinOf.at_
  rw [e5, e4]
  generalize rd impl_SinOf.tab ((c / 64 : Nat) : Int) * (64 - (c : Int) % 64) = u at *
  generalize rd impl_SinOf.tab ((c / 64 + 1 : Nat) : Int) * ((c : Int) % 64) = v at *
  rw [w64 (n := u) (by omega) (by omega), w64 (n := v) (by omega) (by omega), w64 (n := u + v) (by omega) (by omega), w64 (n := u + v + 32) (by omega) (by omega), Int.tdiv_eq_ediv_of_nonneg (by omega), w64 (by omega) (by omega)]
theorem low_bound (b : Nat) (h : b < 2048) : 0 ≤ impl_SinOf.low (b : Int) ∧ impl_SinOf.low (b : Int) ≤ 65536 := by
  unfold impl_SinOf.low
  split
  · have := at_bound (2048 - b) (by omega)
    rw [show (2048 : Int) - (b : Int) = ((2048 - b : Nat) : Int) by omega]
    exact this
  · split
    · omega
    · exact at_bound b (by omega)
theorem sin_low (b : Nat) (h : b < 2048) : Ev (fun k => spec_SinOf.f k (b : Int)) (impl_SinOf.low (b : Int)) := by
  have hm := mod_spec b (by omega)
  rw [show b % 4096 = b by omega] at hm
  unfold impl_SinOf.low
  by_cases h1 : (b : Int) > 1024
  · rw [if_pos h1]
    have hs := sin_base (2048 - b) (by omega)
    rw [show ((2048 - b : Nat) : Int) = (2048 : Int) - (b : Int) by omega] at hs
    refine Ev.step (fun k => by rw [spec_SinOf.f]) ?_
    refine ev_bindc hm (ev_neg (by omega) (ev_pos (by omega) ?_))
    rw [w64 (n := (2048 : Int) - (b : Int)) (by omega) (by omega)]
    exact Ev.bind hs (ev_some rfl)
  · rw [if_neg h1]
    by_cases h2 : (b : Int) = 1024
    · rw [if_pos h2]
      refine Ev.step (fun k => by rw [spec_SinOf.f]) ?_
      exact ev_bindc hm (ev_neg (by omega) (ev_neg (by omega) (ev_pos h2 (ev_some rfl))))
    · rw [if_neg h2]; exact sin_base b (by omega)
def sinAt (a : Nat) : Int := if a % 4096 < 2048 then impl_SinOf.low ((a % 4096 : Nat) : Int) else -(impl_SinOf.low ((a % 4096 - 2048 : Nat) : Int))
theorem sin_bound (a : Nat) : (sinAt a).natAbs ≤ 65536 := by
  unfold sinAt
  split
  · have := low_bound (a % 4096) (by omega); omega
  · have := low_bound (a % 4096 - 2048) (by omega); omega
theorem sin_spec (a : Nat) (ha : a ≤ 1000000) : Ev (fun k => spec_SinOf.f k (a : Int)) (sinAt a) := by
  by_cases h : a % 4096 < 2048
  · have e : sinAt a = impl_SinOf.low ((a % 4096 : Nat) : Int) := if_pos h
    rw [e]
    -- the sine of a is the sine of its rest
    have hm := mod_spec a ha
    obtain ⟨k0, hk⟩ := sin_low (a % 4096) h
    have hm2 := mod_spec (a % 4096) (by omega)
    rw [show a % 4096 % 4096 = a % 4096 by omega] at hm2
    refine ⟨k0, fun k hk' => ?_⟩
    cases k with
    | zero =>
      have this : spec_SinOf.f 0 ((a % 4096 : Nat) : Int) = _ := hk 0 hk'
      rw [spec_SinOf.f] at this
      cases this
    | succ k =>
      have this : spec_SinOf.f (k + 1) ((a % 4096 : Nat) : Int) = _ := hk (k + 1) hk'
      show spec_SinOf.f (k + 1) (a : Int) = _
      rw [spec_SinOf.f, hm2] at this
      rw [spec_SinOf.f, hm]
      exact this
  · have e : sinAt a = -(impl_SinOf.low ((a % 4096 - 2048 : Nat) : Int)) := if_neg h
    have hb := low_bound (a % 4096 - 2048) (by omega)
    rw [e]
    refine Ev.step (fun k => by rw [spec_SinOf.f]) ?_
    refine ev_bindc (mod_spec a ha) (ev_pos (by omega) ?_)
    rw [w64 (by omega) (by omega), show ((a % 4096 : Nat) : Int) - 2048 = ((a % 4096 - 2048 : Nat) : Int) by omega]
    refine Ev.bind (sin_low _ (by omega)) (ev_some ?_)
    rw [w64 (by omega) (by omega)]
theorem sin_impl (a : Nat) (ha : a ≤ 1000000) : impl_SinOf.f (a : Int) = some (sinAt a) := by
  unfold impl_SinOf.f sinAt
  rw [mod_impl a ha, Option.bind_some, if_pos (by omega)]
  by_cases h : a % 4096 < 2048
  · rw [if_pos (by omega), if_pos h]
  · have hb := low_bound (a % 4096 - 2048) (by omega)
    rw [if_neg (by omega), if_pos (by omega), if_neg h, show ((a % 4096 : Nat) : Int) - 2048 = ((a % 4096 - 2048 : Nat) : Int) by omega, w64 (by omega) (by omega)]
theorem cos_spec (a : Nat) (ha : a ≤ 900000) : Ev (fun k => spec_CosOf.f k (a : Int)) (sinAt (a % 4096 + 1024)) := by
  unfold spec_CosOf.f
  refine ev_bindc (mod_spec a (by omega)) ?_
  rw [w64 (by omega) (by omega), show ((a % 4096 : Nat) : Int) + 1024 = ((a % 4096 + 1024 : Nat) : Int) by omega]
  exact Ev.bind (sin_spec _ (by omega)) (ev_some rfl)
theorem cos_impl (a : Nat) (ha : a ≤ 900000) : impl_CosOf.f (a : Int) = some (sinAt (a % 4096 + 1024)) := by
  unfold impl_CosOf.f
  rw [mod_impl a (by omega), Option.bind_some, w64 (by omega) (by omega), show ((a % 4096 : Nat) : Int) + 1024 = ((a % 4096 + 1024 : Nat) : Int) by omega, sin_impl _ (by omega), Option.bind_some]
def nextOf (s : Int) : Int := (s * 1103515245 + 12345) % 2147483648
theorem next_range (s : Int) : 0 ≤ nextOf s ∧ nextOf s ≤ 2147483647 := by unfold nextOf; omega
theorem coin_eq (s : Int) (h : 0 ≤ s ∧ s ≤ 2147483647) : Int.tmod (wrap64 ((wrap64 (s * 1103515245)) + 12345)) 2147483648 = nextOf s ∧ wrap64 (Int.tdiv (Int.tmod (wrap64 ((wrap64 (s * 1103515245)) + 12345)) 2147483648) 65536) = nextOf s / 65536 := by
  have hn := next_range s
  have e : Int.tmod (wrap64 ((wrap64 (s * 1103515245)) + 12345)) 2147483648 = nextOf s := by
    rw [w64 (n := s * 1103515245) (by omega) (by omega), w64 (by omega) (by omega), Int.tmod_eq_emod_of_nonneg (by omega)]; rfl
  rw [e, Int.tdiv_eq_ediv_of_nonneg (by omega), w64 (by omega) (by omega)]
  exact ⟨rfl, rfl⟩
theorem coin_spec (s : Int) (h : 0 ≤ s ∧ s ≤ 2147483647) : spec_l1Coin.f s = some (nextOf s, nextOf s / 65536) := by
  unfold spec_l1Coin.f
  rw [(coin_eq s h).2, (coin_eq s h).1]
theorem seed_impl (s : Int) : impl_isSeed.f s = some (decide (0 ≤ s ∧ s ≤ 2147483647)) := by
  unfold impl_isSeed.f
  rw [in_same, in_some]; rfl
theorem seed_spec (s : Int) : spec_l1Seed.f s = some (decide (0 ≤ s ∧ s ≤ 2147483647)) := by
  unfold spec_l1Seed.f
  rw [in_some]; rfl
theorem coin_impl (s : Int) (h : 0 ≤ s ∧ s ≤ 2147483647) : impl_NextCoin.f s = some (nextOf s, nextOf s / 65536) := by
  unfold impl_NextCoin.f
  rw [seed_impl, Option.bind_some, if_pos (decide_eq_true h), (coin_eq s h).2, (coin_eq s h).1]
def turnOf (s : Int) : Nat := (nextOf s / 65536 % 4096).toNat
def speedOf (v s : Int) : Int := v * (nextOf (nextOf s) / 65536) / 32768
theorem speed_bound (v s : Int) (hv : 0 ≤ v ∧ v ≤ 1000000) : 0 ≤ speedOf v s ∧ speedOf v s ≤ 1000000 := by
  have hn := next_range (nextOf s)
  have h1 : 0 ≤ v * (nextOf (nextOf s) / 65536) := Int.mul_nonneg hv.1 (by omega)
  have h2 : v * (nextOf (nextOf s) / 65536) ≤ 1000000 * (nextOf (nextOf s) / 65536) := Int.mul_le_mul_of_nonneg_right hv.2 (by omega)
  unfold speedOf
  omega
theorem speed_eq (v s : Int) (hv : 0 ≤ v ∧ v ≤ 1000000) : wrap64 (Int.tdiv (wrap64 (v * (nextOf (nextOf s) / 65536))) 32768) = speedOf v s := by
  have hn := next_range (nextOf s)
  have hb := speed_bound v s hv
  have h1 : 0 ≤ v * (nextOf (nextOf s) / 65536) := Int.mul_nonneg hv.1 (by omega)
  have h2 : v * (nextOf (nextOf s) / 65536) ≤ 1000000 * (nextOf (nextOf s) / 65536) := Int.mul_le_mul_of_nonneg_right hv.2 (by omega)
  rw [w64 (n := v * (nextOf (nextOf s) / 65536)) (by omega) (by omega), Int.tdiv_eq_ediv_of_nonneg h1]
  exact w64 (by unfold speedOf at hb; omega) (by unfold speedOf at hb; omega)
theorem turn_eq (s : Int) : Int.tmod (nextOf s / 65536) 4096 = ((turnOf s : Nat) : Int) := by
  have hn := next_range s
  unfold turnOf
  rw [Int.tmod_eq_emod_of_nonneg (by omega), Int.toNat_of_nonneg (by omega)]
theorem turn_lt (s : Int) : turnOf s < 4096 := by unfold turnOf; omega
def dxOf (v s : Int) : Int := fixOf (speedOf v s) (sinAt (turnOf s % 4096 + 1024))
def dyOf (v s : Int) : Int := fixOf (speedOf v s) (sinAt (turnOf s))
theorem born_impl (x y e u l v f s : Int) (hv : 0 ≤ v ∧ v ≤ 1000000) (hs : 0 ≤ s ∧ s ≤ 2147483647) : Ev (fun k => impl_Emitter_born.f k x y e u l v f s) (x, y, dxOf v s, dyOf v s, l, nextOf (nextOf s)) := by
  have hb := speed_bound v s hv
  have ht := turn_lt s
  unfold impl_Emitter_born.f
  refine ev_bindc (coin_impl s hs) (ev_bindc (coin_impl _ (next_range s)) ?_)
  simp only [turn_eq, speed_eq v s hv]
  refine ev_bindc (cos_impl _ (by omega)) (Ev.bind (fix_impl _ _ (by omega) (by have := sin_bound (turnOf s % 4096 + 1024); omega)) (ev_bindc (sin_impl _ (by omega)) (Ev.bind (fix_impl _ _ (by omega) (by have := sin_bound (turnOf s); omega)) (ev_some rfl))))
theorem good_emitter_same (x y e u l v f : Int) : impl_GoodEmitter.f x y e u l v f = spec_GoodEmitter.f x y e u l v f := by
  unfold impl_GoodEmitter.f spec_GoodEmitter.f impl_isFar.f
  simp only [in_same, in_some, Option.bind_some]
def SparkOk (x : S48) : Prop := FixOk x.f0 ∧ FixOk x.f1 ∧ FixOk x.f2 ∧ FixOk x.f3 ∧ (1 ≤ x.f4 ∧ x.f4 ≤ 200)
def CloudOk (s st : Int) (l : List S48) : Prop := (0 ≤ s ∧ s ≤ 2147483647) ∧ (0 ≤ st ∧ st ≤ 200) ∧ l.length ≤ 60 ∧ ∀ i : Nat, i < l.length → SparkOk (rd_T48 l (i : Int))
theorem cloud_spec (s st : Int) (l : List S48) (b : Bool) (hb : b = true ↔ CloudOk s st l) : Ev (fun k => spec_GoodCloud.f k s st l) b := by
  have no : ¬ CloudOk s st l → false = b := fun h => by cases b with | false => rfl | true => exact absurd (hb.1 rfl) h
  unfold spec_GoodCloud.f
  refine ev_bindc (seed_spec s) (ev_ite (fun h0 => ?_) fun h0 => st_spec_GoodCloud_j0 (ev_pos rfl (ev_some (no fun h => h0 (decide_eq_true h.1)))))
  refine ev_bindc (in_some _ _ _) (ev_ite (fun h1 => ?_) fun h1 => st_spec_GoodCloud_j0 (ev_pos rfl (ev_some (no fun h => h1 (decide_eq_true h.2.1)))))
  refine st_spec_GoodCloud_j0 (ev_ite (fun h2 => ev_some (no fun h => by have := h.2.2.1; have := of_decide_eq_true h2; omega)) fun h2 => ?_)
  have h2' : l.length ≤ 60 := by
    rcases Nat.lt_or_ge 60 l.length with h | h
    · exact absurd (decide_eq_true (by omega)) h2
    · exact h
  refine ev_all l.length (fun k i => spec_GoodCloud.l0 k l (l.length : Int) (i : Int)) (fun i => SparkOk (rd_T48 l (i : Int))) true b ⟨fun h => ⟨rfl, (hb.1 h).2.2.2⟩, fun h => hb.2 ⟨of_decide_eq_true h0, of_decide_eq_true h1, h2', h.2⟩⟩ ?_ ?_ ?_
  · exact st_spec_GoodCloud_l0 (ev_neg (by omega) (ev_some rfl))
  · intro i hi _ hok r hr
    obtain ⟨g0, g1, g2, g3, g4⟩ := hok
    refine st_spec_GoodCloud_l0 (ev_pos (by omega) (ev_pos (by omega) (ev_pos (by omega) (ev_bindc (fixed_spec _) (ev_pos (decide_eq_true g0) (ev_bindc (fixed_spec _) (ev_pos (decide_eq_true g1) (ev_bindc (fixed_spec _) (ev_pos (decide_eq_true g2) (ev_bindc (fixed_spec _) (ev_pos (decide_eq_true g3) (ev_bindc (in_some _ _ _) (ev_pos (decide_eq_true g4) ?_)))))))))))))
    rw [w64s i (by omega)]
    exact hr
  · intro i hi _ hok
    exact st_spec_GoodCloud_l0 (ev_pos (by omega) (ev_pos (by omega) (ev_pos (by omega) (ev_bindc (fixed_spec _) (ev_ite (fun g0 => ev_bindc (fixed_spec _) (ev_ite (fun g1 => ev_bindc (fixed_spec _) (ev_ite (fun g2 => ev_bindc (fixed_spec _) (ev_ite (fun g3 => ev_bindc (in_some _ _ _) (ev_ite (fun g4 => absurd ⟨of_decide_eq_true g0, of_decide_eq_true g1, of_decide_eq_true g2, of_decide_eq_true g3, of_decide_eq_true g4⟩ hok) fun _ => ev_some rfl)) fun _ => ev_some rfl)) fun _ => ev_some rfl)) fun _ => ev_some rfl)) fun _ => ev_some rfl)))))
theorem bool_for (p : Prop) : ∃ b : Bool, b = true ↔ p := by
  rcases Classical.em p with h | h
  · exact ⟨true, fun _ => h, fun _ => rfl⟩
  · exact ⟨false, (fun e => by cases e), fun h' => absurd h' h⟩
theorem spark_impl (x : S48) (c : Bool) (hc : c = true ↔ ¬ SparkOk x) : Ev (fun k => impl_GoodCloud_1.f k x.f0 x.f1 x.f2 x.f3 x.f4) c := by
  obtain ⟨b, hb⟩ := bool_for (∀ i : Nat, i < ([x.f0, x.f1, x.f2, x.f3] : List Int).length → FixOk (rd [x.f0, x.f1, x.f2, x.f3] (i : Int)))
  have four : b = true ↔ FixOk x.f0 ∧ FixOk x.f1 ∧ FixOk x.f2 ∧ FixOk x.f3 := by
    rw [hb]
    constructor
    · intro h
      exact ⟨h 0 (by simp), h 1 (by simp), h 2 (by simp), h 3 (by simp)⟩
    · rintro ⟨a0, a1, a2, a3⟩ i hi
      match i, hi with
      | 0, _ => exact a0
      | 1, _ => exact a1
      | 2, _ => exact a2
      | 3, _ => exact a3
  unfold impl_GoodCloud_1.f
  refine Ev.bind (areFixed_ev _ (by simp) b hb) (ev_ite (fun h => ev_bindc ((in_same _ _ _).trans (in_some _ _ _)) (ev_some ?_)) fun h => ev_some ?_)
  · have hf := four.1 h
    rw [Bool.eq_iff_iff, hc]
    unfold SparkOk
    rw [Bool.not_eq_true', decide_eq_false_iff_not]
    exact ⟨fun g h => g h.2.2.2.2, fun g h => g ⟨hf.1, hf.2.1, hf.2.2.1, hf.2.2.2, h⟩⟩
  · refine (hc.2 fun hs => h (four.2 ⟨hs.1, hs.2.1, hs.2.2.1, hs.2.2.2.1⟩)).symm
theorem cloud_impl (s st : Int) (l : List S48) (hl : l.length ≤ 1048576) (b : Bool) (hb : b = true ↔ CloudOk s st l) : Ev (fun k => impl_GoodCloud.f k s st l) b := by
  have no : ¬ CloudOk s st l → false = b := fun h => by cases b with | false => rfl | true => exact absurd (hb.1 rfl) h
  unfold impl_GoodCloud.f
  refine ev_bindc (seed_impl s) (ev_ite (fun h0 => ?_) fun h0 => ev_some (no fun h => h0 (decide_eq_true h.1)))
  refine ev_bindc ((in_same _ _ _).trans (in_some _ _ _)) (ev_ite (fun h1 => ?_) fun h1 => ev_some (no fun h => h1 (decide_eq_true h.2.1)))
  refine ev_ite (fun h2 => ?_) fun h2 => ev_some (no fun h => h2 (by have := h.2.2.1; omega))
  obtain ⟨P, hP⟩ : ∃ P : Nat → Bool, ∀ i : Nat, P i = true ↔ ¬ SparkOk (rd_T48 l (i : Int)) := ⟨fun i => Classical.choose (bool_for (¬ SparkOk (rd_T48 l (i : Int)))), fun i => Classical.choose_spec (bool_for (¬ SparkOk (rd_T48 l (i : Int))))⟩
  obtain ⟨c, hc⟩ := bool_for (∃ i, i < l.length ∧ P i = true)
  have := ev_contains slices_IndexFunc_w47.l0 (fun k xs i => impl_GoodCloud_1.f k (rd_T48 xs i).f0 (rd_T48 xs i).f1 (rd_T48 xs i).f2 (rd_T48 xs i).f3 (rd_T48 xs i).f4) (fun _ _ _ _ => rfl) l (by omega) P (fun i _ => spark_impl _ _ (hP i)) c hc
  refine Ev.bind (f := fun _ t => some (!t)) this (ev_some ?_)
  rw [Bool.eq_iff_iff, hb, Bool.not_eq_true', ← Bool.not_eq_true, hc]
  constructor
  · intro hcn
    refine ⟨of_decide_eq_true h0, of_decide_eq_true h1, by omega, fun i hi => ?_⟩
    rcases Classical.em (SparkOk (rd_T48 l (i : Int))) with h | h
    · exact h
    · exact absurd ⟨i, hi, (hP i).2 h⟩ hcn
  · rintro h ⟨i, hi, hp⟩
    exact (hP i).1 hp (h.2.2.2 i hi)
def movedOf (f : Int) (x : S48) : S48 := ⟨wrap64 (x.f0 + x.f2), wrap64 (x.f1 + x.f3), x.f2, wrap64 (x.f3 - f), wrap64 (x.f4 - 1)⟩
def keptOf (f : Int) (l : List S48) : Nat → List S48
  | 0 => []
  | i + 1 => if (rd_T48 l (i : Int)).f4 = 1 then keptOf f l i else keptOf f l i ++ [movedOf f (rd_T48 l (i : Int))]
theorem kept_len (f : Int) (l : List S48) : ∀ i, (keptOf f l i).length ≤ i
  | 0 => Nat.le_refl _
  | i + 1 => by
    have := kept_len f l i
    unfold keptOf
    split
    · omega
    · rw [List.length_append]; simp only [List.length_cons, List.length_nil]; omega
def outOf (s st : Int) (l : List S48) (b : Bool) : Int × Int × List S48 × Bool := if b = true then (s, st, l, true) else (0, 0, [], false)
theorem burst_same (x y e u li v f : Int) (hv : 0 ≤ v ∧ v ≤ 1000000) (hu : u ≤ 20) (st : Int) : ∀ (d n : Nat) (s : Int) (l : List S48), u.toNat - n ≤ d → (0 ≤ s ∧ s ≤ 2147483647) → l.length ≤ 60 → n ≤ 20 →
    ∃ s' l' b, Ev (fun k => spec_StepCloud.l1 k (n : Int) x y e u li v f s st l) (outOf s' st l' b) ∧ Ev (fun k => impl_Emitter_step.l1 k (n : Int) x y e u li v f s st l) (s', st, l', b) ∧ (b = true → CloudOk s' st l') ∧ l'.length ≤ 60
  | d, n, s, l, hd, hs, hl, hn => by
    have fin : ∃ s' l' b, Ev (fun k => spec_StepCloud.j3 k (n : Int) false x y e u li v f s st l) (outOf s' st l' b) ∧ Ev (fun k => (impl_GoodCloud.f k s st l).bind fun t => some (s, st, l, t)) (s', st, l', b) ∧ (b = true → CloudOk s' st l') ∧ l'.length ≤ 60 := by
      obtain ⟨b, hb⟩ := bool_for (CloudOk s st l)
      refine ⟨s, l, b, st_spec_StepCloud_j3 (ev_neg (by decide) (Ev.bind (cloud_spec s st l b hb) ?_)), Ev.bind (cloud_impl s st l (by omega) b hb) (ev_some rfl), hb.1, hl⟩
      cases b with
      | true => exact ev_pos rfl (ev_some rfl)
      | false => exact ev_neg (by decide) (ev_some rfl)
    by_cases h : (n : Int) < u
    · by_cases h2 : (l.length : Int) < 60
      · obtain ⟨d, rfl⟩ : ∃ d', d = d' + 1 := ⟨d - 1, by omega⟩
        obtain ⟨s', l', b, g1, g2, g3, g4⟩ := burst_same x y e u li v f hv hu st d (n + 1) (nextOf (nextOf s)) (l ++ [⟨x, y, dxOf v s, dyOf v s, li⟩]) (by omega) (next_range _) (by rw [List.length_append]; simp only [List.length_cons, List.length_nil]; omega) (by omega)
        have hb := speed_bound v s hv
        have ht := turn_lt s
        refine ⟨s', l', b, ?_, ?_, g3, g4⟩
        · refine st_spec_StepCloud_l1 (ev_pos h ?_)
          rw [decide_eq_true h2]
          refine st_spec_StepCloud_j3 (ev_pos rfl (ev_bindc (coin_spec s hs) (ev_bindc (coin_spec _ (next_range s)) ?_)))
          simp only [turn_eq, speed_eq v s hv]
          refine Ev.bind (cos_spec _ (by omega)) (Ev.bind (fix_spec _ _ (by omega) (by have := sin_bound (turnOf s % 4096 + 1024); omega)) (Ev.bind (sin_spec _ (by omega)) (Ev.bind (fix_spec _ _ (by omega) (by have := sin_bound (turnOf s); omega)) (ev_pos (by omega) ?_))))
          rw [w64s n (by omega)]
          exact g1
        · refine st_impl_Emitter_step_l1 (ev_pos h (ev_pos h2 (Ev.bind (born_impl x y e u li v f s hv hs) (ev_pos (by omega) ?_))))
          rw [w64s n (by omega)]
          exact g2
      · obtain ⟨s', l', b, g1, g2, g3, g4⟩ := fin
        refine ⟨s', l', b, st_spec_StepCloud_l1 (ev_pos h ?_), st_impl_Emitter_step_l1 (ev_pos h (ev_neg h2 g2)), g3, g4⟩
        rw [decide_eq_false h2]
        exact g1
    · obtain ⟨s', l', b, g1, g2, g3, g4⟩ := fin
      exact ⟨s', l', b, st_spec_StepCloud_l1 (ev_neg h g1), st_impl_Emitter_step_l1 (ev_neg h g2), g3, g4⟩
  termination_by d => d
theorem end_same (x y e u li v f : Int) (he : 1 ≤ e) (hv : 0 ≤ v ∧ v ≤ 1000000) (hu : u ≤ 20) (s st st1 : Int) (hs : 0 ≤ s ∧ s ≤ 2147483647) (l : List S48) (hl : l.length ≤ 60) :
    ∃ s' l' b, Ev (fun k => if e = 0 then none else (if Int.tmod st e = 0 then (spec_StepCloud.l1 k 0 x y e u li v f s st1 l) else ((spec_GoodCloud.f k s st1 l).bind fun t => (if t = true then (some (s, st1, l, true)) else (some (0, 0, ([] : List S48), false)))))) (outOf s' st1 l' b) ∧
      Ev (fun k => if e = 0 then none else (if Int.tmod st e = 0 then (impl_Emitter_step.l1 k 0 x y e u li v f s st1 l) else ((impl_GoodCloud.f k s st1 l).bind fun t => (some (s, st1, l, t))))) (s', st1, l', b) ∧ (b = true → CloudOk s' st1 l') ∧ l'.length ≤ 60 := by
  by_cases h : Int.tmod st e = 0
  · obtain ⟨s', l', b, g1, g2, g3, g4⟩ := burst_same x y e u li v f hv hu st1 u.toNat 0 s l (by omega) hs hl (by omega)
    exact ⟨s', l', b, ev_neg (by omega) (ev_pos h g1), ev_neg (by omega) (ev_pos h g2), g3, g4⟩
  · obtain ⟨b, hb⟩ := bool_for (CloudOk s st1 l)
    refine ⟨s, l, b, ev_neg (by omega) (ev_neg h (Ev.bind (cloud_spec s st1 l b hb) ?_)), ev_neg (by omega) (ev_neg h (Ev.bind (cloud_impl s st1 l (by omega) b hb) (ev_some rfl))), hb.1, hl⟩
    cases b with
    | true => exact ev_pos rfl (ev_some rfl)
    | false => exact ev_neg (by decide) (ev_some rfl)
theorem step_same (x y e u li v f : Int) (he : 1 ≤ e) (hv : 0 ≤ v ∧ v ≤ 1000000) (hu : u ≤ 20) (s st : Int) (l : List S48) (hc : CloudOk s st l) :
    ∃ s' l' b, Ev (fun k => spec_StepCloud.l0 k l (l.length : Int) 0 x y e u li v f s st l s (wrap64 (st + 1)) []) (outOf s' (wrap64 (st + 1)) l' b) ∧ Ev (fun k => impl_Emitter_step.f k x y e u li v f s st l) (s', wrap64 (st + 1), l', b) ∧ (b = true → CloudOk s' (wrap64 (st + 1)) l') ∧ l'.length ≤ 60 := by
  have hl := hc.2.2.1
  obtain ⟨s', l', b, g1, g2, g3, g4⟩ := end_same x y e u li v f he hv hu s st (wrap64 (st + 1)) hc.1 (keptOf f l l.length) (Nat.le_trans (kept_len f l _) hl)
  refine ⟨s', l', b, ?_, ?_, g3, g4⟩
  · refine ev_for1 l.length (fun k i t => spec_StepCloud.l0 k l (l.length : Int) (i : Int) x y e u li v f s st l s (wrap64 (st + 1)) t) (fun i t => t = keptOf f l i) _ ?_ ?_ 0 [] (Nat.zero_le _) rfl
    · rintro t rfl
      exact st_spec_StepCloud_l0 (ev_neg (by omega) g1)
    · rintro i t hi rfl
      have hk := kept_len f l i
      have h4 := (hc.2.2.2 i hi).2.2.2.2
      refine .inr ⟨keptOf f l (i + 1), rfl, fun r hr => st_spec_StepCloud_l0 (ev_pos (by omega) (ev_pos (by omega) (ev_pos (by omega) ?_)))⟩
      rw [w64s i (by omega)]
      unfold keptOf at hr
      by_cases h1 : (rd_T48 l (i : Int)).f4 = 1
      · rw [if_pos h1] at hr
        exact ev_pos (by rw [w64 (by omega) (by omega)]; omega) hr
      · rw [if_neg h1] at hr
        exact ev_neg (by rw [w64 (by omega) (by omega)]; omega) (ev_pos (by omega) hr)
  · refine ev_for1 l.length (fun k i t => impl_Emitter_step.l0 k l (l.length : Int) (i : Int) x y e u li v f s st l s (wrap64 (st + 1)) t) (fun i t => t = keptOf f l i) _ ?_ ?_ 0 [] (Nat.zero_le _) rfl
    · rintro t rfl
      exact st_impl_Emitter_step_l0 (ev_neg (by omega) g2)
    · rintro i t hi rfl
      have hk := kept_len f l i
      have h4 := (hc.2.2.2 i hi).2.2.2.2
      refine .inr ⟨keptOf f l (i + 1), rfl, fun r hr => st_impl_Emitter_step_l0 (ev_pos (by omega) (ev_pos (by omega) (ev_pos (by omega) ?_)))⟩
      rw [w64s i (by omega)]
      unfold keptOf at hr
      by_cases h1 : (rd_T48 l (i : Int)).f4 = 1
      · rw [if_pos h1] at hr
        exact ev_neg (by rw [w64 (by omega) (by omega)]; omega) hr
      · rw [if_neg h1] at hr
        exact ev_pos (by rw [w64 (by omega) (by omega)]; omega) (ev_pos (by omega) hr)
def EmitterOk (x y e u li v f : Int) : Prop := 1 ≤ e ∧ (0 ≤ v ∧ v ≤ 1000000) ∧ u ≤ 20
theorem emitter_ok (x y e u li v f : Int) : ∃ b, spec_GoodEmitter.f x y e u li v f = some b ∧ (b = true → EmitterOk x y e u li v f) := by
  unfold spec_GoodEmitter.f EmitterOk
  simp only [in_some, Option.bind_some]
  repeat' split
  all_goals first
    | exact ⟨false, rfl, fun h => by cases h⟩
    | (refine ⟨_, rfl, fun h => ?_⟩; simp only [decide_eq_true_eq] at *; omega)
theorem spec_step (x y e u li v f s st : Int) (l : List S48) (hg : spec_GoodEmitter.f x y e u li v f = some true) (hok : CloudOk s st l) {r : Int × Int × List S48 × Bool}
    (hr : st = 200 → r = (0, 0, [], false)) (h : st ≠ 200 → Ev (fun k => spec_StepCloud.l0 k l (l.length : Int) 0 x y e u li v f s st l s (wrap64 (st + 1)) []) r) : Ev (fun k => spec_StepCloud.f k x y e u li v f s st l) r := by
  have cs := cloud_spec s st l true ⟨fun _ => hok, fun _ => rfl⟩
  unfold spec_StepCloud.f
  refine ev_bindc hg (ev_pos rfl (Ev.bind cs (ev_pos rfl ?_)))
  by_cases hst : st = 200
  · rw [hr hst]
    exact st_spec_StepCloud_j0 (ev_pos (by rw [hst]; rfl) (ev_some rfl))
  · exact st_spec_StepCloud_j0 (ev_neg (by simpa using hst) (h hst))
theorem runs_same (x y e u li v f : Int) (hg : spec_GoodEmitter.f x y e u li v f = some true) (he : EmitterOk x y e u li v f) : ∀ (n i : Nat) (s st : Int) (l : List S48), CloudOk s st l → n ≤ 200 → i + n ≤ 200 →
    ∃ s' st' l' b, Ev (fun k => spec_RunCloud.l0 k (n : Int) x y e u li v f s st l) (s', st', l', b) ∧ (st + n ≤ 200 → Ev (fun k => impl_RunCloud.l0 k ((i + n : Nat) : Int) (i : Int) x y e u li v f s st l) (s', st', l', b)) ∧ (200 < st + n → (s', st', l', b) = (0, 0, [], false)) ∧ l'.length ≤ 60
  | 0, i, s, st, l, hok, _, _ => by
    have h2 := hok.2.1
    exact ⟨s, st, l, true, st_spec_RunCloud_l0 (ev_neg (by omega) (ev_some rfl)), fun _ => st_impl_RunCloud_l0 (ev_neg (by omega) (ev_some rfl)), fun h => by omega, hok.2.2.1⟩
  | n + 1, i, s, st, l, hok, hn, hi => by
    have h2 := hok.2.1
    obtain ⟨e1, e2, e3⟩ := he
    by_cases hst : st = 200
    · refine ⟨0, 0, [], false, ?_, fun h => by omega, fun _ => rfl, by simp⟩
      exact st_spec_RunCloud_l0 (ev_pos (by omega) (Ev.bind (spec_step x y e u li v f s st l hg hok (fun _ => rfl) (fun h => absurd hst h)) (ev_neg (by decide) (ev_some rfl))))
    · obtain ⟨s1, l1, b, g1, g2, g3, g4⟩ := step_same x y e u li v f e1 e2 e3 s st l hok
      have sp : Ev (fun k => spec_StepCloud.f k x y e u li v f s st l) (outOf s1 (wrap64 (st + 1)) l1 b) := spec_step x y e u li v f s st l hg hok (fun h => absurd h hst) (fun _ => g1)
      have hw : wrap64 (st + 1) = st + 1 := w64 (by omega) (by omega)
      cases b with
      | false =>
        refine ⟨0, 0, [], false, ?_, fun h => ?_, fun _ => rfl, by simp⟩
        · exact st_spec_RunCloud_l0 (ev_pos (by omega) (Ev.bind sp (ev_neg (by simp [outOf]) (ev_some rfl))))
        · exact st_impl_RunCloud_l0 (ev_pos (by omega) (Ev.bind g2 (ev_neg (by simp) (ev_some rfl))))
      | true =>
        have hok1 := g3 rfl
        rw [hw] at hok1 sp g2
        obtain ⟨s', st', l', b', r1, r2, r3, r4⟩ := runs_same x y e u li v f hg ⟨e1, e2, e3⟩ n (i + 1) s1 (st + 1) l1 hok1 (by omega) (by omega)
        refine ⟨s', st', l', b', ?_, fun h => ?_, fun h => r3 (by omega), r4⟩
        · refine st_spec_RunCloud_l0 (ev_pos (by omega) (Ev.bind sp (ev_pos rfl ?_)))
          rw [show wrap64 (((n + 1 : Nat) : Int) - 1) = (n : Int) by rw [w64 (by omega) (by omega)]; omega]
          exact r1
        · have r2 := r2 (by omega)
          refine st_impl_RunCloud_l0 (ev_pos (by omega) (Ev.bind g2 (ev_pos rfl ?_)))
          rw [show wrap64 ((i : Int) + 1) = ((i + 1 : Nat) : Int) by rw [w64 (by omega) (by omega)]; omega, show ((i + (n + 1) : Nat) : Int) = ((i + 1 + n : Nat) : Int) by omega]
          exact r2
theorem runcloud_same (x y e u li v f s st : Int) (l : List S48) (hl : l.length ≤ 1048576) (a : Int) :
    ∃ s' st' l' b, Ev (fun k => spec_RunCloud.f k x y e u li v f s st l a) (s', st', l', b) ∧ Ev (fun k => impl_RunCloud.f k x y e u li v f s st l a) (s', st', l', b) ∧ l'.length ≤ 60 := by
  obtain ⟨g, hg, he⟩ := emitter_ok x y e u li v f
  have hgi : impl_GoodEmitter.f x y e u li v f = some g := (good_emitter_same _ _ _ _ _ _ _).trans hg
  cases g with
  | false =>
    refine ⟨0, 0, [], false, ?_, ?_, by simp⟩
    · unfold spec_RunCloud.f
      exact ev_bindc hg (ev_neg (by decide) (st_spec_RunCloud_j0 (ev_pos rfl (ev_some rfl))))
    · unfold impl_RunCloud.f
      exact ev_bindc hgi (ev_neg (by decide) (st_impl_RunCloud_j0 (ev_pos rfl (ev_some rfl))))
  | true =>
    obtain ⟨c, hc⟩ := bool_for (CloudOk s st l)
    have cs := cloud_spec s st l c hc
    have ci := cloud_impl s st l hl c hc
    cases c with
    | false =>
      refine ⟨0, 0, [], false, ?_, ?_, by simp⟩
      · unfold spec_RunCloud.f
        exact ev_bindc hg (ev_pos rfl (Ev.bind cs (ev_neg (by decide) (st_spec_RunCloud_j0 (ev_pos rfl (ev_some rfl))))))
      · unfold impl_RunCloud.f
        exact ev_bindc hgi (ev_pos rfl (Ev.bind ci (ev_neg (by decide) (st_impl_RunCloud_j0 (ev_pos rfl (ev_some rfl))))))
    | true =>
      have hok := hc.1 rfl
      have h2 := hok.2.1
      have h3 := hok.2.2.1
      have hw : wrap64 (200 - st) = 200 - st := w64 (by omega) (by omega)
      have h33 : impl_Spark_33.f l = some l := if_pos (by omega)
      have bad : ¬ (0 ≤ a ∧ a ≤ 200 - st) → Ev (fun k => impl_RunCloud.f k x y e u li v f s st l a) (0, 0, [], false) := fun h => by
        unfold impl_RunCloud.f
        refine ev_bindc hgi (ev_pos rfl (Ev.bind ci (ev_pos rfl (ev_bindc ((in_same _ _ _).trans (in_some _ _ _)) ?_))))
        rw [hw, decide_eq_false h]
        exact st_impl_RunCloud_j0 (ev_pos rfl (ev_some rfl))
      by_cases h : 0 ≤ a ∧ a ≤ 200
      · obtain ⟨s', st', l', b, r1, r2, r3, r4⟩ := runs_same x y e u li v f hg (he rfl) a.toNat 0 s st l hok (by omega) (by omega)
        have sp : Ev (fun k => spec_RunCloud.f k x y e u li v f s st l a) (s', st', l', b) := by
          unfold spec_RunCloud.f
          refine ev_bindc hg (ev_pos rfl (Ev.bind cs (ev_pos rfl (ev_bindc (in_some _ _ _) ?_))))
          rw [decide_eq_true h]
          rw [Int.toNat_of_nonneg h.1] at r1
          exact st_spec_RunCloud_j0 (ev_neg (by decide) (ev_bindc rfl (ev_pos (by simp only [List.length_nil]; omega) r1)))
        by_cases h5 : a ≤ 200 - st
        · refine ⟨s', st', l', b, sp, ?_, r4⟩
          unfold impl_RunCloud.f
          refine ev_bindc hgi (ev_pos rfl (Ev.bind ci (ev_pos rfl (ev_bindc ((in_same _ _ _).trans (in_some _ _ _)) ?_))))
          rw [hw, decide_eq_true ⟨h.1, h5⟩]
          have r2 := r2 (by omega)
          rw [show ((0 + a.toNat : Nat) : Int) = a by omega] at r2
          exact st_impl_RunCloud_j0 (ev_neg (by decide) (ev_bindc h33 r2))
        · rw [r3 (by omega)] at sp
          exact ⟨0, 0, [], false, sp, bad (by omega), by simp⟩
      · refine ⟨0, 0, [], false, ?_, bad (by omega), by simp⟩
        unfold spec_RunCloud.f
        refine ev_bindc hg (ev_pos rfl (Ev.bind cs (ev_pos rfl (ev_bindc (in_some _ _ _) ?_))))
        rw [decide_eq_false h]
        exact st_spec_RunCloud_j0 (ev_pos rfl (ev_some rfl))
theorem markCloud_ev (a b : Int) {l ys : List S48} {c d : Int} (h : Ev (fun k => laws_markSparkS.f k l c) (d, ys)) : Ev (fun k => laws_markCloud.f k a b l c) (d, ys) := Ev.bind h (ev_some rfl)
theorem heldCloud_ev (a b : Int) {l : List S48} {c d : Int} (hd : 0 ≤ d) (h : Ev (fun k => laws_heldSparkS.f k l c) d) : Ev (fun k => laws_heldCloud.f k a b l c) d := Ev.bind h (ev_neg (by omega) (ev_some rfl))
theorem FnExactRunCloud : ∀ (a0_0 : Int) (a0_1 : Int) (a0_2 : Int) (a0_3 : Int) (a0_4 : Int) (a0_5 : Int) (a0_6 : Int) (a1_0 : Int) (a1_1 : Int) (l1_2 : List (S68)) (a2 : Int), (In64 a0_0) → (In64 a0_1) → (In64 a0_2) → (In64 a0_3) → (In64 a0_4) → (In64 a0_5) → (In64 a0_6) → (In64 a1_0) → (In64 a1_1) → (l1_2.length * 40 ≤ 140737488351232 ∧ ∀ y ∈ l1_2, Ok68 y) → (In64 a2) → ∃ k, laws_FnExactRunCloud.f k a0_0 a0_1 a0_2 a0_3 a0_4 a0_5 a0_6 a1_0 a1_1 l1_2 a2 = some true := by
  intro x y e u li v f s st xs a2 _ _ _ _ _ _ _ gs gst gl _
  refine Ev.rounds (g := fun k => laws_FnExactRunCloud.f k x y e u li v f s st xs a2) ?_
  obtain ⟨r, hr, h | ⟨h0, h1, hx⟩⟩ := szCloud_some s st xs gs gst gl 1048576 (by omega) (by omega)
  · exact Ev.bind hr (ev_pos h (ev_some rfl))
  · have tx := toCloud_ev s st xs hx
    have te : laws_toEmitter.f x y e u li v f = some (x, y, e, u, li, v, f) := rfl
    have hx' : (xs.map cv68).length ≤ 1048576 := by rw [List.length_map]; exact hx
    obtain ⟨s', st', m, t, hs, hi, hm⟩ := runcloud_same x y e u li v f s st (xs.map cv68) hx' a2
    obtain ⟨y1, d1, _, p0, _, _, hm1⟩ := markSparkS_ev (xs.map cv68) hx' 1 (by omega) (by omega)
    obtain ⟨y2, d2, hch, q0, q1, ml, hm2⟩ := markSparkS_ev m (by omega) 1 (by omega) (by omega)
    have hh := heldCloud_ev s' st' (by omega) (heldSparkS_ev y2 (by omega) 1 d2 (by omega) (by omega) hch)
    have hm1 := markCloud_ev s st hm1
    have hm2 := markCloud_ev s' st' hm2
    have ee := eqCloud_ev s' st' m (by omega)
    have ex := eqCloud_ev s st (xs.map cv68) hx'
    have et : (t != t) = false := by simp
    refine Ev.bind hr (ev_neg (by omega) (ev_bindc te (Ev.bind tx (Ev.bind hs (Ev.bind tx (ev_bindc te (Ev.bind hi (Ev.bind ee (ev_pos rfl ?_)))))))))
    simp only [et]
    refine st_laws_FnExactRunCloud_j0 (ev_neg (by decide) (Ev.bind tx (Ev.bind ex (ev_pos rfl (Ev.bind hm1 (ev_neg (by omega) (Ev.bind ee (ev_pos rfl ?_))))))))
    simp only [et]
    refine st_laws_FnExactRunCloud_j1 (ev_neg (by decide) (Ev.bind hm2 (Ev.bind hh (ev_neg (by omega) (ev_pos rfl (ev_bindc te (Ev.bind tx (Ev.bind hi (Ev.bind ee (ev_pos rfl ?_))))))))))
    simp only [et]
    exact st_laws_FnExactRunCloud_j2 (ev_neg (by decide) (Ev.bind hh (ev_neg (by omega) (ev_pos rfl (ev_some rfl)))))
end Go.Proofs.Ythgfobcckoedaaa.Pure
