/- Texts of the row of the law FnExactQueryWorld, laid together. -/
import Derived.Test.YtcpodjegdpbalaaZFnExactQueryWorld7
namespace Go.Proofs.Ytcpodjegdpbalaa.Pure
open Go.RowKit Go.Proofs.Ytcpodjegdpbalaa.PFnExactQueryWorld Go.Proofs.Ytcpodjegdpbalaa.OFnExactQueryWorld Go.Proofs.YtcpodjegdpbalaaW.PrintWords Go.Proofs.YtcpodjegdpbalaaW.PrintLast Go.Proofs.YtcpodjegdpbalaaW.PrintMore Go.Proofs.YtcpodjegdpbalaaO
set_option linter.unusedVariables false
set_option linter.unusedSimpArgs false
theorem st_impl_Query_takes_l0 {r : (Bool)} {x5 : Bool} {x18 : List ByteArray} {x19 : Int} {x20 : Int} {x234000 : List ByteArray} {x234001 : List ByteArray} {x234002 : Int} {x235000 : Int} {x235001 : List (S80)} (h : Ev (fun k => if x20 < x19 then (if 0 ≤ x20 then (if x20 < (x18.length : Int) then ((impl_Entity_place.f k x235000 x235001 (rdOf ByteArray.empty x18 x20)).bind fun bt236 => (if bt236.2 = true then (if x5 = true then (impl_Query_takes.l0 k true x18 x19 (wrap64 (x20 + 1)) x234000 x234001 x234002 x235000 x235001) else (if 0 ≤ bt236.1 then (if bt236.1 < (x235001.length : Int) then (impl_Query_takes.l0 k (decide (((rd_T80 x235001 bt236.1).f2) ≥ x234002)) x18 x19 (wrap64 (x20 + 1)) x234000 x234001 x234002 x235000 x235001) else (none)) else (none))) else (some false))) else (none)) else (none)) else (impl_Query_takes.l1 k x5 x234001 (x234001.length : Int) 0 x235000 x235001)) r) : Ev (fun k => impl_Query_takes.l0 k x5 x18 x19 x20 x234000 x234001 x234002 x235000 x235001) r := Ev.step (fun k => by rw [impl_Query_takes.l0]) h
theorem st_impl_Query_takes_l1 {r : (Bool)} {x5 : Bool} {x46 : List ByteArray} {x47 : Int} {x48 : Int} {x235000 : Int} {x235001 : List (S80)} (h : Ev (fun k => if x48 < x47 then (if 0 ≤ x48 then (if x48 < (x46.length : Int) then ((impl_Entity_place.f k x235000 x235001 (rdOf ByteArray.empty x46 x48)).bind fun bt240 => (if bt240.2 = true then (some false) else (impl_Query_takes.l1 k x5 x46 x47 (wrap64 (x48 + 1)) x235000 x235001))) else (none)) else (none)) else (some x5)) r) : Ev (fun k => impl_Query_takes.l1 k x5 x46 x47 x48 x235000 x235001) r := Ev.step (fun k => by rw [impl_Query_takes.l1]) h
theorem st_impl_QueryWorld_j0 {r : (List Int × Bool)} {x16 : Bool} {x243000 : Int} {x243001 : Int} {x243002 : List (S77)} {x244000 : List ByteArray} {x244001 : List ByteArray} {x244002 : Int} (h : Ev (fun k => if x16 = true then (some (([] : List Int), false)) else (impl_QueryWorld.l0 k (([] : List Int)) x243002 (x243002.length : Int) 0 x244000 x244001 x244002)) r) : Ev (fun k => impl_QueryWorld.j0 k x16 x243000 x243001 x243002 x244000 x244001 x244002) r := Ev.step (fun k => by rw [impl_QueryWorld.j0]) h
theorem st_impl_QueryWorld_l0 {r : (List Int × Bool)} {x6 : List Int} {x19 : List (S77)} {x20 : Int} {x21 : Int} {x244000 : List ByteArray} {x244001 : List ByteArray} {x244002 : Int} (h : Ev (fun k => if x21 < x20 then (if 0 ≤ x21 then (if x21 < (x19.length : Int) then ((impl_Query_takes.f k x244000 x244001 x244002 ((rd_T77 x19 x21).f0) ((rd_T77 x19 x21).f1)).bind fun t251 => (if t251 = true then (if x6.length < 17592186044416 then (impl_QueryWorld.l0 k (x6 ++ [(rd_T77 x19 x21).f0]) x19 x20 (wrap64 (x21 + 1)) x244000 x244001 x244002) else (none)) else (impl_QueryWorld.l0 k x6 x19 x20 (wrap64 (x21 + 1)) x244000 x244001 x244002))) else (none)) else (none)) else (some (x6, true))) r) : Ev (fun k => impl_QueryWorld.l0 k x6 x19 x20 x21 x244000 x244001 x244002) r := Ev.step (fun k => by rw [impl_QueryWorld.l0]) h
theorem st_laws_markText_l0 {r : (ByteArray)} {x0 : Int} {x3 : ByteArray} (h : Ev (fun k => if x0 > 0 then ((some (([(wrap64 (48 + (Int.tmod x0 10))) % 256] : List Int) : List Int)).bind fun y277 => (if (strOfNums y277).size + x3.size ≤ 9223372036854775807 then (laws_markText.l0 k (wrap64 (Int.tdiv x0 10)) ((strOfNums y277) ++ x3)) else (none))) else (if 1 + x3.size ≤ 9223372036854775807 then (some ((⟨#[109]⟩ : ByteArray) ++ x3)) else (none))) r) : Ev (fun k => laws_markText.l0 k x0 x3) r := Ev.step (fun k => by rw [laws_markText.l0]) h
theorem st_laws_markPartS_l0 {r : (Int × (List (S80)))} {x0 : List (S80)} {x1 : Int} {x5 : Int} (h : Ev (fun k => if x5 < (x0.length : Int) then ((laws_markText.f k x1).bind fun t280 => (if 0 ≤ x5 then ((some (x0.set (x5 : Int).toNat (⟨t280, (rd_T80 x0 x5).f1, (rd_T80 x0 x5).f2⟩ : S80) : List (S80))).bind fun y281 => ((some (y281.set (x5 : Int).toNat (⟨(rd_T80 y281 x5).f0, wrap64 (x1 + 1), (rd_T80 y281 x5).f2⟩ : S80) : List (S80))).bind fun y282 => (laws_markPartS.l0 k (y282.set (x5 : Int).toNat (⟨(rd_T80 y282 x5).f0, (rd_T80 y282 x5).f1, wrap64 ((wrap64 (x1 + 1)) + 1)⟩ : S80)) (wrap64 ((wrap64 ((wrap64 (x1 + 1)) + 1)) + 1)) (wrap64 (x5 + 1))))) else (none))) else (some (x1, x0))) r) : Ev (fun k => laws_markPartS.l0 k x0 x1 x5) r := Ev.step (fun k => by rw [laws_markPartS.l0]) h
theorem st_laws_markEntityS_l0 {r : (Int × (List (S77)))} {x0 : List (S77)} {x1 : Int} {x5 : Int} (h : Ev (fun k => if x5 < (x0.length : Int) then (if 0 ≤ x5 then ((some (x0.set (x5 : Int).toNat (⟨x1, (rd_T77 x0 x5).f1⟩ : S77) : List (S77))).bind fun y284 => ((laws_markPartS.f k ((rd_T77 y284 x5).f1) (wrap64 (x1 + 1))).bind fun bt286 => (laws_markEntityS.l0 k (y284.set (x5 : Int).toNat (⟨(rd_T77 y284 x5).f0, bt286.2⟩ : S77)) bt286.1 (wrap64 (x5 + 1))))) else (none)) else (some (x1, x0))) r) : Ev (fun k => laws_markEntityS.l0 k x0 x1 x5) r := Ev.step (fun k => by rw [laws_markEntityS.l0]) h
theorem st_laws_markStringS_l0 {r : (Int × List ByteArray)} {x0 : List ByteArray} {x1 : Int} {x5 : Int} (h : Ev (fun k => if x5 < (x0.length : Int) then ((laws_markText.f k x1).bind fun t292 => (if 0 ≤ x5 then (laws_markStringS.l0 k (x0.set (x5 : Int).toNat t292) (wrap64 (x1 + 1)) (wrap64 (x5 + 1))) else (none))) else (some (x1, x0))) r) : Ev (fun k => laws_markStringS.l0 k x0 x1 x5) r := Ev.step (fun k => by rw [laws_markStringS.l0]) h
theorem st_laws_FnExactQueryWorld_j0 {r : (Bool)} {x6 : List Int} {x7 : Bool} {x10 : List Int} {x11 : Bool} {x53 : Bool} {x302000 : Int} {x302001 : Int} {x302002 : List (S91)} {x303000 : List ByteArray} {x303001 : List ByteArray} {x303002 : Int} {x327000 : Int} {x327001 : Int} {x327002 : List (S77)} {x335000 : List ByteArray} {x335001 : List ByteArray} {x335002 : Int} (h : Ev (fun k => if x53 = true then (some false) else ((laws_toWorld.f k x302000 x302001 x302002).bind fun bt340 => ((laws_eqWorld.f k x327000 x327001 x327002 bt340.1 bt340.2.1 bt340.2.2).bind fun t345 => (if t345 = true then ((laws_toQuery.f k x303000 x303001 x303002).bind fun bt346 => ((laws_eqQuery.f k x335000 x335001 x335002 bt346.1 bt346.2.1 bt346.2.2).bind fun t353 => (if t353 = true then ((laws_markWorld.f k x327000 x327001 x327002 1).bind fun bt354 => ((laws_markQuery.f k x335000 x335001 x335002 bt354.1).bind fun bt356 => (if bt356.1 < 0 then (laws_FnExactQueryWorld.j1 k x6 x7 x10 true x302000 x302001 x302002 x303000 x303001 x303002) else ((laws_eqIntS.f k x10 x6).bind fun t359 => (if t359 = true then (laws_FnExactQueryWorld.j1 k x6 x7 x10 (x11 != x7) x302000 x302001 x302002 x303000 x303001 x303002) else (laws_FnExactQueryWorld.j1 k x6 x7 x10 true x302000 x302001 x302002 x303000 x303001 x303002)))))) else (some false)))) else (some false))))) r) : Ev (fun k => laws_FnExactQueryWorld.j0 k x6 x7 x10 x11 x53 x302000 x302001 x302002 x303000 x303001 x303002 x327000 x327001 x327002 x335000 x335001 x335002) r := Ev.step (fun k => by rw [laws_FnExactQueryWorld.j0]) h
theorem st_laws_FnExactQueryWorld_j1 {r : (Bool)} {x6 : List Int} {x7 : Bool} {x10 : List Int} {x82 : Bool} {x302000 : Int} {x302001 : Int} {x302002 : List (S91)} {x303000 : List ByteArray} {x303001 : List ByteArray} {x303002 : Int} (h : Ev (fun k => if x82 = true then (some false) else ((laws_markIntS.f k x10 1).bind fun bt360 => ((laws_heldIntS.f k bt360.2 1).bind fun t362 => (if t362 < 0 then (some false) else (if t362 = bt360.1 then ((laws_toWorld.f k x302000 x302001 x302002).bind fun bt363 => ((laws_toQuery.f k x303000 x303001 x303002).bind fun bt368 => ((impl_QueryWorld.f k bt363.1 bt363.2.1 bt363.2.2 bt368.1 bt368.2.1 bt368.2.2).bind fun bt375 => ((laws_eqIntS.f k bt375.1 x6).bind fun t379 => (if t379 = true then (laws_FnExactQueryWorld.j2 k bt360.2 bt360.1 (bt375.2 != x7)) else (laws_FnExactQueryWorld.j2 k bt360.2 bt360.1 true)))))) else (some false)))))) r) : Ev (fun k => laws_FnExactQueryWorld.j1 k x6 x7 x10 x82 x302000 x302001 x302002 x303000 x303001 x303002) r := Ev.step (fun k => by rw [laws_FnExactQueryWorld.j1]) h
theorem st_laws_FnExactQueryWorld_j2 {r : (Bool)} {x10 : List Int} {x13 : Int} {x110 : Bool} (h : Ev (fun k => if x110 = true then (some false) else ((laws_heldIntS.f k x10 1).bind fun t380 => (if t380 < 0 then (some false) else (if t380 = x13 then (some true) else (some false))))) r) : Ev (fun k => laws_FnExactQueryWorld.j2 k x10 x13 x110) r := Ev.step (fun k => by rw [laws_FnExactQueryWorld.j2]) h
theorem st_spec_GoodName_j0 {r : (Bool)} {x0 : ByteArray} {x16 : Bool} (h : Ev (fun k => if x16 = true then (some false) else (spec_GoodName.l0 k x0 0)) r) : Ev (fun k => spec_GoodName.j0 k x0 x16) r := Ev.step (fun k => by rw [spec_GoodName.j0]) h
theorem st_spec_GoodName_l0 {r : (Bool)} {x0 : ByteArray} {x3 : Int} (h : Ev (fun k => if x3 < (x0.size : Int) then (if 0 ≤ x3 then ((spec_l1Letter.f (bt x0 x3)).bind fun t115 => (if t115 = true then (spec_GoodName.l0 k x0 (wrap64 (x3 + 1))) else ((spec_l1Digit.f (bt x0 x3)).bind fun t116 => (if t116 = true then (spec_GoodName.l0 k x0 (wrap64 (x3 + 1))) else (some false))))) else (none)) else (some true)) r) : Ev (fun k => spec_GoodName.l0 k x0 x3) r := Ev.step (fun k => by rw [spec_GoodName.l0]) h
theorem st_spec_GoodWorld_j0 {r : (Bool)} {x22 : Bool} {x118000 : Int} {x118001 : Int} {x118002 : List (S77)} (h : Ev (fun k => if x22 = true then (some false) else (spec_GoodWorld.l0 k x118002 (x118002.length : Int) 0 x118000 x118001 x118002)) r) : Ev (fun k => spec_GoodWorld.j0 k x22 x118000 x118001 x118002) r := Ev.step (fun k => by rw [spec_GoodWorld.j0]) h
theorem st_spec_GoodWorld_l0 {r : (Bool)} {x24 : List (S77)} {x25 : Int} {x26 : Int} {x118000 : Int} {x118001 : Int} {x118002 : List (S77)} (h : Ev (fun k => if x26 < x25 then (if 0 ≤ x26 then (if x26 < (x24.length : Int) then ((spec_l1In.f ((rd_T77 x24 x26).f0) 1 (wrap64 (x118000 - 1))).bind fun t122 => (if t122 = true then (if x26 > 0 then (if 0 ≤ (wrap64 (x26 - 1)) then (if (wrap64 (x26 - 1)) < (x118002.length : Int) then (if ((rd_T77 x118002 (wrap64 (x26 - 1))).f0) ≥ ((rd_T77 x24 x26).f0) then (spec_GoodWorld.j2 k x24 x25 x26 true x118000 x118001 x118002 ((rd_T77 x24 x26).f0) ((rd_T77 x24 x26).f1)) else (spec_GoodWorld.j2 k x24 x25 x26 (decide ((((rd_T77 x24 x26).f1).length : Int) > 12)) x118000 x118001 x118002 ((rd_T77 x24 x26).f0) ((rd_T77 x24 x26).f1))) else (none)) else (none)) else (spec_GoodWorld.j2 k x24 x25 x26 (decide ((((rd_T77 x24 x26).f1).length : Int) > 12)) x118000 x118001 x118002 ((rd_T77 x24 x26).f0) ((rd_T77 x24 x26).f1))) else (spec_GoodWorld.j2 k x24 x25 x26 true x118000 x118001 x118002 ((rd_T77 x24 x26).f0) ((rd_T77 x24 x26).f1)))) else (none)) else (none)) else (some true)) r) : Ev (fun k => spec_GoodWorld.l0 k x24 x25 x26 x118000 x118001 x118002) r := Ev.step (fun k => by rw [spec_GoodWorld.l0]) h
theorem st_spec_GoodWorld_j2 {r : (Bool)} {x24 : List (S77)} {x25 : Int} {x26 : Int} {x59 : Bool} {x118000 : Int} {x118001 : Int} {x118002 : List (S77)} {x122000 : Int} {x122001 : List (S80)} (h : Ev (fun k => if x59 = true then (some false) else (spec_GoodWorld.l1 k x24 x25 x26 x122001 (x122001.length : Int) 0 x118000 x118001 x118002 x122000 x122001)) r) : Ev (fun k => spec_GoodWorld.j2 k x24 x25 x26 x59 x118000 x118001 x118002 x122000 x122001) r := Ev.step (fun k => by rw [spec_GoodWorld.j2]) h
theorem st_spec_GoodWorld_l1 {r : (Bool)} {x24 : List (S77)} {x25 : Int} {x26 : Int} {x61 : List (S80)} {x62 : Int} {x63 : Int} {x118000 : Int} {x118001 : Int} {x118002 : List (S77)} {x122000 : Int} {x122001 : List (S80)} (h : Ev (fun k => if x63 < x62 then (if 0 ≤ x63 then (if x63 < (x61.length : Int) then ((spec_GoodName.f k ((rd_T80 x61 x63).f0)).bind fun t126 => (if t126 = true then ((spec_l1In.f ((rd_T80 x61 x63).f2) 0 x118001).bind fun t127 => (if t127 = true then (if x63 > 0 then (if 0 ≤ (wrap64 (x63 - 1)) then (if (wrap64 (x63 - 1)) < (x122001.length : Int) then (if ((Op.bytesLess (((rd_T80 x122001 (wrap64 (x63 - 1))).f0).toList) (((rd_T80 x61 x63).f0).toList)) = true) then (spec_GoodWorld.l1 k x24 x25 x26 x61 x62 (wrap64 (x63 + 1)) x118000 x118001 x118002 x122000 x122001) else (some false)) else (none)) else (none)) else (spec_GoodWorld.l1 k x24 x25 x26 x61 x62 (wrap64 (x63 + 1)) x118000 x118001 x118002 x122000 x122001)) else (some false))) else (some false))) else (none)) else (none)) else (spec_GoodWorld.l0 k x24 x25 (wrap64 (x26 + 1)) x118000 x118001 x118002)) r) : Ev (fun k => spec_GoodWorld.l1 k x24 x25 x26 x61 x62 x63 x118000 x118001 x118002 x122000 x122001) r := Ev.step (fun k => by rw [spec_GoodWorld.l1]) h
theorem st_spec_l3Names_l0 {r : (Bool)} {x0 : List ByteArray} {x11 : List ByteArray} {x12 : Int} {x13 : Int} (h : Ev (fun k => if x13 < x12 then (if 0 ≤ x13 then (if x13 < (x11.length : Int) then ((spec_GoodName.f k (rdOf ByteArray.empty x11 x13)).bind fun t130 => (if t130 = true then (if x13 > 0 then (if 0 ≤ (wrap64 (x13 - 1)) then (if (wrap64 (x13 - 1)) < (x0.length : Int) then (if ((Op.bytesLess ((rdOf ByteArray.empty x0 (wrap64 (x13 - 1))).toList) ((rdOf ByteArray.empty x11 x13).toList)) = true) then (spec_l3Names.l0 k x0 x11 x12 (wrap64 (x13 + 1))) else (some false)) else (none)) else (none)) else (spec_l3Names.l0 k x0 x11 x12 (wrap64 (x13 + 1)))) else (some false))) else (none)) else (none)) else (some true)) r) : Ev (fun k => spec_l3Names.l0 k x0 x11 x12 x13) r := Ev.step (fun k => by rw [spec_l3Names.l0]) h
theorem st_spec_l3Part_l0 {r : (Int)} {x1 : ByteArray} {x8 : List (S80)} {x9 : Int} {x10 : Int} (h : Ev (fun k => if x10 < x9 then (if 0 ≤ x10 then (if x10 < (x8.length : Int) then (if ((rd_T80 x8 x10).f0).toList = x1.toList then (some x10) else (spec_l3Part.l0 k x1 x8 x9 (wrap64 (x10 + 1)))) else (none)) else (none)) else (some (-1))) r) : Ev (fun k => spec_l3Part.l0 k x1 x8 x9 x10) r := Ev.step (fun k => by rw [spec_l3Part.l0]) h
theorem st_spec_QueryWorld_j0 {r : (List Int × Bool)} {x36 : Bool} {x136000 : Int} {x136001 : Int} {x136002 : List (S77)} {x137000 : List ByteArray} {x137001 : List ByteArray} {x137002 : Int} (h : Ev (fun k => if x36 = true then (some (([] : List Int), false)) else (spec_QueryWorld.l0 k ([] : List Int) x136002 (x136002.length : Int) 0 x137000 x137001 x137002)) r) : Ev (fun k => spec_QueryWorld.j0 k x36 x136000 x136001 x136002 x137000 x137001 x137002) r := Ev.step (fun k => by rw [spec_QueryWorld.j0]) h
theorem st_spec_QueryWorld_l0 {r : (List Int × Bool)} {x6 : List Int} {x38 : List (S77)} {x39 : Int} {x40 : Int} {x137000 : List ByteArray} {x137001 : List ByteArray} {x137002 : Int} (h : Ev (fun k => if x40 < x39 then (if 0 ≤ x40 then (if x40 < (x38.length : Int) then (spec_QueryWorld.l1 k x6 true (x137002 == 0) x38 x39 x40 x137000 (x137000.length : Int) 0 x137000 x137001 x137002 ((rd_T77 x38 x40).f0) ((rd_T77 x38 x40).f1)) else (none)) else (none)) else (some (x6, true))) r) : Ev (fun k => spec_QueryWorld.l0 k x6 x38 x39 x40 x137000 x137001 x137002) r := Ev.step (fun k => by rw [spec_QueryWorld.l0]) h
theorem st_spec_QueryWorld_l1 {r : (List Int × Bool)} {x6 : List Int} {x9 : Bool} {x10 : Bool} {x38 : List (S77)} {x39 : Int} {x40 : Int} {x48 : List ByteArray} {x49 : Int} {x50 : Int} {x137000 : List ByteArray} {x137001 : List ByteArray} {x137002 : Int} {x143000 : Int} {x143001 : List (S80)} (h : Ev (fun k => if x50 < x49 then (if 0 ≤ x50 then (if x50 < (x48.length : Int) then ((spec_l3Part.f k x143000 x143001 (rdOf ByteArray.empty x48 x50)).bind fun t144 => (if x9 = true then (if x10 = true then (spec_QueryWorld.l1 k x6 (decide (t144 ≥ 0)) true x38 x39 x40 x48 x49 (wrap64 (x50 + 1)) x137000 x137001 x137002 x143000 x143001) else (if t144 ≥ 0 then (if 0 ≤ t144 then (if t144 < (x143001.length : Int) then (spec_QueryWorld.l1 k x6 (decide (t144 ≥ 0)) (decide (((rd_T80 x143001 t144).f2) ≥ x137002)) x38 x39 x40 x48 x49 (wrap64 (x50 + 1)) x137000 x137001 x137002 x143000 x143001) else (none)) else (none)) else (spec_QueryWorld.l1 k x6 (decide (t144 ≥ 0)) false x38 x39 x40 x48 x49 (wrap64 (x50 + 1)) x137000 x137001 x137002 x143000 x143001))) else (if x10 = true then (spec_QueryWorld.l1 k x6 false true x38 x39 x40 x48 x49 (wrap64 (x50 + 1)) x137000 x137001 x137002 x143000 x143001) else (if t144 ≥ 0 then (if 0 ≤ t144 then (if t144 < (x143001.length : Int) then (spec_QueryWorld.l1 k x6 false (decide (((rd_T80 x143001 t144).f2) ≥ x137002)) x38 x39 x40 x48 x49 (wrap64 (x50 + 1)) x137000 x137001 x137002 x143000 x143001) else (none)) else (none)) else (spec_QueryWorld.l1 k x6 false false x38 x39 x40 x48 x49 (wrap64 (x50 + 1)) x137000 x137001 x137002 x143000 x143001))))) else (none)) else (none)) else (spec_QueryWorld.l2 k x6 x9 x10 x38 x39 x40 x137001 (x137001.length : Int) 0 x137000 x137001 x137002 x143000 x143001)) r) : Ev (fun k => spec_QueryWorld.l1 k x6 x9 x10 x38 x39 x40 x48 x49 x50 x137000 x137001 x137002 x143000 x143001) r := Ev.step (fun k => by rw [spec_QueryWorld.l1]) h
theorem st_spec_QueryWorld_l2 {r : (List Int × Bool)} {x6 : List Int} {x9 : Bool} {x10 : Bool} {x38 : List (S77)} {x39 : Int} {x40 : Int} {x80 : List ByteArray} {x81 : Int} {x82 : Int} {x137000 : List ByteArray} {x137001 : List ByteArray} {x137002 : Int} {x143000 : Int} {x143001 : List (S80)} (h : Ev (fun k => if x82 < x81 then (if 0 ≤ x82 then (if x82 < (x80.length : Int) then (if x9 = true then ((spec_l3Part.f k x143000 x143001 (rdOf ByteArray.empty x80 x82)).bind fun t148 => (spec_QueryWorld.l2 k x6 (decide (t148 < 0)) x10 x38 x39 x40 x80 x81 (wrap64 (x82 + 1)) x137000 x137001 x137002 x143000 x143001)) else (spec_QueryWorld.l2 k x6 false x10 x38 x39 x40 x80 x81 (wrap64 (x82 + 1)) x137000 x137001 x137002 x143000 x143001)) else (none)) else (none)) else (if x9 = true then (if x10 = true then (if x6.length < 17592186044416 then (spec_QueryWorld.l0 k (x6 ++ [x143000]) x38 x39 (wrap64 (x40 + 1)) x137000 x137001 x137002) else (none)) else (spec_QueryWorld.l0 k x6 x38 x39 (wrap64 (x40 + 1)) x137000 x137001 x137002)) else (spec_QueryWorld.l0 k x6 x38 x39 (wrap64 (x40 + 1)) x137000 x137001 x137002))) r) : Ev (fun k => spec_QueryWorld.l2 k x6 x9 x10 x38 x39 x40 x80 x81 x82 x137000 x137001 x137002 x143000 x143001) r := Ev.step (fun k => by rw [spec_QueryWorld.l2]) h
theorem st_impl_GoodName_l0 {r : (Bool)} {x0 : ByteArray} {x5 : Int} {x6 : Int} (h : Ev (fun k => if x6 < x5 then (if 0 ≤ x6 then (if x6 < (x0.size : Int) then ((impl_isLetter.f (bt x0 x6)).bind fun t199 => (if t199 = true then (impl_GoodName.l0 k x0 x5 (wrap64 (x6 + 1))) else (if (bt x0 x6) = 95 then (impl_GoodName.l0 k x0 x5 (wrap64 (x6 + 1))) else (if x6 = 0 then (some false) else ((impl_isDigit.f (bt x0 x6)).bind fun t200 => (if t200 = true then (impl_GoodName.l0 k x0 x5 (wrap64 (x6 + 1))) else (some false))))))) else (none)) else (none)) else ((impl_inRange.f (x0.size : Int) 1 20).bind fun t198 => (some t198))) r) : Ev (fun k => impl_GoodName.l0 k x0 x5 x6) r := Ev.step (fun k => by rw [impl_GoodName.l0]) h
theorem st_impl_areParts_l0 {r : (Bool)} {x0 : List (S80)} {x1 : Int} {x7 : List (S80)} {x8 : Int} {x9 : Int} (h : Ev (fun k => if x9 < x8 then (if 0 ≤ x9 then (if x9 < (x7.length : Int) then ((impl_GoodName.f k ((rd_T80 x7 x9).f0)).bind fun t203 => (if t203 = true then (if x9 > 0 then (if 0 ≤ (wrap64 (x9 - 1)) then (if (wrap64 (x9 - 1)) < (x0.length : Int) then (if ((Op.bytesLess (((rd_T80 x0 (wrap64 (x9 - 1))).f0).toList) (((rd_T80 x7 x9).f0).toList)) = true) then ((impl_inRange.f ((rd_T80 x7 x9).f2) 0 x1).bind fun t205 => (if t205 = true then (impl_areParts.l0 k x0 x1 x7 x8 (wrap64 (x9 + 1))) else (some false))) else (some false)) else (none)) else (none)) else ((impl_inRange.f ((rd_T80 x7 x9).f2) 0 x1).bind fun t206 => (if t206 = true then (impl_areParts.l0 k x0 x1 x7 x8 (wrap64 (x9 + 1))) else (some false)))) else (some false))) else (none)) else (none)) else (some (decide ((x0.length : Int) ≤ 12)))) r) : Ev (fun k => impl_areParts.l0 k x0 x1 x7 x8 x9) r := Ev.step (fun k => by rw [impl_areParts.l0]) h
theorem st_impl_GoodWorld_l0 {r : (Bool)} {x6 : List (S77)} {x7 : Int} {x8 : Int} {x208000 : Int} {x208001 : Int} {x208002 : List (S77)} (h : Ev (fun k => if x8 < x7 then (if 0 ≤ x8 then (if x8 < (x6.length : Int) then ((impl_inRange.f ((rd_T77 x6 x8).f0) 1 (wrap64 (x208000 - 1))).bind fun t212 => (if t212 = true then (if x8 > 0 then (if 0 ≤ (wrap64 (x8 - 1)) then (if (wrap64 (x8 - 1)) < (x208002.length : Int) then (if ((rd_T77 x208002 (wrap64 (x8 - 1))).f0) ≥ ((rd_T77 x6 x8).f0) then (some false) else ((impl_areParts.f k ((rd_T77 x6 x8).f1) x208001).bind fun t214 => (if t214 = true then (impl_GoodWorld.l0 k x6 x7 (wrap64 (x8 + 1)) x208000 x208001 x208002) else (some false)))) else (none)) else (none)) else ((impl_areParts.f k ((rd_T77 x6 x8).f1) x208001).bind fun t215 => (if t215 = true then (impl_GoodWorld.l0 k x6 x7 (wrap64 (x8 + 1)) x208000 x208001 x208002) else (some false)))) else (some false))) else (none)) else (none)) else ((impl_inRange.f x208000 1 1000000).bind fun t208 => (if t208 = true then ((impl_inRange.f x208001 0 1000000).bind fun t209 => (if t209 = true then (some (decide ((x208002.length : Int) ≤ 60))) else (some false))) else (some false)))) r) : Ev (fun k => impl_GoodWorld.l0 k x6 x7 x8 x208000 x208001 x208002) r := Ev.step (fun k => by rw [impl_GoodWorld.l0]) h
theorem st_impl_areNames_l0 {r : (Bool)} {x0 : List ByteArray} {x5 : List ByteArray} {x6 : Int} {x7 : Int} (h : Ev (fun k => if x7 < x6 then (if 0 ≤ x7 then (if x7 < (x5.length : Int) then ((impl_GoodName.f k (rdOf ByteArray.empty x5 x7)).bind fun t217 => (if t217 = true then (if x7 > 0 then (if 0 ≤ (wrap64 (x7 - 1)) then (if (wrap64 (x7 - 1)) < (x0.length : Int) then (if ((Op.bytesLess ((rdOf ByteArray.empty x0 (wrap64 (x7 - 1))).toList) ((rdOf ByteArray.empty x5 x7).toList)) = true) then (impl_areNames.l0 k x0 x5 x6 (wrap64 (x7 + 1))) else (some false)) else (none)) else (none)) else (impl_areNames.l0 k x0 x5 x6 (wrap64 (x7 + 1)))) else (some false))) else (none)) else (none)) else (some true)) r) : Ev (fun k => impl_areNames.l0 k x0 x5 x6 x7) r := Ev.step (fun k => by rw [impl_areNames.l0]) h
theorem inr_some (a b c : Int) : impl_inRange.f a b c = some (decide (b ≤ a ∧ a ≤ c)) := by
  unfold impl_inRange.f
  split <;> simp_all <;> omega
theorem in_some (a b c : Int) : spec_l1In.f a b c = some (decide (b ≤ a ∧ a ≤ c)) := by
  unfold spec_l1In.f
  split <;> simp_all <;> omega
def nameChar (c : Int) : Bool := decide (97 ≤ c ∧ c ≤ 122) || decide (65 ≤ c ∧ c ≤ 90) || decide (c = 95)
def digitChar (c : Int) : Bool := decide (48 ≤ c ∧ c ≤ 57)
def CharOk (s : ByteArray) (i : Nat) : Prop := nameChar (bt s (i : Int)) = true ∨ 0 < i ∧ digitChar (bt s (i : Int)) = true
def NameOk (s : ByteArray) : Prop := (1 ≤ s.size ∧ s.size ≤ 20) ∧ ∀ i, i < s.size → CharOk s i
theorem letter_spec (c : Int) : spec_l1Letter.f c = some (nameChar c) := by
  unfold spec_l1Letter.f nameChar
  repeat' split
  all_goals (congr 1; rw [Bool.eq_iff_iff]; simp; try omega)
theorem digit_spec (c : Int) : spec_l1Digit.f c = some (digitChar c) := by
  unfold spec_l1Digit.f digitChar
  repeat' split
  all_goals (congr 1; rw [Bool.eq_iff_iff]; simp; try omega)
theorem digit_impl (c : Int) : impl_isDigit.f c = some (digitChar c) := by
  unfold impl_isDigit.f digitChar
  repeat' split
  all_goals (congr 1; rw [Bool.eq_iff_iff]; simp; try omega)
theorem letter_impl (c : Int) : ∃ b, impl_isLetter.f c = some b ∧ (nameChar c = true ↔ b = true ∨ c = 95) := by
  unfold impl_isLetter.f nameChar
  repeat' split
  all_goals (refine ⟨_, rfl, ?_⟩; simp; try omega)
theorem name_impl (s : ByteArray) (hs : s.size ≤ 140737488351232) (b : Bool) (hb : b = true ↔ NameOk s) : Ev (fun k => impl_GoodName.f k s) b := by
  refine ev_all s.size (fun k i => impl_GoodName.l0 k s (s.size : Int) (i : Int)) (CharOk s) (decide (1 ≤ (s.size : Int) ∧ (s.size : Int) ≤ 20)) b ?_ ?_ ?_ ?_
  · rw [hb]; unfold NameOk; simp; omega
  · exact st_impl_GoodName_l0 (ev_neg (by omega) (ev_bindc (inr_some _ _ _) (ev_some rfl)))
  · intro i hi _ ho r hr
    refine st_impl_GoodName_l0 (ev_pos (by omega) (ev_pos (by omega) (ev_pos (by omega) ?_)))
    obtain ⟨q, hq, hn⟩ := letter_impl (bt s (i : Int))
    rw [w64s i (by omega)]
    refine ev_bindc hq (ev_ite (fun _ => hr) fun h1 => ev_ite (fun _ => hr) fun h2 => ?_)
    rcases ho with ho | ⟨ho, hd⟩
    · rcases hn.1 ho with h | h
      · exact absurd h h1
      · exact absurd h h2
    · exact ev_neg (by omega) (ev_bindc (digit_impl _) (ev_pos hd hr))
  · intro i hi _ ho
    refine st_impl_GoodName_l0 (ev_pos (by omega) (ev_pos (by omega) (ev_pos (by omega) ?_)))
    obtain ⟨q, hq, hn⟩ := letter_impl (bt s (i : Int))
    refine ev_bindc hq (ev_ite (fun h => absurd (.inl (hn.2 (.inl h))) ho) fun h1 => ev_ite (fun h => absurd (.inl (hn.2 (.inr h))) ho) fun h2 => ev_ite (fun _ => ev_some rfl) fun h3 => ?_)
    exact ev_bindc (digit_impl _) (ev_neg (fun h => ho (.inr ⟨by omega, h⟩)) (ev_some rfl))
theorem name_spec (s : ByteArray) (b : Bool) (hb : b = true ↔ NameOk s) : Ev (fun k => spec_GoodName.f k s) b := by
  have j0t : Ev (fun k => spec_GoodName.j0 k s true) false := st_spec_GoodName_j0 (ev_pos rfl (ev_some rfl))
  by_cases h1 : (s.size : Int) < 1
  · rw [bool_false hb (fun h => by have := h.1; omega)]
    exact ev_pos h1 j0t
  · by_cases h2 : (s.size : Int) > 20
    · rw [bool_false hb (fun h => by have := h.1; omega)]
      exact ev_neg h1 (ev_pos h2 j0t)
    · refine ev_neg h1 (ev_neg h2 (ev_pos (by omega) (ev_bindc (digit_spec _) ?_)))
      cases hd : digitChar (bt s 0) with
      | true =>
        rw [bool_false hb (fun h => by
          have h0 : CharOk s 0 := h.2 0 (by omega)
          rcases h0 with h0 | h0
          · have h0 : nameChar (bt s 0) = true := h0
            generalize bt s 0 = c at hd h0
            simp [nameChar, digitChar] at hd h0; omega
          · omega)]
        exact j0t
      | false =>
        refine st_spec_GoodName_j0 (ev_neg (by decide) ?_)
        refine ev_all s.size (fun k i => spec_GoodName.l0 k s (i : Int)) (CharOk s) true b ?_ ?_ ?_ ?_
        · rw [hb]; unfold NameOk; constructor
          · exact fun h => ⟨rfl, h.2⟩
          · exact fun h => ⟨by omega, h.2⟩
        · exact st_spec_GoodName_l0 (ev_neg (by omega) (ev_some rfl))
        · intro i hi _ ho r hr
          refine st_spec_GoodName_l0 (ev_pos (by omega) (ev_pos (by omega) (ev_bindc (letter_spec _) (ev_ite (fun _ => by rw [w64s i (by omega)]; exact hr) fun hl => ev_bindc (digit_spec _) ?_))))
          rcases ho with ho | ⟨_, ho⟩
          · exact absurd ho hl
          · refine ev_pos ho ?_
            rw [w64s i (by omega)]; exact hr
        · intro i hi _ ho
          refine st_spec_GoodName_l0 (ev_pos (by omega) (ev_pos (by omega) (ev_bindc (letter_spec _) (ev_neg (fun h => ho (.inl h)) (ev_bindc (digit_spec _) (ev_neg (fun h => ho ?_) (ev_some rfl)))))))
          rcases Nat.eq_zero_or_pos i with rfl | hp
          · have h' : digitChar (bt s 0) = true := h
            rw [hd] at h'; cases h'
          · exact .inr ⟨hp, h⟩
def Fit109 (x : S109) : Prop := (x.f0.size ≤ 1048576)
theorem szPart_some (a0 : ByteArray) (a1 : Int) (a2 : Int) (ga0 : a0.size ≤ 140737488351232) (ga1 : In64 a1) (ga2 : In64 a2) (left : Int) (h0 : 0 ≤ left) (h1 : left ≤ 1048576) : ∃ r, Ev (fun _ => laws_szPart.f a0 a1 a2 left) r ∧ (r < 0 ∨ 0 ≤ r ∧ r ≤ left ∧ (a0.size ≤ 1048576)) := by
  unfold laws_szPart.f
  have e0 : wrap64 (left - (a0.size : Int)) = left - (a0.size : Int) := w64 (by omega) (by omega)
  rw [e0]
  refine exev_ite (fun _ => exev_some (.inl (by omega))) fun c0 => ?_
  exact exev_some (.inr ⟨by omega, by omega, (by omega)⟩)
theorem szPartS_some (xs : List S109) (g : xs.length * 32 ≤ 140737488351232 ∧ ∀ y ∈ xs, Ok109 y) (left : Int) (h0 : 0 ≤ left) (h1 : left ≤ 1048576) : ∃ r, Ev (fun k => laws_szPartS.f k xs left) r ∧ (r < 0 ∨ 0 ≤ r ∧ r ≤ left ∧ (xs.length ≤ 1048576 ∧ ∀ y ∈ xs, Fit109 y)) := by
  have g1 := g.1
  unfold laws_szPartS.f
  rw [w64 (n := left - (xs.length : Int)) (by omega) (by omega)]
  refine exev_ite (fun _ => exev_some (.inl (by omega))) fun hc => ?_
  have he : ∀ i : Nat, ∀ hi : i < xs.length, ∀ c : Int, 0 ≤ c → c ≤ left - (xs.length : Int) → ∃ r, Ev (fun k => laws_szPart.f ((rd_T109 xs (i : Int)).f0) ((rd_T109 xs (i : Int)).f1) ((rd_T109 xs (i : Int)).f2) c) r ∧ (r < 0 ∨ 0 ≤ r ∧ r ≤ c ∧ Fit109 xs[i]) := by
    intro i hi c h0 h1
    have e : rd_T109 xs (i : Int) = xs[i] := getD_get hi
    rw [e]
    have gx := g.2 _ (List.getElem_mem hi)
    obtain ⟨r, hr, hq⟩ := szPart_some _ _ _ (gx.1) (gx.2.1) (gx.2.2) c h0 (by omega)
    exact ⟨r, hr, hq⟩
  obtain ⟨r, hr, hq⟩ := ev_size laws_szPartS.l0 (fun _ xs c i => laws_szPart.f ((rd_T109 xs i).f0) ((rd_T109 xs i).f1) ((rd_T109 xs i).f2) c) (fun y => Fit109 y) (fun _ _ _ _ => rfl) xs (by omega) (left - (xs.length : Int)) (by omega) he
  refine ⟨r, hr, ?_⟩
  rcases hq with hq | ⟨q0, q1, q2⟩
  · exact .inl hq
  · exact .inr ⟨q0, by omega, by omega, q2⟩
def Fit91 (x : S91) : Prop := ((x.f1.length ≤ 1048576 ∧ ∀ y ∈ x.f1, Fit109 y))
theorem szEntity_some (a0 : Int) (l1 : List S109) (ga0 : In64 a0) (gl1 : l1.length * 32 ≤ 140737488351232 ∧ ∀ y ∈ l1, Ok109 y) (left : Int) (h0 : 0 ≤ left) (h1 : left ≤ 1048576) : ∃ r, Ev (fun k => laws_szEntity.f k a0 l1 left) r ∧ (r < 0 ∨ 0 ≤ r ∧ r ≤ left ∧ ((l1.length ≤ 1048576 ∧ ∀ y ∈ l1, Fit109 y))) := by
  unfold laws_szEntity.f
  obtain ⟨r0, hr0, hq0⟩ := szPartS_some l1 gl1 (left) (by omega) (by omega)
  refine exev_bind hr0 (exev_ite (fun _ => exev_some (.inl (by omega))) fun c0 => ?_)
  rcases hq0 with hq0 | ⟨u0, v0, w0⟩
  · omega
  exact exev_some (.inr ⟨by omega, by omega, w0⟩)
theorem szEntityS_some (xs : List S91) (g : xs.length * 32 ≤ 140737488351232 ∧ ∀ y ∈ xs, Ok91 y) (left : Int) (h0 : 0 ≤ left) (h1 : left ≤ 1048576) : ∃ r, Ev (fun k => laws_szEntityS.f k xs left) r ∧ (r < 0 ∨ 0 ≤ r ∧ r ≤ left ∧ (xs.length ≤ 1048576 ∧ ∀ y ∈ xs, Fit91 y)) := by
  have g1 := g.1
  unfold laws_szEntityS.f
  rw [w64 (n := left - (xs.length : Int)) (by omega) (by omega)]
  refine exev_ite (fun _ => exev_some (.inl (by omega))) fun hc => ?_
  have he : ∀ i : Nat, ∀ hi : i < xs.length, ∀ c : Int, 0 ≤ c → c ≤ left - (xs.length : Int) → ∃ r, Ev (fun k => laws_szEntity.f k ((rd_T91 xs (i : Int)).f0) ((rd_T91 xs (i : Int)).f1) c) r ∧ (r < 0 ∨ 0 ≤ r ∧ r ≤ c ∧ Fit91 xs[i]) := by
    intro i hi c h0 h1
    have e : rd_T91 xs (i : Int) = xs[i] := getD_get hi
    rw [e]
    have gx := g.2 _ (List.getElem_mem hi)
    obtain ⟨r, hr, hq⟩ := szEntity_some _ _ (gx.1) (gx.2) c h0 (by omega)
    exact ⟨r, hr, hq⟩
  obtain ⟨r, hr, hq⟩ := ev_size laws_szEntityS.l0 (fun k xs c i => laws_szEntity.f k ((rd_T91 xs i).f0) ((rd_T91 xs i).f1) c) (fun y => Fit91 y) (fun _ _ _ _ => rfl) xs (by omega) (left - (xs.length : Int)) (by omega) he
  refine ⟨r, hr, ?_⟩
  rcases hq with hq | ⟨q0, q1, q2⟩
  · exact .inl hq
  · exact .inr ⟨q0, by omega, by omega, q2⟩
theorem szWorld_some (a0 : Int) (a1 : Int) (l2 : List S91) (ga0 : In64 a0) (ga1 : In64 a1) (gl2 : l2.length * 32 ≤ 140737488351232 ∧ ∀ y ∈ l2, Ok91 y) (left : Int) (h0 : 0 ≤ left) (h1 : left ≤ 1048576) : ∃ r, Ev (fun k => laws_szWorld.f k a0 a1 l2 left) r ∧ (r < 0 ∨ 0 ≤ r ∧ r ≤ left ∧ ((l2.length ≤ 1048576 ∧ ∀ y ∈ l2, Fit91 y))) := by
  unfold laws_szWorld.f
  obtain ⟨r0, hr0, hq0⟩ := szEntityS_some l2 gl2 (left) (by omega) (by omega)
  refine exev_bind hr0 (exev_ite (fun _ => exev_some (.inl (by omega))) fun c0 => ?_)
  rcases hq0 with hq0 | ⟨u0, v0, w0⟩
  · omega
  exact exev_some (.inr ⟨by omega, by omega, w0⟩)
theorem szStringS_some (xs : List ByteArray) (g : xs.length * 16 ≤ 140737488351232 ∧ ∀ y ∈ xs, y.size ≤ 140737488351232) (left : Int) (h0 : 0 ≤ left) (h1 : left ≤ 1048576) : ∃ r, Ev (fun k => laws_szStringS.f k xs left) r ∧ (r < 0 ∨ 0 ≤ r ∧ r ≤ left ∧ (xs.length ≤ 1048576 ∧ ∀ y ∈ xs, y.size ≤ 1048576)) := by
  have g1 := g.1
  unfold laws_szStringS.f
  rw [w64 (n := left - (xs.length : Int)) (by omega) (by omega)]
  refine exev_ite (fun _ => exev_some (.inl (by omega))) fun hc => ?_
  have he : ∀ i : Nat, ∀ hi : i < xs.length, ∀ c : Int, 0 ≤ c → c ≤ left - (xs.length : Int) → ∃ r, Ev (fun k => some (wrap64 (c - ((rdOf ByteArray.empty xs (i : Int)).size : Int)))) r ∧ (r < 0 ∨ 0 ≤ r ∧ r ≤ c ∧ xs[i].size ≤ 1048576) := by
    intro i hi c h0 h1
    have e : rdOf ByteArray.empty xs (i : Int) = xs[i] := rdOf_get hi
    have gx := g.2 _ (List.getElem_mem hi)
    have ew : wrap64 (c - (xs[i].size : Int)) = c - (xs[i].size : Int) := w64 (by omega) (by omega)
    rw [e, ew]
    exact ⟨_, ev_some rfl, by by_cases hn : c - (xs[i].size : Int) < 0; exact .inl hn; exact .inr ⟨by omega, by omega, by omega⟩⟩
  obtain ⟨r, hr, hq⟩ := ev_size laws_szStringS.l0 (fun _ xs c i => some (wrap64 (c - ((rdOf ByteArray.empty xs i).size : Int)))) (fun y => y.size ≤ 1048576) (fun _ _ _ _ => rfl) xs (by omega) (left - (xs.length : Int)) (by omega) he
  refine ⟨r, hr, ?_⟩
  rcases hq with hq | ⟨q0, q1, q2⟩
  · exact .inl hq
  · exact .inr ⟨q0, by omega, by omega, q2⟩
theorem szQuery_some (l0 : List ByteArray) (l1 : List ByteArray) (a2 : Int) (gl0 : l0.length * 16 ≤ 140737488351232 ∧ ∀ y ∈ l0, y.size ≤ 140737488351232) (gl1 : l1.length * 16 ≤ 140737488351232 ∧ ∀ y ∈ l1, y.size ≤ 140737488351232) (ga2 : In64 a2) (left : Int) (h0 : 0 ≤ left) (h1 : left ≤ 1048576) : ∃ r, Ev (fun k => laws_szQuery.f k l0 l1 a2 left) r ∧ (r < 0 ∨ 0 ≤ r ∧ r ≤ left ∧ ((l0.length ≤ 1048576 ∧ ∀ y ∈ l0, y.size ≤ 1048576)) ∧ ((l1.length ≤ 1048576 ∧ ∀ y ∈ l1, y.size ≤ 1048576))) := by
  unfold laws_szQuery.f
  obtain ⟨r0, hr0, hq0⟩ := szStringS_some l0 gl0 (left) (by omega) (by omega)
  refine exev_bind hr0 (exev_ite (fun _ => exev_some (.inl (by omega))) fun c0 => ?_)
  rcases hq0 with hq0 | ⟨u0, v0, w0⟩
  · omega
  obtain ⟨r1, hr1, hq1⟩ := szStringS_some l1 gl1 (r0) (by omega) (by omega)
  refine exev_bind hr1 (exev_ite (fun _ => exev_some (.inl (by omega))) fun c1 => ?_)
  rcases hq1 with hq1 | ⟨u1, v1, w1⟩
  · omega
  exact exev_some (.inr ⟨by omega, by omega, w0, w1⟩)
def cv109 (x : S109) : S80 := ⟨x.f0, x.f1, x.f2⟩
def Fit80 (x : S80) : Prop := (x.f0.size ≤ 1048576)
theorem fit_cv109 {x : S109} (h : Fit109 x) : Fit80 (cv109 x) := by
  have h0 := h
  exact h0
theorem toPartS_ev (xs : List S109) (h : (xs.length ≤ 1048576 ∧ ∀ y ∈ xs, Fit109 y)) : Ev (fun k => laws_toPartS.f k xs) (xs.map cv109) := by
  refine ev_pos (by omega) (ev_pos (by have := h.1; omega) ?_)
  refine ev_copy2 laws_toPartS.l0 (fun k xs i => laws_toPart.f ((rd_T109 xs i).f0) ((rd_T109 xs i).f1) ((rd_T109 xs i).f2)) (fun t => (⟨t.1, t.2.1, t.2.2⟩ : S80)) cv109 (fun _ _ _ _ => rfl) xs (by have := h.1; omega) (fun i hi => ?_) _ (by simp)
  · have e : rd_T109 xs (i : Int) = xs[i] := getD_get hi
    rw [e]
    exact ⟨_, ev_eq rfl, rfl⟩
def cv91 (x : S91) : S77 := ⟨x.f0, (x.f1.map cv109)⟩
def Fit77 (x : S77) : Prop := ((x.f1.length ≤ 1048576 ∧ ∀ y ∈ x.f1, Fit80 y))
theorem fit_cv91 {x : S91} (h : Fit91 x) : Fit77 (cv91 x) := by
  have h0 := h
  exact ⟨by show (List.map _ _).length ≤ _; rw [List.length_map]; exact h0.1, fun y hy => by obtain ⟨z, hz, rfl⟩ := List.mem_map.1 hy; exact (fit_cv109 (h0.2 z hz))⟩
theorem toEntity_ev (a0 : Int) (l1 : List S109) (hl1 : (l1.length ≤ 1048576 ∧ ∀ y ∈ l1, Fit109 y)) : Ev (fun k => laws_toEntity.f k a0 l1) (a0, (l1.map cv109)) := by
  unfold laws_toEntity.f
  repeat (first | exact ev_some rfl | refine Ev.bind (toPartS_ev _ hl1) ?_ | refine ev_bindc rfl ?_)
theorem toEntityS_ev (xs : List S91) (h : (xs.length ≤ 1048576 ∧ ∀ y ∈ xs, Fit91 y)) : Ev (fun k => laws_toEntityS.f k xs) (xs.map cv91) := by
  refine ev_pos (by omega) (ev_pos (by have := h.1; omega) ?_)
  refine ev_copy2 laws_toEntityS.l0 (fun k xs i => laws_toEntity.f k ((rd_T91 xs i).f0) ((rd_T91 xs i).f1)) (fun t => (⟨t.1, t.2⟩ : S77)) cv91 (fun _ _ _ _ => rfl) xs (by have := h.1; omega) (fun i hi => ?_) _ (by simp)
  · have e : rd_T91 xs (i : Int) = xs[i] := getD_get hi
    rw [e]
    obtain hf0 := h.2 _ (List.getElem_mem hi)
    exact ⟨_, toEntity_ev _ _ hf0, rfl⟩
theorem toWorld_ev (a0 : Int) (a1 : Int) (l2 : List S91) (hl2 : (l2.length ≤ 1048576 ∧ ∀ y ∈ l2, Fit91 y)) : Ev (fun k => laws_toWorld.f k a0 a1 l2) (a0, a1, (l2.map cv91)) := by
  unfold laws_toWorld.f
  repeat (first | exact ev_some rfl | refine Ev.bind (toEntityS_ev _ hl2) ?_ | refine ev_bindc rfl ?_)
theorem toStringS_ev (xs : List ByteArray) (h : (xs.length ≤ 1048576 ∧ ∀ y ∈ xs, y.size ≤ 1048576)) : Ev (fun k => laws_toStringS.f k xs) xs := by
  refine ev_pos (by omega) (ev_pos (by omega) ?_)
  have := ev_copy laws_toStringS.l0 (fun _ xs i => some (rdOf ByteArray.empty xs i)) id (fun _ _ _ _ => rfl) xs (by omega) (fun i hi => ev_some (rdOf_get hi)) (List.replicate (((xs.length : Int) : Int).toNat) (⟨#[]⟩ : ByteArray)) (by simp)
  rwa [List.map_id] at this
theorem toQuery_ev (l0 : List ByteArray) (l1 : List ByteArray) (a2 : Int) (hl0 : (l0.length ≤ 1048576 ∧ ∀ y ∈ l0, y.size ≤ 1048576)) (hl1 : (l1.length ≤ 1048576 ∧ ∀ y ∈ l1, y.size ≤ 1048576)) : Ev (fun k => laws_toQuery.f k l0 l1 a2) (l0, l1, a2) := by
  unfold laws_toQuery.f
  repeat (first | exact ev_some rfl | refine Ev.bind (toStringS_ev _ hl0) ?_ | refine Ev.bind (toStringS_ev _ hl1) ?_ | refine ev_bindc rfl ?_)
theorem eqIntS_ev (xs : List Int) (h : xs.length ≤ 1048576) : Ev (fun k => laws_eqIntS.f k xs xs) true := by
  refine ev_pos rfl ?_
  refine ev_for1 xs.length (fun k i (_ : Unit) => laws_eqIntS.l0 k xs xs (i : Int)) (fun _ _ => True) true ?_ ?_ 0 () (Nat.zero_le _) trivial
  · intro _ _
    exact Ev.step (fun _ => rfl) (ev_neg (by omega) (ev_some rfl))
  · intro i _ hi _
    refine .inr ⟨(), trivial, fun r hr => Ev.step (fun _ => rfl) (ev_pos (by omega) (ev_pos (by omega) (ev_pos (by omega) ?_)))⟩
    rw [w64s i (by have := h; omega)]
    exact ev_pos rfl hr
theorem eqPart_self (a0 : ByteArray) (a1 : Int) (a2 : Int) : laws_eqPart.f a0 a1 a2 a0 a1 a2 = some true := by
  simp [laws_eqPart.f]
theorem eqPartS_ev (xs : List S80) (h : (xs.length ≤ 1048576 ∧ ∀ y ∈ xs, Fit80 y)) : Ev (fun k => laws_eqPartS.f k xs xs) true := by
  refine ev_pos rfl (ev_alike_self laws_eqPartS.l0 (fun k xs ys i => laws_eqPart.f ((rd_T80 xs i).f0) ((rd_T80 xs i).f1) ((rd_T80 xs i).f2) ((rd_T80 ys i).f0) ((rd_T80 ys i).f1) ((rd_T80 ys i).f2)) (fun _ _ _ _ => rfl) xs (by have := h.1; omega) (fun i hi => ?_))
  · exact ev_eq (eqPart_self _ _ _)
theorem eqEntity_ev (a0 : Int) (l1 : List S80) (hl1 : (l1.length ≤ 1048576 ∧ ∀ y ∈ l1, Fit80 y)) : Ev (fun k => laws_eqEntity.f k a0 l1 a0 l1) true := by
  unfold laws_eqEntity.f
  repeat (first | exact ev_some rfl | refine Ev.bind (eqPartS_ev l1 hl1) ?_ | refine ev_pos rfl ?_ | refine ev_neg (by simp) ?_)
theorem eqEntityS_ev (xs : List S77) (h : (xs.length ≤ 1048576 ∧ ∀ y ∈ xs, Fit77 y)) : Ev (fun k => laws_eqEntityS.f k xs xs) true := by
  refine ev_pos rfl (ev_alike_self laws_eqEntityS.l0 (fun k xs ys i => laws_eqEntity.f k ((rd_T77 xs i).f0) ((rd_T77 xs i).f1) ((rd_T77 ys i).f0) ((rd_T77 ys i).f1)) (fun _ _ _ _ => rfl) xs (by have := h.1; omega) (fun i hi => ?_))
  · have e : rd_T77 xs (i : Int) = xs[i] := getD_get hi
    rw [e]
    obtain hf0 := h.2 _ (List.getElem_mem hi)
    exact eqEntity_ev _ _ hf0
theorem eqWorld_ev (a0 : Int) (a1 : Int) (l2 : List S77) (hl2 : (l2.length ≤ 1048576 ∧ ∀ y ∈ l2, Fit77 y)) : Ev (fun k => laws_eqWorld.f k a0 a1 l2 a0 a1 l2) true := by
  unfold laws_eqWorld.f
  repeat (first | exact ev_some rfl | refine Ev.bind (eqEntityS_ev l2 hl2) ?_ | refine ev_pos rfl ?_ | refine ev_neg (by simp) ?_)
theorem eqStringS_ev (xs : List ByteArray) (h : (xs.length ≤ 1048576 ∧ ∀ y ∈ xs, y.size ≤ 1048576)) : Ev (fun k => laws_eqStringS.f k xs xs) true := by
  refine ev_pos rfl ?_
  refine ev_for1 xs.length (fun k i (_ : Unit) => laws_eqStringS.l0 k xs xs (i : Int)) (fun _ _ => True) true ?_ ?_ 0 () (Nat.zero_le _) trivial
  · intro _ _
    exact Ev.step (fun _ => rfl) (ev_neg (by omega) (ev_some rfl))
  · intro i _ hi _
    refine .inr ⟨(), trivial, fun r hr => Ev.step (fun _ => rfl) (ev_pos (by omega) (ev_pos (by omega) (ev_pos (by omega) ?_)))⟩
    rw [w64s i (by have := h.1; omega)]
    exact ev_pos rfl hr
theorem eqQuery_ev (l0 : List ByteArray) (l1 : List ByteArray) (a2 : Int) (hl0 : (l0.length ≤ 1048576 ∧ ∀ y ∈ l0, y.size ≤ 1048576)) (hl1 : (l1.length ≤ 1048576 ∧ ∀ y ∈ l1, y.size ≤ 1048576)) : Ev (fun k => laws_eqQuery.f k l0 l1 a2 l0 l1 a2) true := by
  unfold laws_eqQuery.f
  repeat (first | exact ev_some rfl | refine Ev.bind (eqStringS_ev l0 hl0) ?_ | refine Ev.bind (eqStringS_ev l1 hl1) ?_ | refine ev_pos rfl ?_ | refine ev_neg (by simp) ?_)
def MarkIntS (x : Int) (c d : Int) : Prop := x = c ∧ d = c + 1
theorem markIntS_ev (xs : List Int) (hl : xs.length ≤ 1048576) (c : Int) (hc0 : 0 ≤ c) (hc1 : c ≤ 1152921504606846976) :
    ∃ ys d, Chain MarkIntS ys c d ∧ c ≤ d ∧ d ≤ c + 1 * xs.length ∧ ys.length = xs.length ∧ Ev (fun k => laws_markIntS.f k xs c) (d, ys) := by
  refine ev_mark (fun k zs c i => laws_markIntS.l0 k zs c (i : Int)) MarkIntS (fun _ => True) 1 (by omega) (by omega) ?_ ?_ xs (fun _ _ => trivial) hl c hc0 hc1
  · intro zs c
    exact Ev.step (fun _ => rfl) (ev_neg (by omega) (ev_some rfl))
  · intro zs c i hi h20 _ h0 h1
    refine ⟨_, _, ⟨rfl, rfl⟩, by omega, by omega, fun r hr => Ev.step (fun _ => rfl) (ev_pos (by omega) (ev_pos (by omega) ?_))⟩
    simp only [Int.toNat_natCast, w64s i (by omega), w64 (n := c + 1) (by omega) (by omega)]
    exact hr
theorem heldIntS_ev (ys : List Int) (hl : ys.length ≤ 1048576) (c d : Int) (hc : 0 ≤ c) (hd : d ≤ 2305843009213693952) (h : Chain MarkIntS ys c d) : Ev (fun k => laws_heldIntS.f k ys c) d := by
  refine ev_held (fun k zs c i => laws_heldIntS.l0 k zs c (i : Int)) MarkIntS (fun x c d h => by have := h.2; omega) ?_ ?_ ys hl c d hc hd h
  · intro zs c
    exact Ev.step (fun _ => rfl) (ev_neg (by omega) (ev_some rfl))
  · intro zs c c' i hi h20 hE h0 h1 r hr
    obtain ⟨hx, rfl⟩ := hE
    have hg : rd zs (i : Int) = c := (rd_get hi).trans hx
    refine Ev.step (fun _ => rfl) (ev_pos (by omega) (ev_pos (by omega) ?_))
    rw [hg]
    simp only [w64s i (by omega), w64 (n := c + 1) (by omega) (by omega)]
    exact ev_pos (by trivial) (hr)
def NamesOk (l : List ByteArray) : Prop := ∀ i, i < l.length → NameOk (rdOf ByteArray.empty l (i : Int)) ∧ (0 < i → Op.bytesLess (rdOf ByteArray.empty l ((i : Int) - 1)).toList (rdOf ByteArray.empty l (i : Int)).toList = true)
theorem names_spec (l : List ByteArray) (hl : l.length ≤ 1048576) (b : Bool) (hb : b = true ↔ l.length ≤ 12 ∧ NamesOk l) : Ev (fun k => spec_l3Names.f k l 12) b := by
  refine ev_ite (fun h => ev_some (bool_false hb (fun h' => by have := h'.1; omega)).symm) fun h => ?_
  refine ev_all l.length (fun k i => spec_l3Names.l0 k l l (l.length : Int) (i : Int)) (fun i => NameOk (rdOf ByteArray.empty l (i : Int)) ∧ (0 < i → Op.bytesLess (rdOf ByteArray.empty l ((i : Int) - 1)).toList (rdOf ByteArray.empty l (i : Int)).toList = true)) true b ?_ ?_ ?_ ?_
  · rw [hb]; unfold NamesOk; constructor
    · exact fun h => ⟨rfl, h.2⟩
    · exact fun h' => ⟨by omega, h'.2⟩
  · exact st_spec_l3Names_l0 (ev_neg (by omega) (ev_some rfl))
  · intro i hi _ ⟨h0, h1⟩ r hr
    refine st_spec_l3Names_l0 (ev_pos (by omega) (ev_pos (by omega) (ev_pos (by omega) (Ev.bind (name_spec _ true ⟨fun _ => h0, fun _ => rfl⟩) (ev_pos rfl ?_)))))
    rw [w64s i (by omega), w64 (n := (i : Int) - 1) (by omega) (by omega)]
    exact ev_ite (fun hp => ev_pos (by omega) (ev_pos (by omega) (ev_pos (h1 (by omega)) hr))) fun _ => hr
  · intro i hi _ ho
    obtain ⟨c, hc⟩ := bool_of (NameOk (rdOf ByteArray.empty l (i : Int)))
    refine st_spec_l3Names_l0 (ev_pos (by omega) (ev_pos (by omega) (ev_pos (by omega) (Ev.bind (name_spec _ c hc) (ev_ite (fun h0 => ?_) fun _ => ev_some rfl)))))
    rw [w64 (n := (i : Int) - 1) (by omega) (by omega)]
    exact ev_ite (fun hp => ev_pos (by omega) (ev_pos (by omega) (ev_ite (fun h2 => absurd ⟨hc.1 h0, fun _ => h2⟩ ho) fun _ => ev_some rfl))) fun hp => absurd ⟨hc.1 h0, fun h => by omega⟩ ho
theorem names_impl (l : List ByteArray) (hx : l.length ≤ 1048576 ∧ ∀ y ∈ l, y.size ≤ 1048576) (b : Bool) (hb : b = true ↔ NamesOk l) : Ev (fun k => impl_areNames.f k l) b := by
  have hl := hx.1
  have hn : ∀ i : Nat, i < l.length → (rdOf ByteArray.empty l (i : Int)).size ≤ 140737488351232 := by
    intro i hi
    rw [rdOf_get hi]
    have := hx.2 _ (List.getElem_mem hi)
    omega
  refine ev_all l.length (fun k i => impl_areNames.l0 k l l (l.length : Int) (i : Int)) (fun i => NameOk (rdOf ByteArray.empty l (i : Int)) ∧ (0 < i → Op.bytesLess (rdOf ByteArray.empty l ((i : Int) - 1)).toList (rdOf ByteArray.empty l (i : Int)).toList = true)) true b ?_ ?_ ?_ ?_
  · rw [hb]; unfold NamesOk; constructor
    · exact fun h => ⟨rfl, h⟩
    · exact fun h' => h'.2
  · exact st_impl_areNames_l0 (ev_neg (by omega) (ev_some rfl))
  · intro i hi _ ⟨h0, h1⟩ r hr
    refine st_impl_areNames_l0 (ev_pos (by omega) (ev_pos (by omega) (ev_pos (by omega) (Ev.bind (name_impl _ (hn i hi) true ⟨fun _ => h0, fun _ => rfl⟩) (ev_pos rfl ?_)))))
    rw [w64s i (by omega), w64 (n := (i : Int) - 1) (by omega) (by omega)]
    exact ev_ite (fun hp => ev_pos (by omega) (ev_pos (by omega) (ev_pos (h1 (by omega)) hr))) fun _ => hr
  · intro i hi _ ho
    obtain ⟨c, hc⟩ := bool_of (NameOk (rdOf ByteArray.empty l (i : Int)))
    refine st_impl_areNames_l0 (ev_pos (by omega) (ev_pos (by omega) (ev_pos (by omega) (Ev.bind (name_impl _ (hn i hi) c hc) (ev_ite (fun h0 => ?_) fun _ => ev_some rfl)))))
    rw [w64 (n := (i : Int) - 1) (by omega) (by omega)]
    exact ev_ite (fun hp => ev_pos (by omega) (ev_pos (by omega) (ev_ite (fun h2 => absurd ⟨hc.1 h0, fun _ => h2⟩ ho) fun _ => ev_some rfl))) fun hp => absurd ⟨hc.1 h0, fun h => by omega⟩ ho
theorem cmp_lt : ∀ (a b : List UInt8), Lib.compareBytes a b < 0 ↔ Op.bytesLess a b = true
  | [], [] => by simp [Lib.compareBytes, Op.bytesLess]
  | [], _ :: _ => by simp [Lib.compareBytes, Op.bytesLess]
  | _ :: _, [] => by simp [Lib.compareBytes, Op.bytesLess]
  | x :: a, y :: b => by
    have ih := cmp_lt a b
    unfold Lib.compareBytes Op.bytesLess
    by_cases h : x < y
    · simp [h]
    · by_cases h2 : y < x
      · have : x ≠ y := fun e => by subst e; exact h h2
        simp [h, h2, this]
      · have : x = y := UInt8.le_antisymm (UInt8.not_lt.1 h2) (UInt8.not_lt.1 h)
        subst this
        simpa [h] using ih
theorem cmp_eq : ∀ (a b : List UInt8), Lib.compareBytes a b = 0 ↔ a = b
  | [], [] => by simp [Lib.compareBytes]
  | [], _ :: _ => by simp [Lib.compareBytes]
  | _ :: _, [] => by simp [Lib.compareBytes]
  | x :: a, y :: b => by
    have ih := cmp_eq a b
    unfold Lib.compareBytes
    by_cases h : x < y
    · have : x ≠ y := fun e => by subst e; exact UInt8.lt_irrefl _ h
      simp [h, this]
    · by_cases h2 : y < x
      · have : x ≠ y := fun e => by subst e; exact h h2
        simp [h, h2, this]
      · have : x = y := UInt8.le_antisymm (UInt8.not_lt.1 h2) (UInt8.not_lt.1 h)
        subst this
        simpa [h] using ih
theorem cmp_next : ∀ (a b s : List UInt8), Op.bytesLess a b = true → 0 ≤ Lib.compareBytes a s → 0 < Lib.compareBytes b s
  | [], [], _, h, _ => by simp [Op.bytesLess] at h
  | [], _ :: _, [], _, _ => by simp [Lib.compareBytes]
  | [], _ :: _, _ :: _, _, h => by simp [Lib.compareBytes] at h
  | _ :: _, [], _, h, _ => by simp [Op.bytesLess] at h
  | _ :: _, _ :: _, [], _, _ => by simp [Lib.compareBytes]
  | x :: a, y :: b, z :: s, h, k => by
    have ih := cmp_next a b s
    unfold Op.bytesLess at h
    unfold Lib.compareBytes at k ⊢
    simp only [Bool.or_eq_true, decide_eq_true_eq, Bool.and_eq_true, beq_iff_eq] at h
    by_cases h1 : x < z
    · simp [h1] at k
    · have hzx : z ≤ x := UInt8.not_lt.1 h1
      rcases h with h | ⟨rfl, h⟩
      · have hzy : z < y := UInt8.lt_of_le_of_lt hzx h
        have : ¬ y < z := fun h' => UInt8.lt_irrefl _ (UInt8.lt_trans hzy h')
        simp [hzy, this]
      · simp only [h1, if_false] at k ⊢
        by_cases h2 : z < x
        · simp [h2]
        · simp only [h2, if_false] at k ⊢
          exact ih h k
theorem less_trans (a b c : List UInt8) (h : Op.bytesLess a b = true) (k : Op.bytesLess b c = true) : Op.bytesLess a c = true := by
  rcases Int.lt_or_le (Lib.compareBytes a c) 0 with g | g
  · exact (cmp_lt a c).1 g
  · have h1 := cmp_next a b c h g
    have h2 := (cmp_lt b c).2 k
    omega
def PartOk (t : Int) (ps : List S80) (i : Nat) : Prop :=
  NameOk (rd_T80 ps (i : Int)).f0 ∧ (0 ≤ (rd_T80 ps (i : Int)).f2 ∧ (rd_T80 ps (i : Int)).f2 ≤ t) ∧ (0 < i → Op.bytesLess (rd_T80 ps ((i : Int) - 1)).f0.toList (rd_T80 ps (i : Int)).f0.toList = true)
def PartsOk (t : Int) (ps : List S80) : Prop := ps.length ≤ 12 ∧ ∀ i, i < ps.length → PartOk t ps i
theorem part_fit (ps : List S80) (hx : ps.length ≤ 1048576 ∧ ∀ y ∈ ps, Fit80 y) (i : Nat) (hi : i < ps.length) : (rd_T80 ps (i : Int)).f0.size ≤ 140737488351232 := by
  have e : rd_T80 ps (i : Int) = ps[i] := getD_get hi
  rw [e]
  have : ps[i].f0.size ≤ 1048576 := hx.2 _ (List.getElem_mem hi)
  omega
theorem parts_impl (ps : List S80) (hx : ps.length ≤ 1048576 ∧ ∀ y ∈ ps, Fit80 y) (t : Int) (b : Bool) (hb : b = true ↔ PartsOk t ps) : Ev (fun k => impl_areParts.f k ps t) b := by
  have hl := hx.1
  have hn := part_fit ps hx
  refine ev_all ps.length (fun k i => impl_areParts.l0 k ps t ps (ps.length : Int) (i : Int)) (PartOk t ps) (decide ((ps.length : Int) ≤ 12)) b ?_ ?_ ?_ ?_
  · rw [hb, decide_eq_true_eq]; unfold PartsOk; constructor
    · exact fun h => ⟨by have := h.1; omega, h.2⟩
    · exact fun h => ⟨by have := h.1; omega, h.2⟩
  · exact st_impl_areParts_l0 (ev_neg (by omega) (ev_some rfl))
  · intro i hi _ ⟨h0, h1, h2⟩ r hr
    refine st_impl_areParts_l0 (ev_pos (by omega) (ev_pos (by omega) (ev_pos (by omega) (Ev.bind (name_impl _ (hn i hi) true ⟨fun _ => h0, fun _ => rfl⟩) (ev_pos rfl ?_)))))
    rw [w64s i (by omega), w64 (n := (i : Int) - 1) (by omega) (by omega)]
    exact ev_ite (fun hp => ev_pos (by omega) (ev_pos (by omega) (ev_pos (h2 (by omega)) (ev_bindc (inr_some _ _ _) (ev_pos (decide_eq_true h1) hr))))) fun _ => ev_bindc (inr_some _ _ _) (ev_pos (decide_eq_true h1) hr)
  · intro i hi _ ho
    obtain ⟨c, hc⟩ := bool_of (NameOk (rd_T80 ps (i : Int)).f0)
    refine st_impl_areParts_l0 (ev_pos (by omega) (ev_pos (by omega) (ev_pos (by omega) (Ev.bind (name_impl _ (hn i hi) c hc) (ev_ite (fun h0 => ?_) fun _ => ev_some rfl)))))
    rw [w64 (n := (i : Int) - 1) (by omega) (by omega)]
    exact ev_ite (fun hp => ev_pos (by omega) (ev_pos (by omega) (ev_ite (fun h2 => ev_bindc (inr_some _ _ _) (ev_neg (fun h1 => ho ⟨hc.1 h0, of_decide_eq_true h1, fun _ => h2⟩) (ev_some rfl))) fun _ => ev_some rfl))) fun hp => ev_bindc (inr_some _ _ _) (ev_neg (fun h1 => ho ⟨hc.1 h0, of_decide_eq_true h1, fun h => by omega⟩) (ev_some rfl))
theorem parts_spec (n t : Int) (l : List S77) (i id : Int) (ps : List S80) (hl : ps.length ≤ 1048576) (r : Bool) (hyes : (∀ j, j < ps.length → PartOk t ps j) → Ev (fun k => spec_GoodWorld.l0 k l (l.length : Int) (wrap64 (i + 1)) n t l) r) (hno : (¬ ∀ j, j < ps.length → PartOk t ps j) → r = false) :
    Ev (fun k => spec_GoodWorld.l1 k l (l.length : Int) i ps (ps.length : Int) 0 n t l id ps) r := by
  refine ev_for1 ps.length (fun k j (_ : Unit) => spec_GoodWorld.l1 k l (l.length : Int) i ps (ps.length : Int) (j : Int) n t l id ps) (fun j _ => ∀ q, q < j → PartOk t ps q) r ?_ ?_ 0 () (Nat.zero_le _) (fun j hj => by omega)
  · intro _ h
    exact st_spec_GoodWorld_l1 (ev_neg (by omega) (hyes h))
  · intro j _ hj h
    by_cases ho : PartOk t ps j
    · refine .inr ⟨(), fun q hq => ?_, fun r' hr' => ?_⟩
      · rcases Nat.lt_or_ge q j with h1 | h1
        · exact h q h1
        · obtain rfl : q = j := by omega
          exact ho
      · obtain ⟨h0, h1, h2⟩ := ho
        refine st_spec_GoodWorld_l1 (ev_pos (by omega) (ev_pos (by omega) (ev_pos (by omega) (Ev.bind (name_spec _ true ⟨fun _ => h0, fun _ => rfl⟩) (ev_pos rfl (ev_bindc (in_some _ _ _) (ev_pos (decide_eq_true h1) ?_)))))))
        rw [w64s j (by omega), w64 (n := (j : Int) - 1) (by omega) (by omega)]
        exact ev_ite (fun hp => ev_pos (by omega) (ev_pos (by omega) (ev_pos (h2 (by omega)) hr'))) fun _ => hr'
    · refine .inl ?_
      rw [hno (fun h' => ho (h' j hj))]
      obtain ⟨c, hc⟩ := bool_of (NameOk (rd_T80 ps (j : Int)).f0)
      refine st_spec_GoodWorld_l1 (ev_pos (by omega) (ev_pos (by omega) (ev_pos (by omega) (Ev.bind (name_spec _ c hc) (ev_ite (fun h0 => ev_bindc (in_some _ _ _) (ev_ite (fun h1 => ?_) fun _ => ev_some rfl)) fun _ => ev_some rfl)))))
      rw [w64 (n := (j : Int) - 1) (by omega) (by omega)]
      exact ev_ite (fun hp => ev_pos (by omega) (ev_pos (by omega) (ev_ite (fun h2 => absurd ⟨hc.1 h0, of_decide_eq_true h1, fun _ => h2⟩ ho) fun _ => ev_some rfl))) fun hp => absurd ⟨hc.1 h0, of_decide_eq_true h1, fun h => by omega⟩ ho
def EntOk (n t : Int) (l : List S77) (i : Nat) : Prop :=
  (1 ≤ (rd_T77 l (i : Int)).f0 ∧ (rd_T77 l (i : Int)).f0 ≤ wrap64 (n - 1)) ∧ (0 < i → (rd_T77 l ((i : Int) - 1)).f0 < (rd_T77 l (i : Int)).f0) ∧ PartsOk t (rd_T77 l (i : Int)).f1
def WorldOk (n t : Int) (l : List S77) : Prop := (1 ≤ n ∧ n ≤ 1000000) ∧ (0 ≤ t ∧ t ≤ 1000000) ∧ l.length ≤ 60 ∧ ∀ i, i < l.length → EntOk n t l i
theorem ent_fit (l : List S77) (hx : l.length ≤ 1048576 ∧ ∀ y ∈ l, Fit77 y) (i : Nat) (hi : i < l.length) : (rd_T77 l (i : Int)).f1.length ≤ 1048576 ∧ ∀ y ∈ (rd_T77 l (i : Int)).f1, Fit80 y := by
  have e : rd_T77 l (i : Int) = l[i] := getD_get hi
  rw [e]
  exact hx.2 _ (List.getElem_mem hi)
theorem world_spec (n t : Int) (l : List S77) (hx : l.length ≤ 1048576 ∧ ∀ y ∈ l, Fit77 y) (b : Bool) (hb : b = true ↔ WorldOk n t l) : Ev (fun k => spec_GoodWorld.f k n t l) b := by
  have hl := hx.1
  have no : (¬ WorldOk n t l) → Ev (fun k => spec_GoodWorld.j0 k true n t l) b := fun h => st_spec_GoodWorld_j0 (ev_pos rfl (ev_some (bool_false hb h).symm))
  refine ev_bindc (in_some _ _ _) (ev_ite (fun g0 => ev_bindc (in_some _ _ _) (ev_ite (fun g1 => ?_) fun g1 => no fun h => g1 (decide_eq_true h.2.1))) fun g0 => no fun h => g0 (decide_eq_true h.1))
  refine st_spec_GoodWorld_j0 (ev_ite (fun g2 => ev_some (bool_false hb fun h => by have := h.2.2.1; have := of_decide_eq_true g2; omega).symm) fun g2 => ?_)
  have g2 : l.length ≤ 60 := by
    rcases Nat.lt_or_ge 60 l.length with h | h
    · exact absurd (decide_eq_true (by omega)) g2
    · exact h
  refine ev_all l.length (fun k i => spec_GoodWorld.l0 k l (l.length : Int) (i : Int) n t l) (EntOk n t l) true b ?_ ?_ ?_ ?_
  · rw [hb]
    exact ⟨fun h => ⟨rfl, h.2.2.2⟩, fun h => ⟨of_decide_eq_true g0, of_decide_eq_true g1, g2, h.2⟩⟩
  · exact st_spec_GoodWorld_l0 (ev_neg (by omega) (ev_some rfl))
  · intro i hi _ ⟨h0, h1, h2⟩ r hr
    have tail : Ev (fun k => spec_GoodWorld.j2 k l (l.length : Int) (i : Int) (decide (((rd_T77 l (i : Int)).f1.length : Int) > 12)) n t l (rd_T77 l (i : Int)).f0 (rd_T77 l (i : Int)).f1) r := by
      refine st_spec_GoodWorld_j2 (ev_neg (fun h => by have := of_decide_eq_true h; have := h2.1; omega) (parts_spec n t l _ _ _ (ent_fit l hx i hi).1 r (fun _ => ?_) (fun h => absurd h2.2 h)))
      rw [w64s i (by omega)]
      exact hr
    refine st_spec_GoodWorld_l0 (ev_pos (by omega) (ev_pos (by omega) (ev_pos (by omega) (ev_bindc (in_some _ _ _) (ev_pos (decide_eq_true h0) ?_)))))
    rw [w64 (n := (i : Int) - 1) (by omega) (by omega)]
    exact ev_ite (fun hp => ev_pos (by omega) (ev_pos (by omega) (ev_neg (by have := h1 (by omega); omega) tail))) fun _ => tail
  · intro i hi _ ho
    have nope : Ev (fun k => spec_GoodWorld.j2 k l (l.length : Int) (i : Int) true n t l (rd_T77 l (i : Int)).f0 (rd_T77 l (i : Int)).f1) false := st_spec_GoodWorld_j2 (ev_pos rfl (ev_some rfl))
    refine st_spec_GoodWorld_l0 (ev_pos (by omega) (ev_pos (by omega) (ev_pos (by omega) (ev_bindc (in_some _ _ _) (ev_ite (fun h0 => ?_) fun _ => nope)))))
    have tail : (0 < i → (rd_T77 l ((i : Int) - 1)).f0 < (rd_T77 l (i : Int)).f0) → Ev (fun k => spec_GoodWorld.j2 k l (l.length : Int) (i : Int) (decide (((rd_T77 l (i : Int)).f1.length : Int) > 12)) n t l (rd_T77 l (i : Int)).f0 (rd_T77 l (i : Int)).f1) false := by
      intro h1
      refine st_spec_GoodWorld_j2 (ev_ite (fun _ => ev_some rfl) fun h => parts_spec n t l _ _ _ (ent_fit l hx i hi).1 false (fun h2 => absurd ⟨of_decide_eq_true h0, h1, ?_, h2⟩ ho) (fun _ => rfl))
      rcases Nat.lt_or_ge 12 (rd_T77 l (i : Int)).f1.length with h3 | h3
      · exact absurd (decide_eq_true (by omega)) h
      · exact h3
    rw [w64 (n := (i : Int) - 1) (by omega) (by omega)]
    exact ev_ite (fun hp => ev_pos (by omega) (ev_pos (by omega) (ev_ite (fun _ => nope) fun h1 => tail fun _ => by omega))) fun hp => tail fun h => by omega
theorem world_impl (n t : Int) (l : List S77) (hx : l.length ≤ 1048576 ∧ ∀ y ∈ l, Fit77 y) (b : Bool) (hb : b = true ↔ WorldOk n t l) : Ev (fun k => impl_GoodWorld.f k n t l) b := by
  have hl := hx.1
  obtain ⟨e, he⟩ := bool_of ((1 ≤ n ∧ n ≤ 1000000) ∧ (0 ≤ t ∧ t ≤ 1000000) ∧ l.length ≤ 60)
  refine ev_all l.length (fun k i => impl_GoodWorld.l0 k l (l.length : Int) (i : Int) n t l) (EntOk n t l) e b ?_ ?_ ?_ ?_
  · rw [hb, he]
    exact ⟨fun h => ⟨⟨h.1, h.2.1, h.2.2.1⟩, h.2.2.2⟩, fun h => ⟨h.1.1, h.1.2.1, h.1.2.2, h.2⟩⟩
  · refine st_impl_GoodWorld_l0 (ev_neg (by omega) (ev_bindc (inr_some _ _ _) (ev_ite (fun g0 => ev_bindc (inr_some _ _ _) (ev_ite (fun g1 => ev_some ?_) fun g1 => ev_some (bool_false he fun h => g1 (decide_eq_true h.2.1)).symm)) fun g0 => ev_some (bool_false he fun h => g0 (decide_eq_true h.1)).symm)))
    rw [Bool.eq_iff_iff, he, decide_eq_true_eq]
    exact ⟨fun h => ⟨of_decide_eq_true g0, of_decide_eq_true g1, by omega⟩, fun h => by have := h.2.2; omega⟩
  · intro i hi _ ⟨h0, h1, h2⟩ r hr
    refine st_impl_GoodWorld_l0 (ev_pos (by omega) (ev_pos (by omega) (ev_pos (by omega) (ev_bindc (inr_some _ _ _) (ev_pos (decide_eq_true h0) ?_)))))
    rw [w64s i (by omega), w64 (n := (i : Int) - 1) (by omega) (by omega)]
    have tail := parts_impl _ (ent_fit l hx i hi) t true ⟨fun _ => h2, fun _ => rfl⟩
    exact ev_ite (fun hp => ev_pos (by omega) (ev_pos (by omega) (ev_neg (by have := h1 (by omega); omega) (Ev.bind tail (ev_pos rfl hr))))) fun _ => Ev.bind tail (ev_pos rfl hr)
  · intro i hi _ ho
    refine st_impl_GoodWorld_l0 (ev_pos (by omega) (ev_pos (by omega) (ev_pos (by omega) (ev_bindc (inr_some _ _ _) (ev_ite (fun h0 => ?_) fun _ => ev_some rfl)))))
    rw [w64 (n := (i : Int) - 1) (by omega) (by omega)]
    obtain ⟨c, hc⟩ := bool_of (PartsOk t (rd_T77 l (i : Int)).f1)
    have tail := parts_impl _ (ent_fit l hx i hi) t c hc
    exact ev_ite (fun hp => ev_pos (by omega) (ev_pos (by omega) (ev_ite (fun _ => ev_some rfl) fun h1 => Ev.bind tail (ev_ite (fun h2 => absurd ⟨of_decide_eq_true h0, fun _ => by omega, hc.1 h2⟩ ho) fun _ => ev_some rfl)))) fun hp => Ev.bind tail (ev_ite (fun h2 => absurd ⟨of_decide_eq_true h0, fun h => by omega, hc.1 h2⟩ ho) fun _ => ev_some rfl)
theorem parts_sorted (t : Int) (ps : List S80) (h : ∀ i, i < ps.length → PartOk t ps i) : ∀ j i : Nat, i < j → j < ps.length → Op.bytesLess (rd_T80 ps (i : Int)).f0.toList (rd_T80 ps (j : Int)).f0.toList = true := by
  intro j
  induction j with
  | zero => intro i hij _; omega
  | succ j ih =>
    intro i hij hj
    have hs := (h (j + 1) hj).2.2 (by omega)
    have e : (((j + 1 : Nat) : Int) - 1) = (j : Int) := by omega
    rw [e] at hs
    rcases Nat.lt_or_ge i j with h1 | h1
    · exact less_trans _ _ _ (ih i h1 (by omega)) hs
    · obtain rfl : i = j := by omega
      exact hs
def HasPart (ps : List S80) (s : ByteArray) (q : Nat) : Prop := q < ps.length ∧ (rd_T80 ps (q : Int)).f0.toList = s.toList
theorem part_spec (ps : List S80) (hl : ps.length ≤ 1048576) (id : Int) (s : ByteArray) : ∃ r : Int, Ev (fun k => spec_l3Part.f k id ps s) r ∧ ((r = -1 ∧ ∀ q, ¬ HasPart ps s q) ∨ ∃ q : Nat, r = (q : Int) ∧ HasPart ps s q) := by
  refine ev_for ps.length (fun k i (_ : Unit) => spec_l3Part.l0 k s ps (ps.length : Int) (i : Int)) (fun i _ => ∀ q, q < i → ¬ HasPart ps s q) (fun r => (r = -1 ∧ ∀ q, ¬ HasPart ps s q) ∨ ∃ q : Nat, r = (q : Int) ∧ HasPart ps s q) ?_ ?_ 0 () (Nat.zero_le _) (fun q hq => by omega)
  · intro _ h
    exact ⟨-1, st_spec_l3Part_l0 (ev_neg (by omega) (ev_some rfl)), .inl ⟨rfl, fun q hq => h q hq.1 hq⟩⟩
  · intro i _ hi h
    by_cases e : (rd_T80 ps (i : Int)).f0.toList = s.toList
    · exact .inl ⟨(i : Int), st_spec_l3Part_l0 (ev_pos (by omega) (ev_pos (by omega) (ev_pos (by omega) (ev_pos e (ev_some rfl))))), .inr ⟨i, rfl, hi, e⟩⟩
    · refine .inr ⟨(), fun q hq => ?_, fun r hr => st_spec_l3Part_l0 (ev_pos (by omega) (ev_pos (by omega) (ev_pos (by omega) (ev_neg e ?_))))⟩
      · rcases Nat.lt_or_ge q i with h1 | h1
        · exact h q h1
        · obtain rfl : q = i := by omega
          exact fun h' => e h'.2
      · rw [w64s i (by omega)]; exact hr
theorem part_impl (t : Int) (ps : List S80) (hl : ps.length ≤ 1048576) (h : ∀ i, i < ps.length → PartOk t ps i) (id : Int) (s : ByteArray) : ∃ p b, Ev (fun k => impl_Entity_place.f k id ps s) (p, b) ∧ ((b = false ∧ ∀ q, ¬ HasPart ps s q) ∨ b = true ∧ ∃ q : Nat, p = (q : Int) ∧ HasPart ps s q) := by
  have hz : ∀ i : Nat, cmps (rd_T80 ps (i : Int)).f0 s = 0 ↔ (rd_T80 ps (i : Int)).f0.toList = s.toList := fun i => by
    rw [Go.ByteArray.toList_eq, Go.ByteArray.toList_eq]; exact cmp_eq _ _
  have hm : ∀ i j : Nat, i < j → j < ps.length → 0 ≤ cmps (rd_T80 ps (i : Int)).f0 s → 0 < cmps (rd_T80 ps (j : Int)).f0 s := by
    intro i j hij hj h0
    have hs := parts_sorted t ps h j i hij hj
    rw [Go.ByteArray.toList_eq, Go.ByteArray.toList_eq] at hs
    exact cmp_next _ _ _ hs h0
  obtain ⟨p, g1, g2, g3, g4⟩ := ev_search (fun k xs x n i j => slices_BinarySearchFunc_w69.l0 k xs x n i j) (fun _ xs i x => impl_Entity_place_1.f (rd_T80 xs i).f0 (rd_T80 xs i).f1 (rd_T80 xs i).f2 x) (fun _ _ _ _ _ _ => rfl) ps s hl (fun i => cmps (rd_T80 ps (i : Int)).f0 s) (fun i _ => ev_some rfl) hm
  refine ⟨_, _, Ev.bind g4 (ev_some rfl), ?_⟩
  by_cases hp : p < ps.length ∧ cmps (rd_T80 ps (p : Int)).f0 s = 0
  · exact .inr ⟨decide_eq_true hp, p, rfl, hp.1, (hz p).1 hp.2⟩
  · refine .inl ⟨decide_eq_false hp, fun q hq => ?_⟩
    have h0 := (hz q).2 hq.2
    rcases Nat.lt_or_ge q p with h1 | h1
    · have := g2 q h1; omega
    · rcases Nat.lt_or_ge p q with h2 | h2
      · have h3 := g3 p (Nat.le_refl _) (by have := hq.1; omega)
        have := hm p q h2 hq.1 h3
        omega
      · obtain rfl : q = p := by omega
        exact hp ⟨hq.1, h0⟩
theorem part_one (t : Int) (ps : List S80) (h : ∀ i, i < ps.length → PartOk t ps i) (s : ByteArray) (q q' : Nat) (h1 : HasPart ps s q) (h2 : HasPart ps s q') : q = q' := by
  have key : ∀ i j : Nat, i < j → HasPart ps s i → HasPart ps s j → False := by
    intro i j hij hi hj
    have hs := parts_sorted t ps h j i hij hj.1
    rw [hi.2, hj.2] at hs
    have a := (cmp_lt _ _).2 hs
    have b := (cmp_eq s.toList s.toList).2 rfl
    omega
  rcases Nat.lt_trichotomy q q' with h3 | h3 | h3
  · exact (key _ _ h3 h1 h2).elim
  · exact h3
  · exact (key _ _ h3 h2 h1).elim
theorem no2 (l : List S77) (i : Int) (w wo : List ByteArray) (since id : Int) (ps : List S80) (hwo : wo.length ≤ 12) (out : List Int) (r : List Int × Bool) (hr : Ev (fun k => spec_QueryWorld.l0 k out l (l.length : Int) (wrap64 (i + 1)) w wo since) r) :
    ∀ n j : Nat, j + n = wo.length → ∀ late, Ev (fun k => spec_QueryWorld.l2 k out false late l (l.length : Int) i wo (wo.length : Int) (j : Int) w wo since id ps) r := by
  intro n
  induction n with
  | zero =>
    intro j hj late
    exact st_spec_QueryWorld_l2 (ev_neg (by omega) (ev_neg (by decide) hr))
  | succ n ih =>
    intro j hj late
    refine st_spec_QueryWorld_l2 (ev_pos (by omega) (ev_pos (by omega) (ev_pos (by omega) (ev_neg (by decide) ?_))))
    rw [w64s j (by omega)]
    exact ih (j + 1) (by omega) late
theorem no1 (l : List S77) (i : Int) (w wo : List ByteArray) (since id : Int) (ps : List S80) (hps : ps.length ≤ 1048576) (hw : w.length ≤ 12) (hwo : wo.length ≤ 12) (out : List Int) (r : List Int × Bool) (hr : Ev (fun k => spec_QueryWorld.l0 k out l (l.length : Int) (wrap64 (i + 1)) w wo since) r) :
    ∀ n j : Nat, j + n = w.length → ∀ late, Ev (fun k => spec_QueryWorld.l1 k out false late l (l.length : Int) i w (w.length : Int) (j : Int) w wo since id ps) r := by
  intro n
  induction n with
  | zero =>
    intro j hj late
    exact st_spec_QueryWorld_l1 (ev_neg (by omega) (no2 l i w wo since id ps hwo out r hr wo.length 0 (by omega) late))
  | succ n ih =>
    intro j hj late
    have next : ∀ late', Ev (fun k => spec_QueryWorld.l1 k out false late' l (l.length : Int) i w (w.length : Int) (wrap64 ((j : Int) + 1)) w wo since id ps) r := by
      intro late'
      rw [w64s j (by omega)]
      exact ih (j + 1) (by omega) late'
    obtain ⟨p, hp, hq⟩ := part_spec ps hps id (rdOf ByteArray.empty w (j : Int))
    refine st_spec_QueryWorld_l1 (ev_pos (by omega) (ev_pos (by omega) (ev_pos (by omega) (Ev.bind hp (ev_neg (by decide) (ev_ite (fun _ => next _) fun _ => ev_ite (fun h => ?_) fun _ => next _))))))
    rcases hq with ⟨rfl, _⟩ | ⟨q, rfl, hq⟩
    · omega
    · exact ev_pos h (ev_pos (by have := hq.1; omega) (next _))
theorem yes2 (t : Int) (l : List S77) (i : Int) (w wo : List ByteArray) (since id : Int) (ps : List S80) (hps : ps.length ≤ 1048576) (hok : ∀ i, i < ps.length → PartOk t ps i) (hwo : wo.length ≤ 12) (out : List Int) (ho : out.length ≤ 1048576) :
    ∀ n j : Nat, j + n = wo.length → ∀ late, ∃ T, Ev (fun k => impl_Query_takes.l1 k late wo (wo.length : Int) (j : Int) id ps) T ∧ ∀ r, (T = true → Ev (fun k => spec_QueryWorld.l0 k (out ++ [id]) l (l.length : Int) (wrap64 (i + 1)) w wo since) r) → (T = false → Ev (fun k => spec_QueryWorld.l0 k out l (l.length : Int) (wrap64 (i + 1)) w wo since) r) → Ev (fun k => spec_QueryWorld.l2 k out true late l (l.length : Int) i wo (wo.length : Int) (j : Int) w wo since id ps) r := by
  intro n
  induction n with
  | zero =>
    intro j hj late
    refine ⟨late, st_impl_Query_takes_l1 (ev_neg (by omega) (ev_some rfl)), fun r ht hf => st_spec_QueryWorld_l2 (ev_neg (by omega) (ev_pos rfl (ev_ite (fun h => ev_pos (by omega) (ht h)) fun h => hf (by simpa using h))))⟩
  | succ n ih =>
    intro j hj late
    obtain ⟨p, hp, hq⟩ := part_spec ps hps id (rdOf ByteArray.empty wo (j : Int))
    obtain ⟨p', b', hp', hq'⟩ := part_impl t ps hps hok id (rdOf ByteArray.empty wo (j : Int))
    rcases hq with ⟨rfl, hq⟩ | ⟨q, rfl, hq⟩
    · rcases hq' with ⟨rfl, _⟩ | ⟨_, q', _, hq'⟩
      · obtain ⟨T, h1, h2⟩ := ih (j + 1) (by omega) late
        refine ⟨T, st_impl_Query_takes_l1 (ev_pos (by omega) (ev_pos (by omega) (ev_pos (by omega) (Ev.bind hp' (ev_neg (by simp) ?_))))), fun r ht hf => st_spec_QueryWorld_l2 (ev_pos (by omega) (ev_pos (by omega) (ev_pos (by omega) (ev_pos rfl (Ev.bind hp ?_)))))⟩
        · rw [w64s j (by omega)]; exact h1
        · rw [w64s j (by omega)]; exact h2 r ht hf
      · exact absurd hq' (hq q')
    · rcases hq' with ⟨_, hq'⟩ | ⟨rfl, q', _, _⟩
      · exact absurd hq (hq' q)
      · refine ⟨false, st_impl_Query_takes_l1 (ev_pos (by omega) (ev_pos (by omega) (ev_pos (by omega) (Ev.bind hp' (ev_pos rfl (ev_some rfl)))))), fun r _ hf => st_spec_QueryWorld_l2 (ev_pos (by omega) (ev_pos (by omega) (ev_pos (by omega) (ev_pos rfl (Ev.bind hp ?_)))))⟩
        rw [decide_eq_false (by omega), w64s j (by omega)]
        exact no2 l i w wo since id ps hwo out r (hf rfl) n (j + 1) (by omega) late
theorem yes1 (t : Int) (l : List S77) (i : Int) (w wo : List ByteArray) (since id : Int) (ps : List S80) (hps : ps.length ≤ 1048576) (hok : ∀ i, i < ps.length → PartOk t ps i) (hw : w.length ≤ 12) (hwo : wo.length ≤ 12) (out : List Int) (ho : out.length ≤ 1048576) :
    ∀ n j : Nat, j + n = w.length → ∀ late, ∃ T, Ev (fun k => impl_Query_takes.l0 k late w (w.length : Int) (j : Int) w wo since id ps) T ∧ ∀ r, (T = true → Ev (fun k => spec_QueryWorld.l0 k (out ++ [id]) l (l.length : Int) (wrap64 (i + 1)) w wo since) r) → (T = false → Ev (fun k => spec_QueryWorld.l0 k out l (l.length : Int) (wrap64 (i + 1)) w wo since) r) → Ev (fun k => spec_QueryWorld.l1 k out true late l (l.length : Int) i w (w.length : Int) (j : Int) w wo since id ps) r := by
  intro n
  induction n with
  | zero =>
    intro j hj late
    obtain ⟨T, h1, h2⟩ := yes2 t l i w wo since id ps hps hok hwo out ho wo.length 0 (by omega) late
    exact ⟨T, st_impl_Query_takes_l0 (ev_neg (by omega) h1), fun r ht hf => st_spec_QueryWorld_l1 (ev_neg (by omega) (h2 r ht hf))⟩
  | succ n ih =>
    intro j hj late
    obtain ⟨p, hp, hq⟩ := part_spec ps hps id (rdOf ByteArray.empty w (j : Int))
    obtain ⟨p', b', hp', hq'⟩ := part_impl t ps hps hok id (rdOf ByteArray.empty w (j : Int))
    rcases hq with ⟨rfl, hq⟩ | ⟨q, rfl, hq⟩
    · rcases hq' with ⟨rfl, _⟩ | ⟨_, q', _, hq'⟩
      · refine ⟨false, st_impl_Query_takes_l0 (ev_pos (by omega) (ev_pos (by omega) (ev_pos (by omega) (Ev.bind hp' (ev_neg (by simp) (ev_some rfl)))))), fun r _ hf => st_spec_QueryWorld_l1 (ev_pos (by omega) (ev_pos (by omega) (ev_pos (by omega) (Ev.bind hp (ev_pos rfl ?_)))))⟩
        have e : decide ((-1 : Int) ≥ 0) = false := by decide
        rw [e, w64s j (by omega)]
        have hn := no1 l i w wo since id ps hps hw hwo out r (hf rfl) n (j + 1) (by omega)
        exact ev_ite (fun _ => hn true) fun _ => ev_neg (by omega) (hn false)
      · exact absurd hq' (hq q')
    · rcases hq' with ⟨_, hq'⟩ | ⟨rfl, q', rfl, hq'⟩
      · exact absurd hq (hq' q)
      · obtain rfl := part_one t ps hok _ q q' hq hq'
        have hql := hq.1
        have e : decide ((q : Int) ≥ 0) = true := decide_eq_true (by omega)
        cases late with
        | true =>
          obtain ⟨T, h1, h2⟩ := ih (j + 1) (by omega) true
          refine ⟨T, st_impl_Query_takes_l0 (ev_pos (by omega) (ev_pos (by omega) (ev_pos (by omega) (Ev.bind hp' (ev_pos rfl (ev_pos rfl ?_)))))), fun r ht hf => st_spec_QueryWorld_l1 (ev_pos (by omega) (ev_pos (by omega) (ev_pos (by omega) (Ev.bind hp (ev_pos rfl (ev_pos rfl ?_))))))⟩
          · rw [w64s j (by omega)]; exact h1
          · rw [e, w64s j (by omega)]; exact h2 r ht hf
        | false =>
          obtain ⟨T, h1, h2⟩ := ih (j + 1) (by omega) (decide ((rd_T80 ps (q : Int)).f2 ≥ since))
          refine ⟨T, st_impl_Query_takes_l0 (ev_pos (by omega) (ev_pos (by omega) (ev_pos (by omega) (Ev.bind hp' (ev_pos rfl (ev_neg (by decide) (ev_pos (by omega) (ev_pos (by omega) ?_)))))))), fun r ht hf => st_spec_QueryWorld_l1 (ev_pos (by omega) (ev_pos (by omega) (ev_pos (by omega) (Ev.bind hp (ev_pos rfl (ev_neg (by decide) (ev_pos (by omega) (ev_pos (by omega) (ev_pos (by omega) ?_)))))))))⟩
          · rw [w64s j (by omega)]; exact h1
          · rw [e, w64s j (by omega)]; exact h2 r ht hf
theorem query_loop (n t : Int) (l : List S77) (hx : l.length ≤ 1048576 ∧ ∀ y ∈ l, Fit77 y) (hok : WorldOk n t l) (w wo : List ByteArray) (hw : w.length ≤ 12) (hwo : wo.length ≤ 12) (since : Int) :
    ∀ m i : Nat, ∀ out : List Int, i + m = l.length → out.length ≤ i → ∃ res b, Ev (fun k => spec_QueryWorld.l0 k out l (l.length : Int) (i : Int) w wo since) (res, b) ∧ Ev (fun k => impl_QueryWorld.l0 k out l (l.length : Int) (i : Int) w wo since) (res, b) ∧ res.length ≤ 60 := by
  have hl := hok.2.2.1
  intro m
  induction m with
  | zero =>
    intro i out hi ho
    exact ⟨out, true, st_spec_QueryWorld_l0 (ev_neg (by omega) (ev_some rfl)), st_impl_QueryWorld_l0 (ev_neg (by omega) (ev_some rfl)), by omega⟩
  | succ m ih =>
    intro i out hi ho
    have hil : i < l.length := by omega
    obtain ⟨T, h1, h2⟩ := yes1 t l (i : Int) w wo since (rd_T77 l (i : Int)).f0 (rd_T77 l (i : Int)).f1 (ent_fit l hx i hil).1 (hok.2.2.2 i hil).2.2.2 hw hwo out (by omega) w.length 0 (by omega) (since == 0)
    rw [w64s i (by omega)] at h2
    cases T with
    | true =>
      obtain ⟨res, b, g1, g2, g3⟩ := ih (i + 1) (out ++ [(rd_T77 l (i : Int)).f0]) (by omega) (by rw [List.length_append, List.length_singleton]; omega)
      refine ⟨res, b, st_spec_QueryWorld_l0 (ev_pos (by omega) (ev_pos (by omega) (ev_pos (by omega) (h2 _ (fun _ => g1) (fun h => by cases h))))), st_impl_QueryWorld_l0 (ev_pos (by omega) (ev_pos (by omega) (ev_pos (by omega) (Ev.bind h1 (ev_pos rfl (ev_pos (by omega) ?_)))))), g3⟩
      rw [w64s i (by omega)]; exact g2
    | false =>
      obtain ⟨res, b, g1, g2, g3⟩ := ih (i + 1) out (by omega) (by omega)
      refine ⟨res, b, st_spec_QueryWorld_l0 (ev_pos (by omega) (ev_pos (by omega) (ev_pos (by omega) (h2 _ (fun h => by cases h) (fun _ => g1))))), st_impl_QueryWorld_l0 (ev_pos (by omega) (ev_pos (by omega) (ev_pos (by omega) (Ev.bind h1 (ev_neg (by decide) ?_))))), g3⟩
      rw [w64s i (by omega)]; exact g2
theorem query_same (n t : Int) (l : List S77) (hx : l.length ≤ 1048576 ∧ ∀ y ∈ l, Fit77 y) (w wo : List ByteArray) (hw : w.length ≤ 1048576 ∧ ∀ y ∈ w, y.size ≤ 1048576) (hwo : wo.length ≤ 1048576 ∧ ∀ y ∈ wo, y.size ≤ 1048576) (since : Int) :
    ∃ res b, Ev (fun k => spec_QueryWorld.f k n t l w wo since) (res, b) ∧ Ev (fun k => impl_QueryWorld.f k n t l w wo since) (res, b) ∧ res.length ≤ 60 := by
  obtain ⟨g, hg⟩ := bool_of (WorldOk n t l)
  have gs := world_spec n t l hx g hg
  have gi := world_impl n t l hx g hg
  have sno : Ev (fun k => spec_QueryWorld.j0 k true n t l w wo since) ([], false) := st_spec_QueryWorld_j0 (ev_pos rfl (ev_some rfl))
  have ino : Ev (fun k => impl_QueryWorld.j0 k true n t l w wo since) ([], false) := st_impl_QueryWorld_j0 (ev_pos rfl (ev_some rfl))
  cases g with
  | false => exact ⟨[], false, Ev.bind gs (ev_neg (by decide) sno), Ev.bind gi (ev_neg (by decide) ino), by simp⟩
  | true =>
    have hok := hg.1 rfl
    obtain ⟨c1, hc1⟩ := bool_of (NamesOk w)
    obtain ⟨c2, hc2⟩ := bool_of (NamesOk wo)
    obtain ⟨d1, hd1⟩ := bool_of (w.length ≤ 12 ∧ NamesOk w)
    obtain ⟨d2, hd2⟩ := bool_of (wo.length ≤ 12 ∧ NamesOk wo)
    have n1 := names_impl w hw c1 hc1
    have n2 := names_impl wo hwo c2 hc2
    have m1 := names_spec w hw.1 d1 hd1
    have m2 := names_spec wo hwo.1 d2 hd2
    obtain ⟨q, hq⟩ := bool_of (((w.length ≤ 12 ∧ NamesOk w) ∧ (wo.length ≤ 12 ∧ NamesOk wo)) ∧ (0 ≤ since ∧ since ≤ 1000000))
    have iq : Ev (fun k => impl_isQuery.f k w wo since) q := by
      refine Ev.bind n1 (ev_ite (fun h1 => Ev.bind n2 (ev_ite (fun h2 => ev_ite (fun h3 => ev_ite (fun h4 => ev_bindc (inr_some _ _ _) (ev_some ?_)) fun h4 => ev_some (bool_false hq fun h => by have := h.1.2.1; omega).symm) fun h3 => ev_some (bool_false hq fun h => by have := h.1.1.1; omega).symm) fun h2 => ev_some (bool_false hq fun h => h2 (hc2.2 h.1.2.2)).symm)) fun h1 => ev_some (bool_false hq fun h => h1 (hc1.2 h.1.1.2)).symm)
      rw [Bool.eq_iff_iff, hq, decide_eq_true_eq]
      exact ⟨fun h => ⟨⟨⟨by omega, hc1.1 h1⟩, by omega, hc2.1 h2⟩, h⟩, fun h => h.2⟩
    have both : ∀ res b, Ev (fun k => spec_QueryWorld.j0 k (!q) n t l w wo since) (res, b) → (q = false → res = [] ∧ b = false) → Ev (fun k => spec_QueryWorld.f k n t l w wo since) (res, b) := by
      intro res b hj hf
      have nn : q = false → Ev (fun k => spec_QueryWorld.j0 k true n t l w wo since) (res, b) := fun h => by
        obtain ⟨rfl, rfl⟩ := hf h
        exact sno
      refine Ev.bind gs (ev_pos rfl (Ev.bind m1 (ev_ite (fun h1 => Ev.bind m2 (ev_ite (fun h2 => ev_bindc (in_some _ _ _) ?_) fun h2 => nn (bool_false hq fun h => h2 (hd2.2 h.1.2)))) fun h1 => nn (bool_false hq fun h => h1 (hd1.2 h.1.1)))))
      have e : decide (0 ≤ since ∧ since ≤ 1000000) = q := by
        rw [Bool.eq_iff_iff, hq, decide_eq_true_eq]
        exact ⟨fun h => ⟨⟨hd1.1 h1, hd2.1 h2⟩, h⟩, fun h => h.2⟩
      rw [e]
      exact hj
    cases q with
    | false => exact ⟨[], false, both _ _ sno (fun _ => ⟨rfl, rfl⟩), Ev.bind gi (ev_pos rfl (Ev.bind iq ino)), by simp⟩
    | true =>
      have hqq := hq.1 rfl
      obtain ⟨res, b, h1, h2, h3⟩ := query_loop n t l hx hok w wo hqq.1.1.1 hqq.1.2.1 since l.length 0 [] (by omega) (by simp)
      exact ⟨res, b, both _ _ (st_spec_QueryWorld_j0 (ev_neg (by decide) h1)) (fun h => by cases h), Ev.bind gi (ev_pos rfl (Ev.bind iq (st_impl_QueryWorld_j0 (ev_neg (by decide) h2)))), h3⟩
theorem marktext_loop : ∀ (n : Nat) (s : ByteArray), n + s.size ≤ 2305843009213693952 → ∃ t, Ev (fun k => laws_markText.l0 k (n : Int) s) t := by
  intro n
  induction n using Nat.strongRecOn with
  | _ n ih =>
    intro s hs
    by_cases h : n = 0
    · subst h
      exact ⟨_, st_laws_markText_l0 (ev_neg (by omega) (ev_pos (by omega) (ev_some rfl)))⟩
    · have h1 : ∀ x : Int, (strOfNums [x]).size = 1 := fun x => by simp [strOfNums, ByteArray.size]
      obtain ⟨t, ht⟩ := ih (n / 10) (by omega) (strOfNums [(wrap64 (48 + (Int.tmod (n : Int) 10))) % 256] ++ s) (by rw [ByteArray.size_append, h1]; omega)
      refine ⟨t, st_laws_markText_l0 (ev_pos (by omega) (ev_bindc rfl (ev_pos (by rw [h1]; omega) ?_)))⟩
      rw [show wrap64 (Int.tdiv (n : Int) 10) = ((n / 10 : Nat) : Int) by rw [Int.tdiv_eq_ediv_of_nonneg (by omega), w64 (by omega) (by omega)]; omega]
      exact ht
theorem marktext_ev (c : Int) (h0 : 0 ≤ c) (h1 : c ≤ 2305843009213693952) : ∃ t, Ev (fun k => laws_markText.f k c) t := by
  unfold laws_markText.f
  by_cases h : c ≤ 0
  · exact ⟨_, ev_pos h (ev_some rfl)⟩
  · obtain ⟨t, ht⟩ := marktext_loop c.toNat (⟨#[]⟩ : ByteArray) (by simp [ByteArray.size]; omega)
    refine ⟨t, ev_neg h ?_⟩
    rw [Int.toNat_of_nonneg h0] at ht
    exact ht
def MarkStringS (x : ByteArray) (c d : Int) : Prop := Ev (fun k => laws_markText.f k c) x ∧ d = c + 1
theorem markStringS_ev (xs : List ByteArray) (hl : xs.length ≤ 1048576) (c : Int) (hc0 : 0 ≤ c) (hc1 : c ≤ 1152921504606846976) :
    ∃ ys d, Chain MarkStringS ys c d ∧ c ≤ d ∧ d ≤ c + 1 * xs.length ∧ ys.length = xs.length ∧ Ev (fun k => laws_markStringS.f k xs c) (d, ys) := by
  refine ev_mark (fun k zs c i => laws_markStringS.l0 k zs c (i : Int)) MarkStringS (fun _ => True) 1 (by omega) (by omega) ?_ ?_ xs (fun _ _ => trivial) hl c hc0 hc1
  · intro zs c
    exact st_laws_markStringS_l0 (ev_neg (by omega) (ev_some rfl))
  · intro zs c i hi h20 _ h0 h1
    obtain ⟨t, ht⟩ := marktext_ev c h0 h1
    refine ⟨t, _, ⟨ht, rfl⟩, by omega, by omega, fun r hr => st_laws_markStringS_l0 (ev_pos (by omega) (Ev.bind ht (ev_pos (by omega) ?_)))⟩
    simp only [Int.toNat_natCast, w64s i (by omega), w64 (n := c + 1) (by omega) (by omega)]
    exact hr
theorem rdset_part {xs : List S80} {i : Nat} (h : i < xs.length) (v : S80) : rd_T80 (xs.set i v) (i : Int) = v := by
  unfold rd_T80
  rw [getD_get (by simpa using h), List.getElem_set_self]
theorem rdset_ent {xs : List S77} {i : Nat} (h : i < xs.length) (v : S77) : rd_T77 (xs.set i v) (i : Int) = v := by
  unfold rd_T77
  rw [getD_get (by simpa using h), List.getElem_set_self]
theorem markPartS_ev (xs : List S80) (hl : xs.length ≤ 1048576) (c0 : Int) (h0 : 0 ≤ c0) (h1 : c0 ≤ 1152921504606846976) : ∃ ys d, c0 ≤ d ∧ d ≤ c0 + 3 * xs.length ∧ Ev (fun k => laws_markPartS.f k xs c0) (d, ys) := by
  obtain ⟨ys, d, _, g0, g1, _, g⟩ := ev_mark (fun k zs c i => laws_markPartS.l0 k zs c (i : Int)) (fun _ _ _ => True) (fun _ => True) 3 (by omega) (by omega) (fun zs c => st_laws_markPartS_l0 (ev_neg (by omega) (ev_some rfl))) (by
    intro zs c i hi h20 _ h0 h1
    obtain ⟨s1, hs1⟩ := marktext_ev c (by omega) (by omega)
    have e1 : wrap64 (c + 1) = c + 1 := w64 (by omega) (by omega)
    have e2 : wrap64 (c + 1 + 1) = c + 2 := by rw [show c + 1 + 1 = c + 2 by omega]; exact w64 (by omega) (by omega)
    have e3 : wrap64 (c + 2 + 1) = c + 3 := by rw [show c + 2 + 1 = c + 3 by omega]; exact w64 (by omega) (by omega)
    refine ⟨⟨s1, c + 1, c + 2⟩, c + 3, trivial, by omega, by omega, fun r hr => st_laws_markPartS_l0 (ev_pos (by omega) (Ev.bind hs1 (ev_pos (by omega) (ev_bindc rfl (ev_bindc rfl ?_)))))⟩
    simp only [e1, e2, e3, Int.toNat_natCast, rdset_part hi, List.set_set, w64s i (by omega)]
    exact hr) xs (fun _ _ => trivial) hl c0 h0 h1
  exact ⟨ys, d, g0, g1, g⟩
theorem markEntityS_ev (l : List S77) (hx : l.length ≤ 1048576 ∧ ∀ y ∈ l, Fit77 y) (c0 : Int) (hc0 : 0 ≤ c0) (hc1 : c0 ≤ 2097152) : ∃ p, Ev (fun k => laws_markEntityS.f k l c0) p ∧ 0 ≤ p.1 ∧ p.1 ≤ 4503599627370496 := by
  refine ev_for l.length (fun k i (s : List S77 × Int) => laws_markEntityS.l0 k s.1 s.2 (i : Int)) (fun i s => s.1.length = l.length ∧ (∀ j, i ≤ j → j < l.length → s.1[j]? = l[j]?) ∧ 0 ≤ s.2 ∧ s.2 ≤ c0 + 4194304 * (i : Int)) (fun p => 0 ≤ p.1 ∧ p.1 ≤ 4503599627370496) ?_ ?_ 0 (l, c0) (Nat.zero_le _) ⟨rfl, fun _ _ _ => rfl, hc0, by show c0 ≤ _; omega⟩
  · rintro ⟨zs, c⟩ ⟨h1, _, h3, h4⟩
    have h4 : c ≤ c0 + 4194304 * (l.length : Int) := h4
    have hl := hx.1
    exact ⟨_, st_laws_markEntityS_l0 (ev_neg (by show ¬ (l.length : Int) < (zs.length : Int); have : zs.length = l.length := h1; omega) (ev_some rfl)), h3, by show c ≤ _; omega⟩
  · rintro i ⟨zs, c⟩ hi ⟨h1, h2, h3, h4⟩
    have h1 : zs.length = l.length := h1
    have h3 : 0 ≤ c := h3
    have h4 : c ≤ c0 + 4194304 * (i : Int) := h4
    have hl := hx.1
    have hz : rd_T77 zs (i : Int) = l[i] := by
      have e : rd_T77 zs (i : Int) = zs[i] := getD_get (by omega)
      have h5 := h2 i (Nat.le_refl _) hi
      rw [List.getElem?_eq_getElem (by omega), List.getElem?_eq_getElem hi] at h5
      rw [e]; exact Option.some.inj h5
    have f1 : l[i].f1.length ≤ 1048576 := (hx.2 _ (List.getElem_mem hi)).1
    obtain ⟨ys2, d2, q2, q3, q4⟩ := markPartS_ev l[i].f1 f1 (c + 1) (by omega) (by omega)
    refine .inr ⟨((zs.set ((i : Int)).toNat ⟨c, l[i].f1⟩).set ((i : Int)).toNat ⟨c, ys2⟩, d2), ⟨by simp; exact h1, fun j hj hj2 => ?_, by show 0 ≤ d2; omega, by show d2 ≤ _; omega⟩, fun r hr => ?_⟩
    · have hj' : i ≠ j := by omega
      simp only [Int.toNat_natCast]
      rw [List.getElem?_set_ne hj', List.getElem?_set_ne hj']
      exact h2 j (by omega) hj2
    · refine st_laws_markEntityS_l0 (ev_pos (by omega) (ev_pos (by omega) (ev_bindc rfl ?_)))
      have ew : wrap64 (c + 1) = c + 1 := w64 (by omega) (by omega)
      have hi' : i < zs.length := by omega
      simp only [Int.toNat_natCast, rdset_ent hi', hz, ew]
      refine Ev.bind q4 ?_
      simp only [Int.toNat_natCast, w64s i (by omega)] at hr ⊢
      exact hr
theorem FnExactQueryWorld : ∀ (a0_0 : Int) (a0_1 : Int) (l0_2 : List (S91)) (l1_0 : List (ByteArray)) (l1_1 : List (ByteArray)) (a1_2 : Int), (In64 a0_0) → (In64 a0_1) → (l0_2.length * 32 ≤ 140737488351232 ∧ ∀ y ∈ l0_2, Ok91 y) → (l1_0.length * 16 ≤ 140737488351232 ∧ ∀ y ∈ l1_0, y.size ≤ 140737488351232) → (l1_1.length * 16 ≤ 140737488351232 ∧ ∀ y ∈ l1_1, y.size ≤ 140737488351232) → (In64 a1_2) → ∃ k, laws_FnExactQueryWorld.f k a0_0 a0_1 l0_2 l1_0 l1_1 a1_2 = some true := by
  intro n t xs w wo since gn gt gx gw gwo gs
  refine Ev.rounds (g := fun k => laws_FnExactQueryWorld.f k n t xs w wo since) ?_
  obtain ⟨r, hr, h | ⟨h0, h1, hx⟩⟩ := szWorld_some n t xs gn gt gx 1048576 (by omega) (by omega)
  · exact Ev.bind hr (ev_pos h (ev_some rfl))
  obtain ⟨r2, hr2, h | ⟨h2, h3, hw, hwo⟩⟩ := szQuery_some w wo since gw gwo gs r h0 h1
  · exact Ev.bind hr (ev_neg (by omega) (Ev.bind hr2 (ev_pos h (ev_some rfl))))
  have tx := toWorld_ev n t xs hx
  have tq := toQuery_ev w wo since hw hwo
  have hx' : (xs.map cv91).length ≤ 1048576 ∧ ∀ y ∈ xs.map cv91, Fit77 y := ⟨by rw [List.length_map]; exact hx.1, fun y hy => by obtain ⟨z, hz, rfl⟩ := List.mem_map.1 hy; exact fit_cv91 (hx.2 z hz)⟩
  obtain ⟨res, b, hs, hi, hl⟩ := query_same n t (xs.map cv91) hx' w wo hw hwo since
  have ee := eqIntS_ev res (by omega)
  have ex := eqWorld_ev n t (xs.map cv91) hx'
  have eq := eqQuery_ev w wo since hw hwo
  obtain ⟨p, hm1, hp0, hp1⟩ := markEntityS_ev (xs.map cv91) hx' 1 (by omega) (by omega)
  obtain ⟨y3, d3, _, q30, q31, _, hm3⟩ := markStringS_ev w hw.1 p.1 (by omega) (by omega)
  have hw1 := hw.1
  have hwo1 := hwo.1
  obtain ⟨y4, d4, _, q40, q41, _, hm4⟩ := markStringS_ev wo hwo.1 d3 (by omega) (by omega)
  obtain ⟨y2, d2, hch, q0, q1, ml, hm2⟩ := markIntS_ev res (by omega) 1 (by omega) (by omega)
  have hh := heldIntS_ev y2 (by omega) 1 d2 (by omega) (by omega) hch
  have eb : (b != b) = false := by simp
  refine Ev.bind hr (ev_neg (by omega) (Ev.bind hr2 (ev_neg (by omega) (Ev.bind tx (Ev.bind tq (Ev.bind hs (Ev.bind tx (Ev.bind tq (Ev.bind hi (Ev.bind ee (ev_pos rfl ?_)))))))))))
  simp only [eb]
  refine st_laws_FnExactQueryWorld_j0 (ev_neg (by decide) (Ev.bind tx (Ev.bind ex (ev_pos rfl (Ev.bind tq (Ev.bind eq (ev_pos rfl (Ev.bind (Ev.bind hm1 (ev_some rfl)) (Ev.bind (Ev.bind hm3 (Ev.bind hm4 (ev_some rfl))) (ev_neg (by show ¬ d4 < 0; omega) (Ev.bind ee (ev_pos rfl ?_))))))))))))
  simp only [eb]
  refine st_laws_FnExactQueryWorld_j1 (ev_neg (by decide) (Ev.bind hm2 (Ev.bind hh (ev_neg (by omega) (ev_pos rfl (Ev.bind tx (Ev.bind tq (Ev.bind hi (Ev.bind ee (ev_pos rfl ?_))))))))))
  simp only [eb]
  exact st_laws_FnExactQueryWorld_j2 (ev_neg (by decide) (Ev.bind hh (ev_neg (by omega) (ev_pos rfl (ev_some rfl)))))
end Go.Proofs.Ytcpodjegdpbalaa.Pure
