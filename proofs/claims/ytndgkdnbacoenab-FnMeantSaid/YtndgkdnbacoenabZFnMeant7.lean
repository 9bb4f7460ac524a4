/- Texts of a row. -/
import Derived.Test.YtndgkdnbacoenabZFnMeant6
namespace Go.Proofs.Ytndgkdnbacoenab.Pure
open Go.RowKit Go.Proofs.Ytndgkdnbacoenab.PFnMeant Go.Proofs.Ytndgkdnbacoenab.OFnMeant Go.Proofs.YtndgkdnbacoenabW.PrintWords Go.Proofs.YtndgkdnbacoenabW.PrintLast Go.Proofs.YtndgkdnbacoenabW.PrintMore Go.Proofs.YtndgkdnbacoenabO
set_option linter.unusedVariables false
set_option linter.unusedSimpArgs false
theorem st_spec_GoodName_j0 {r : (Bool)} {x0 : ByteArray} {x16 : Bool} (h : Ev (fun k => if x16 = true then (some false) else (spec_GoodName.l0 k x0 0)) r) : Ev (fun k => spec_GoodName.j0 k x0 x16) r := Ev.step (fun k => by rw [spec_GoodName.j0]) h
theorem st_spec_GoodName_l0 {r : (Bool)} {x0 : ByteArray} {x3 : Int} (h : Ev (fun k => if x3 < (x0.size : Int) then (if 0 ≤ x3 then ((spec_l1Letter.f (bt x0 x3)).bind fun t109 => (if t109 = true then (spec_GoodName.l0 k x0 (wrap64 (x3 + 1))) else ((spec_l1Digit.f (bt x0 x3)).bind fun t110 => (if t110 = true then (spec_GoodName.l0 k x0 (wrap64 (x3 + 1))) else (some false))))) else (none)) else (some true)) r) : Ev (fun k => spec_GoodName.l0 k x0 x3) r := Ev.step (fun k => by rw [spec_GoodName.l0]) h
theorem st_spec_l17Events_l0 {r : (Bool)} {x0 : List (S47)} {x8 : List (S47)} {x9 : Int} {x10 : Int} (h : Ev (fun k => if x10 < x9 then (if 0 ≤ x10 then (if x10 < (x8.length : Int) then ((spec_l1In.f ((rd_T47 x8 x10).f0) 0 100000).bind fun t358 => (if t358 = true then ((spec_l1In.f ((rd_T47 x8 x10).f1) 0 99).bind fun t359 => (if t359 = true then (if x10 > 0 then (if 0 ≤ (wrap64 (x10 - 1)) then (if (wrap64 (x10 - 1)) < (x0.length : Int) then (if ((rd_T47 x0 (wrap64 (x10 - 1))).f0) > ((rd_T47 x8 x10).f0) then (some false) else (spec_l17Events.l0 k x0 x8 x9 (wrap64 (x10 + 1)))) else (none)) else (none)) else (spec_l17Events.l0 k x0 x8 x9 (wrap64 (x10 + 1)))) else (some false))) else (some false))) else (none)) else (none)) else (some true)) r) : Ev (fun k => spec_l17Events.l0 k x0 x8 x9 x10) r := Ev.step (fun k => by rw [spec_l17Events.l0]) h
theorem st_spec_l17Press_l0 {r : (List Int)} {x5 : List Int} {x14 : List Int} {x15 : Int} {x16 : Int} {x362000 : Int} {x362001 : Int} {x362002 : Bool} (h : Ev (fun k => if x16 < x15 then (if 0 ≤ x16 then (if x16 < (x14.length : Int) then (if (rd x14 x16) = x362001 then (spec_l17Press.l0 k x5 x14 x15 (wrap64 (x16 + 1)) x362000 x362001 x362002) else (if x5.length < 17592186044416 then (spec_l17Press.l0 k (x5 ++ [rd x14 x16]) x14 x15 (wrap64 (x16 + 1)) x362000 x362001 x362002) else (none))) else (none)) else (none)) else (some x5)) r) : Ev (fun k => spec_l17Press.l0 k x5 x14 x15 x16 x362000 x362001 x362002) r := Ev.step (fun k => by rw [spec_l17Press.l0]) h
theorem st_spec_l14In_l0 {r : (Bool)} {x1 : Int} {x7 : List Int} {x8 : Int} {x9 : Int} (h : Ev (fun k => if x9 < x8 then (if 0 ≤ x9 then (if x9 < (x7.length : Int) then (if (rd x7 x9) = x1 then (some true) else (spec_l14In.l0 k x1 x7 x8 (wrap64 (x9 + 1)))) else (none)) else (none)) else (some false)) r) : Ev (fun k => spec_l14In.l0 k x1 x7 x8 x9) r := Ev.step (fun k => by rw [spec_l14In.l0]) h
theorem st_spec_l17All_l0 {r : (Bool)} {x1 : List Int} {x7 : List Int} {x8 : Int} {x9 : Int} (h : Ev (fun k => if x9 < x8 then (if 0 ≤ x9 then (if x9 < (x7.length : Int) then ((spec_l14In.f k x1 (rd x7 x9)).bind fun t371 => (if t371 = true then (spec_l17All.l0 k x1 x7 x8 (wrap64 (x9 + 1))) else (some false))) else (none)) else (none)) else (some true)) r) : Ev (fun k => spec_l17All.l0 k x1 x7 x8 x9) r := Ev.step (fun k => by rw [spec_l17All.l0]) h
theorem st_spec_l17Holds_l0 {r : (List Bool)} {x0 : List (S50)} {x1 : List Int} {x5 : List Bool} {x13 : List (S50)} {x14 : Int} {x15 : Int} (h : Ev (fun k => if x15 < x14 then (if 0 ≤ x15 then (if x15 < (x13.length : Int) then ((spec_l17All.f k ((rd_T50 x13 x15).f1) x1).bind fun t377 => (if x15 < (x5.length : Int) then (spec_l17Holds.l1 k x0 x1 (x5.set (x15 : Int).toNat t377) x15 x13 x14 x15 x0 (x0.length : Int) 0 ((rd_T50 x13 x15).f0) ((rd_T50 x13 x15).f1)) else (none))) else (none)) else (none)) else (some x5)) r) : Ev (fun k => spec_l17Holds.l0 k x0 x1 x5 x13 x14 x15) r := Ev.step (fun k => by rw [spec_l17Holds.l0]) h
theorem st_spec_l17Holds_l1 {r : (List Bool)} {x0 : List (S50)} {x1 : List Int} {x5 : List Bool} {x6 : Int} {x13 : List (S50)} {x14 : Int} {x15 : Int} {x27 : List (S50)} {x28 : Int} {x29 : Int} {x377000 : ByteArray} {x377001 : List Int} (h : Ev (fun k => if x29 < x28 then (if 0 ≤ x29 then (if x29 < (x27.length : Int) then (if (((rd_T50 x27 x29).f1).length : Int) > (x377001.length : Int) then ((spec_l17All.f k ((rd_T50 x27 x29).f1) x1).bind fun t381 => (if t381 = true then ((spec_l17All.f k x377001 ((rd_T50 x27 x29).f1)).bind fun t382 => (if t382 = true then (if 0 ≤ x6 then (if x6 < (x5.length : Int) then (spec_l17Holds.l1 k x0 x1 (x5.set (x6 : Int).toNat false) x6 x13 x14 x15 x27 x28 (wrap64 (x29 + 1)) x377000 x377001) else (none)) else (none)) else (spec_l17Holds.l1 k x0 x1 x5 x6 x13 x14 x15 x27 x28 (wrap64 (x29 + 1)) x377000 x377001))) else (spec_l17Holds.l1 k x0 x1 x5 x6 x13 x14 x15 x27 x28 (wrap64 (x29 + 1)) x377000 x377001))) else (spec_l17Holds.l1 k x0 x1 x5 x6 x13 x14 x15 x27 x28 (wrap64 (x29 + 1)) x377000 x377001)) else (none)) else (none)) else (spec_l17Holds.l0 k x0 x1 x5 x13 x14 (wrap64 (x15 + 1)))) r) : Ev (fun k => spec_l17Holds.l1 k x0 x1 x5 x6 x13 x14 x15 x27 x28 x29 x377000 x377001) r := Ev.step (fun k => by rw [spec_l17Holds.l1]) h
theorem st_spec_MeantBy_j0 {r : ((List (S31)) × Bool)} {x0 : List (S50)} {x1 : List (S47)} {x21 : Bool} (h : Ev (fun k => if x21 = true then (some (([] : List (S31)), false)) else (if 0 ≤ (x0.length : Int) then (if ((x0.length : Int) : Int).toNat ≤ 281474976710656 then (spec_MeantBy.l0 k x0 ([] : List (S31)) ([] : List Int) (List.replicate ((x0.length : Int) : Int).toNat false) x1 (x1.length : Int) 0) else (none)) else (none))) r) : Ev (fun k => spec_MeantBy.j0 k x0 x1 x21) r := Ev.step (fun k => by rw [spec_MeantBy.j0]) h
theorem st_spec_MeantBy_l0 {r : ((List (S31)) × Bool)} {x0 : List (S50)} {x6 : List (S31)} {x7 : List Int} {x8 : List Bool} {x25 : List (S47)} {x26 : Int} {x27 : Int} (h : Ev (fun k => if x27 < x26 then (if 0 ≤ x27 then (if x27 < (x25.length : Int) then ((spec_l17Press.f k x7 ((rd_T47 x25 x27).f0) ((rd_T47 x25 x27).f1) ((rd_T47 x25 x27).f2)).bind fun t391 => ((spec_l17Holds.f k x0 t391).bind fun t394 => (spec_MeantBy.l1 k x0 x6 t391 x8 t394 x25 x26 x27 x0 (x0.length : Int) 0 ((rd_T47 x25 x27).f0) ((rd_T47 x25 x27).f1) ((rd_T47 x25 x27).f2)))) else (none)) else (none)) else (some (x6, true))) r) : Ev (fun k => spec_MeantBy.l0 k x0 x6 x7 x8 x25 x26 x27) r := Ev.step (fun k => by rw [spec_MeantBy.l0]) h
theorem st_spec_MeantBy_l1 {r : ((List (S31)) × Bool)} {x0 : List (S50)} {x6 : List (S31)} {x7 : List Int} {x8 : List Bool} {x11 : List Bool} {x25 : List (S47)} {x26 : Int} {x27 : Int} {x37 : List (S50)} {x38 : Int} {x39 : Int} {x391000 : Int} {x391001 : Int} {x391002 : Bool} (h : Ev (fun k => if x39 < x38 then (if 0 ≤ x39 then (if x39 < (x37.length : Int) then (if x39 < (x11.length : Int) then (if x39 < (x8.length : Int) then (if ((rdOf false x11 x39) != (rdOf false x8 x39)) = true then (if x6.length < 4398046511104 then (spec_MeantBy.l1 k x0 (x6 ++ [(⟨x391000, (rd_T50 x37 x39).f0, rdOf false x11 x39⟩ : S31)]) x7 x8 x11 x25 x26 x27 x37 x38 (wrap64 (x39 + 1)) x391000 x391001 x391002) else (none)) else (spec_MeantBy.l1 k x0 x6 x7 x8 x11 x25 x26 x27 x37 x38 (wrap64 (x39 + 1)) x391000 x391001 x391002)) else (none)) else (none)) else (none)) else (none)) else (spec_MeantBy.l0 k x0 x6 x7 x11 x25 x26 (wrap64 (x27 + 1)))) r) : Ev (fun k => spec_MeantBy.l1 k x0 x6 x7 x8 x11 x25 x26 x27 x37 x38 x39 x391000 x391001 x391002) r := Ev.step (fun k => by rw [spec_MeantBy.l1]) h
theorem st_spec_l17Chord_j0 {r : (Bool)} {x0 : List Int} {x12 : Bool} (h : Ev (fun k => if x12 = true then (some false) else (spec_l17Chord.l0 k x0 x0 (x0.length : Int) 0)) r) : Ev (fun k => spec_l17Chord.j0 k x0 x12) r := Ev.step (fun k => by rw [spec_l17Chord.j0]) h
theorem st_spec_l17Chord_l0 {r : (Bool)} {x0 : List Int} {x13 : List Int} {x14 : Int} {x15 : Int} (h : Ev (fun k => if x15 < x14 then (if 0 ≤ x15 then (if x15 < (x13.length : Int) then ((spec_l1In.f (rd x13 x15) 0 99).bind fun t112 => (if t112 = true then (if x15 > 0 then (if 0 ≤ (wrap64 (x15 - 1)) then (if (wrap64 (x15 - 1)) < (x0.length : Int) then (if (rd x0 (wrap64 (x15 - 1))) ≥ (rd x13 x15) then (some false) else (spec_l17Chord.l0 k x0 x13 x14 (wrap64 (x15 + 1)))) else (none)) else (none)) else (spec_l17Chord.l0 k x0 x13 x14 (wrap64 (x15 + 1)))) else (some false))) else (none)) else (none)) else (some true)) r) : Ev (fun k => spec_l17Chord.l0 k x0 x13 x14 x15) r := Ev.step (fun k => by rw [spec_l17Chord.l0]) h
theorem st_spec_l17Same_l0 {r : (Bool)} {x0 : List Int} {x1 : List Int} {x12 : Int} {x13 : Int} (h : Ev (fun k => if x13 < x12 then (if 0 ≤ x13 then (if x13 < (x0.length : Int) then (if x13 < (x1.length : Int) then (if (rd x0 x13) = (rd x1 x13) then (spec_l17Same.l0 k x0 x1 x12 (wrap64 (x13 + 1))) else (some false)) else (none)) else (none)) else (none)) else (some true)) r) : Ev (fun k => spec_l17Same.l0 k x0 x1 x12 x13) r := Ev.step (fun k => by rw [spec_l17Same.l0]) h
theorem st_spec_GoodBinds_l0 {r : (Bool)} {x0 : List (S50)} {x10 : List (S50)} {x11 : Int} {x12 : Int} (h : Ev (fun k => if x12 < x11 then (if 0 ≤ x12 then (if x12 < (x10.length : Int) then ((spec_GoodName.f k ((rd_T50 x10 x12).f0)).bind fun t118 => (if t118 = true then ((spec_l17Chord.f k ((rd_T50 x10 x12).f1)).bind fun t119 => (if t119 = true then (if x12 > 0 then (if 0 ≤ (wrap64 (x12 - 1)) then (if (wrap64 (x12 - 1)) < (x0.length : Int) then (spec_GoodBinds.j1 k x0 x12 x10 x11 x12 (!(Op.bytesLess (((rd_T50 x0 (wrap64 (x12 - 1))).f0).toList) (((rd_T50 x10 x12).f0).toList))) ((rd_T50 x10 x12).f0) ((rd_T50 x10 x12).f1)) else (none)) else (none)) else (spec_GoodBinds.j1 k x0 x12 x10 x11 x12 false ((rd_T50 x10 x12).f0) ((rd_T50 x10 x12).f1))) else (spec_GoodBinds.j1 k x0 x12 x10 x11 x12 true ((rd_T50 x10 x12).f0) ((rd_T50 x10 x12).f1)))) else (spec_GoodBinds.j1 k x0 x12 x10 x11 x12 true ((rd_T50 x10 x12).f0) ((rd_T50 x10 x12).f1)))) else (none)) else (none)) else (some true)) r) : Ev (fun k => spec_GoodBinds.l0 k x0 x10 x11 x12) r := Ev.step (fun k => by rw [spec_GoodBinds.l0]) h
theorem st_spec_GoodBinds_j1 {r : (Bool)} {x0 : List (S50)} {x3 : Int} {x10 : List (S50)} {x11 : Int} {x12 : Int} {x41 : Bool} {x118000 : ByteArray} {x118001 : List Int} (h : Ev (fun k => if x41 = true then (some false) else (if 0 ≤ x3 then (if x3 ≤ (x0.length : Int) then ((some (x0.take (x3 : Int).toNat : List (S50))).bind fun y121 => (spec_GoodBinds.l1 k x0 x10 x11 x12 y121 (y121.length : Int) 0 x118000 x118001)) else (none)) else (none))) r) : Ev (fun k => spec_GoodBinds.j1 k x0 x3 x10 x11 x12 x41 x118000 x118001) r := Ev.step (fun k => by rw [spec_GoodBinds.j1]) h
theorem st_spec_GoodBinds_l1 {r : (Bool)} {x0 : List (S50)} {x10 : List (S50)} {x11 : Int} {x12 : Int} {x44 : List (S50)} {x45 : Int} {x46 : Int} {x118000 : ByteArray} {x118001 : List Int} (h : Ev (fun k => if x46 < x45 then (if 0 ≤ x46 then (if x46 < (x44.length : Int) then ((spec_l17Same.f k ((rd_T50 x44 x46).f1) x118001).bind fun t127 => (if t127 = true then (some false) else (spec_GoodBinds.l1 k x0 x10 x11 x12 x44 x45 (wrap64 (x46 + 1)) x118000 x118001))) else (none)) else (none)) else (spec_GoodBinds.l0 k x0 x10 x11 (wrap64 (x12 + 1)))) r) : Ev (fun k => spec_GoodBinds.l1 k x0 x10 x11 x12 x44 x45 x46 x118000 x118001) r := Ev.step (fun k => by rw [spec_GoodBinds.l1]) h
theorem st_spec_Rebind_j0 {r : ((List (S50)) × ByteArray × Bool)} {x0 : List (S50)} {x1 : ByteArray} {x2 : List Int} {x26 : Bool} (h : Ev (fun k => if x26 = true then (some (([] : List (S50)), (⟨#[]⟩ : ByteArray), false)) else (spec_Rebind.l0 k x1 x2 (⟨#[]⟩ : ByteArray) ([] : List (S50)) false x0 (x0.length : Int) 0)) r) : Ev (fun k => spec_Rebind.j0 k x0 x1 x2 x26) r := Ev.step (fun k => by rw [spec_Rebind.j0]) h
theorem st_spec_Rebind_l0 {r : ((List (S50)) × ByteArray × Bool)} {x1 : ByteArray} {x2 : List Int} {x9 : ByteArray} {x10 : List (S50)} {x11 : Bool} {x27 : List (S50)} {x28 : Int} {x29 : Int} (h : Ev (fun k => if x29 < x28 then (if 0 ≤ x29 then (if x29 < (x27.length : Int) then (if x11 = true then (spec_Rebind.j2 k x1 x2 x9 x10 x11 x27 x28 x29 false ((rd_T50 x27 x29).f0) ((rd_T50 x27 x29).f1)) else (spec_Rebind.j2 k x1 x2 x9 x10 x11 x27 x28 x29 (!(Op.bytesLess (((rd_T50 x27 x29).f0).toList) x1.toList)) ((rd_T50 x27 x29).f0) ((rd_T50 x27 x29).f1))) else (none)) else (none)) else (if x11 = true then ((spec_GoodBinds.f k x10).bind fun t152 => (if t152 = true then (some (x10, x9, true)) else (some (([] : List (S50)), (⟨#[]⟩ : ByteArray), false)))) else ((some (([] : List Int) : List Int)).bind fun y153 => (if y153.length + x2.length < 17592186044416 then (if x10.length < 3518437208883 then ((some (x10 ++ [(⟨x1, (y153 ++ x2)⟩ : S50)] : List (S50))).bind fun y159 => ((spec_GoodBinds.f k y159).bind fun t162 => (if t162 = true then (some (y159, x9, true)) else (some (([] : List (S50)), (⟨#[]⟩ : ByteArray), false))))) else (none)) else (none))))) r) : Ev (fun k => spec_Rebind.l0 k x1 x2 x9 x10 x11 x27 x28 x29) r := Ev.step (fun k => by rw [spec_Rebind.l0]) h
theorem st_spec_Rebind_j2 {r : ((List (S50)) × ByteArray × Bool)} {x1 : ByteArray} {x2 : List Int} {x9 : ByteArray} {x10 : List (S50)} {x11 : Bool} {x27 : List (S50)} {x28 : Int} {x29 : Int} {x40 : Bool} {x133000 : ByteArray} {x133001 : List Int} (h : Ev (fun k => if x40 = true then ((some (([] : List Int) : List Int)).bind fun y133 => (if y133.length + x2.length < 17592186044416 then (if x10.length < 3518437208883 then (spec_Rebind.j3 k x1 x2 x9 (x10 ++ [(⟨x1, (y133 ++ x2)⟩ : S50)]) true x27 x28 x29 x133000 x133001) else (none)) else (none))) else (spec_Rebind.j3 k x1 x2 x9 x10 x11 x27 x28 x29 x133000 x133001)) r) : Ev (fun k => spec_Rebind.j2 k x1 x2 x9 x10 x11 x27 x28 x29 x40 x133000 x133001) r := Ev.step (fun k => by rw [spec_Rebind.j2]) h
theorem st_spec_Rebind_j3 {r : ((List (S50)) × ByteArray × Bool)} {x1 : ByteArray} {x2 : List Int} {x9 : ByteArray} {x10 : List (S50)} {x11 : Bool} {x27 : List (S50)} {x28 : Int} {x29 : Int} {x133000 : ByteArray} {x133001 : List Int} (h : Ev (fun k => if x133000.toList = x1.toList then (spec_Rebind.l0 k x1 x2 x9 x10 x11 x27 x28 (wrap64 (x29 + 1))) else ((spec_l17Same.f k x133001 x2).bind fun t142 => (if t142 = true then (spec_Rebind.l0 k x1 x2 x133000 x10 x11 x27 x28 (wrap64 (x29 + 1))) else ((some (([] : List Int) : List Int)).bind fun y143 => (if y143.length + x133001.length < 17592186044416 then (if x10.length < 3518437208883 then (spec_Rebind.l0 k x1 x2 x9 (x10 ++ [(⟨x133000, (y143 ++ x133001)⟩ : S50)]) x11 x27 x28 (wrap64 (x29 + 1))) else (none)) else (none)))))) r) : Ev (fun k => spec_Rebind.j3 k x1 x2 x9 x10 x11 x27 x28 x29 x133000 x133001) r := Ev.step (fun k => by rw [spec_Rebind.j3]) h
theorem st_spec_l1Put_l0 {r : (List Int)} {x0 : List Int} {x1 : Int} {x5 : Int} (h : Ev (fun k => if x5 < (x0.length : Int) then (if 0 ≤ x5 then (if (rd x0 x5) < x1 then (spec_l1Put.l0 k x0 x1 (wrap64 (x5 + 1))) else (if (rd x0 x5) = x1 then (some x0) else (if x5 ≤ (x0.length : Int) then ((some (x0.take (x5 : Int).toNat : List Int)).bind fun y182 => (if ([] : List Int).length + y182.length < 17592186044416 then ((some (([] : List Int) ++ y182 : List Int)).bind fun y186 => (if y186.length < 17592186044416 then ((some (y186 ++ [x1] : List Int)).bind fun y189 => ((some (x0.drop (x5 : Int).toNat : List Int)).bind fun y192 => (if y189.length + y192.length < 17592186044416 then (some (y189 ++ y192)) else (none)))) else (none))) else (none))) else (none)))) else (none)) else (if 0 ≤ x5 then (if x5 ≤ (x0.length : Int) then ((some (x0.take (x5 : Int).toNat : List Int)).bind fun y199 => (if ([] : List Int).length + y199.length < 17592186044416 then ((some (([] : List Int) ++ y199 : List Int)).bind fun y203 => (if y203.length < 17592186044416 then ((some (y203 ++ [x1] : List Int)).bind fun y206 => ((some (x0.drop (x5 : Int).toNat : List Int)).bind fun y209 => (if y206.length + y209.length < 17592186044416 then (some (y206 ++ y209)) else (none)))) else (none))) else (none))) else (none)) else (none))) r) : Ev (fun k => spec_l1Put.l0 k x0 x1 x5) r := Ev.step (fun k => by rw [spec_l1Put.l0]) h
theorem st_spec_l1Cur_chord_l0 {r : (List Int × Int × Int)} {x3 : List Int} {x4 : Int} {x1000 : List Int} {x1001 : Int} {x1002 : Int} (h : Ev (fun k => if x4 > 0 then ((spec_l1Cur_pick.f x1000 x1001 x1002 5).bind fun bt219 => ((spec_l1Put.f k x3 bt219.1).bind fun t222 => (spec_l1Cur_chord.l0 k t222 (wrap64 (x4 - 1)) x1000 bt219.2.1 bt219.2.2))) else ((spec_l1Cur_one.f x1000 x1001 x1002 40).bind fun bt225 => (if bt225.1 = true then ((spec_l1Cur_among.f x1000 bt225.2.1 bt225.2.2 (([(-1), 99, 100, 2] : List Int))).bind fun bt231 => (if x3.length < 17592186044416 then (some ((x3 ++ [bt231.1]), bt231.2.1, bt231.2.2)) else (none))) else (some (x3, bt225.2.1, bt225.2.2))))) r) : Ev (fun k => spec_l1Cur_chord.l0 k x3 x4 x1000 x1001 x1002) r := Ev.step (fun k => by rw [spec_l1Cur_chord.l0]) h
theorem st_spec_l1Cur_binds_l0 {r : ((List (S50)) × Int × Int)} {x3 : List (S50)} {x4 : Int} {x1000 : List Int} {x1001 : Int} {x1002 : Int} (h : Ev (fun k => if x4 > 0 then ((spec_l1Cur_actName.f x1000 x1001 x1002).bind fun bt240 => ((spec_l1Cur_chord.f k x1000 bt240.2.1 bt240.2.2).bind fun bt243 => ((spec_Rebind.f k x3 bt240.1 bt243.1).bind fun bt248 => (if bt248.2.2 = true then (spec_l1Cur_binds.l0 k bt248.1 (wrap64 (x4 - 1)) x1000 bt243.2.1 bt243.2.2) else (spec_l1Cur_binds.l0 k x3 (wrap64 (x4 - 1)) x1000 bt243.2.1 bt243.2.2))))) else ((spec_l1Cur_one.f x1000 x1001 x1002 30).bind fun bt253 => (if bt253.1 = true then ((spec_l1Cur_of.f x1000 bt253.2.1 bt253.2.2 (([(⟨#[]⟩ : ByteArray), (⟨#[122, 122]⟩ : ByteArray), (⟨#[97]⟩ : ByteArray)] : List ByteArray))).bind fun bt259 => ((spec_l1Cur_chord.f k x1000 bt259.2.1 bt259.2.2).bind fun bt262 => (if x3.length < 3518437208883 then (some ((x3 ++ [(⟨bt259.1, bt262.1⟩ : S50)]), bt262.2.1, bt262.2.2)) else (none)))) else (some (x3, bt253.2.1, bt253.2.2))))) r) : Ev (fun k => spec_l1Cur_binds.l0 k x3 x4 x1000 x1001 x1002) r := Ev.step (fun k => by rw [spec_l1Cur_binds.l0]) h
theorem st_spec_l1Cur_presses_j0 {r : ((List (S47)) × Int × Int)} {x3 : List (S47)} {x4 : Int} {x1000 : List Int} {x1001 : Int} {x1002 : Int} (h : Ev (fun k => spec_l1Cur_presses.l0 k x3 x4 0 x1000 x1001 x1002) r) : Ev (fun k => spec_l1Cur_presses.j0 k x3 x4 x1000 x1001 x1002) r := Ev.step (fun k => by rw [spec_l1Cur_presses.j0]) h
theorem st_spec_l1Cur_presses_l0 {r : ((List (S47)) × Int × Int)} {x3 : List (S47)} {x4 : Int} {x5 : Int} {x1000 : List Int} {x1001 : Int} {x1002 : Int} (h : Ev (fun k => if x4 > 0 then ((spec_l1Cur_pick.f x1000 x1001 x1002 3).bind fun bt279 => ((spec_l1Cur_pick.f x1000 bt279.2.1 bt279.2.2 5).bind fun bt282 => ((spec_l1Cur_one.f x1000 bt282.2.1 bt282.2.2 3).bind fun bt285 => (if x3.length < 5864062014805 then (spec_l1Cur_presses.l0 k (x3 ++ [(⟨wrap64 (x5 + bt279.1), bt282.1, !bt285.1⟩ : S47)]) (wrap64 (x4 - 1)) (wrap64 (x5 + bt279.1)) x1000 bt285.2.1 bt285.2.2) else (none))))) else ((spec_l1Cur_one.f x1000 x1001 x1002 40).bind fun bt291 => (if bt291.1 = true then ((spec_l1Cur_among.f x1000 bt291.2.1 bt291.2.2 (([(-1), 0, 100000, 100001] : List Int))).bind fun bt297 => ((spec_l1Cur_among.f x1000 bt297.2.1 bt297.2.2 (([0, 99, 100, (-1)] : List Int))).bind fun bt303 => (if x3.length < 5864062014805 then (some ((x3 ++ [(⟨bt297.1, bt303.1, false⟩ : S47)]), bt303.2.1, bt303.2.2)) else (none)))) else (some (x3, bt291.2.1, bt291.2.2))))) r) : Ev (fun k => spec_l1Cur_presses.l0 k x3 x4 x5 x1000 x1001 x1002) r := Ev.step (fun k => by rw [spec_l1Cur_presses.l0]) h
theorem st_impl_GoodName_l0 {r : (Bool)} {x0 : ByteArray} {x5 : Int} {x6 : Int} (h : Ev (fun k => if x6 < x5 then (if 0 ≤ x6 then (if x6 < (x0.size : Int) then ((impl_isLetter.f (bt x0 x6)).bind fun t321 => (if t321 = true then (impl_GoodName.l0 k x0 x5 (wrap64 (x6 + 1))) else (if (bt x0 x6) = 95 then (impl_GoodName.l0 k x0 x5 (wrap64 (x6 + 1))) else (if x6 = 0 then (some false) else ((impl_isDigit.f (bt x0 x6)).bind fun t322 => (if t322 = true then (impl_GoodName.l0 k x0 x5 (wrap64 (x6 + 1))) else (some false))))))) else (none)) else (none)) else ((impl_inRange.f (x0.size : Int) 1 20).bind fun t320 => (some t320))) r) : Ev (fun k => impl_GoodName.l0 k x0 x5 x6) r := Ev.step (fun k => by rw [impl_GoodName.l0]) h
theorem st_impl_isChord_l0 {r : (Bool)} {x0 : List Int} {x5 : List Int} {x6 : Int} {x7 : Int} (h : Ev (fun k => if x7 < x6 then (if 0 ≤ x7 then (if x7 < (x5.length : Int) then ((impl_isKey.f (rd x5 x7)).bind fun t325 => (if t325 = true then (if x7 > 0 then (if 0 ≤ (wrap64 (x7 - 1)) then (if (wrap64 (x7 - 1)) < (x0.length : Int) then (if (rd x0 (wrap64 (x7 - 1))) ≥ (rd x5 x7) then (some false) else (impl_isChord.l0 k x0 x5 x6 (wrap64 (x7 + 1)))) else (none)) else (none)) else (impl_isChord.l0 k x0 x5 x6 (wrap64 (x7 + 1)))) else (some false))) else (none)) else (none)) else ((impl_inRange.f (x0.length : Int) 1 4).bind fun t327 => (some t327))) r) : Ev (fun k => impl_isChord.l0 k x0 x5 x6 x7) r := Ev.step (fun k => by rw [impl_isChord.l0]) h
theorem st_slices_Equal_int_int_l0 {r : (Bool)} {x0 : List Int} {x1 : List Int} {x12 : Int} {x13 : Int} (h : Ev (fun k => if x13 < x12 then (if 0 ≤ x13 then (if x13 < (x0.length : Int) then (if x13 < (x1.length : Int) then (if (rd x0 x13) = (rd x1 x13) then (slices_Equal_int_int.l0 k x0 x1 x12 (wrap64 (x13 + 1))) else (some false)) else (none)) else (none)) else (none)) else (some true)) r) : Ev (fun k => slices_Equal_int_int.l0 k x0 x1 x12 x13) r := Ev.step (fun k => by rw [slices_Equal_int_int.l0]) h
theorem st_slices_IndexFunc_w45_l0 {r : (Int)} {x0 : List (S50)} {x7 : Int} {x8 : Int} {x29000 : List Int} (h : Ev (fun k => if x8 < x7 then (if 0 ≤ x8 then (if x8 < (x0.length : Int) then ((impl_chordPlace_1.f k ((rd_T50 x0 x8).f0) ((rd_T50 x0 x8).f1) x29000).bind fun t333 => (if t333 = true then (some x8) else (slices_IndexFunc_w45.l0 k x0 x7 (wrap64 (x8 + 1)) x29000))) else (none)) else (none)) else (some (-1))) r) : Ev (fun k => slices_IndexFunc_w45.l0 k x0 x7 x8 x29000) r := Ev.step (fun k => by rw [slices_IndexFunc_w45.l0]) h
theorem st_impl_GoodBinds_l0 {r : (Bool)} {x0 : List (S50)} {x5 : List (S50)} {x6 : Int} {x7 : Int} (h : Ev (fun k => if x7 < x6 then (if 0 ≤ x7 then (if x7 < (x5.length : Int) then ((impl_GoodName.f k ((rd_T50 x5 x7).f0)).bind fun t338 => (if t338 = true then (if x7 > 0 then (if 0 ≤ (wrap64 (x7 - 1)) then (if (wrap64 (x7 - 1)) < (x0.length : Int) then (if ((Op.bytesLess (((rd_T50 x0 (wrap64 (x7 - 1))).f0).toList) (((rd_T50 x5 x7).f0).toList)) = true) then ((impl_isChord.f k ((rd_T50 x5 x7).f1)).bind fun t340 => (if t340 = true then ((impl_chordPlace.f k x0 ((rd_T50 x5 x7).f1)).bind fun t341 => (if t341 = x7 then (impl_GoodBinds.l0 k x0 x5 x6 (wrap64 (x7 + 1))) else (some false))) else (some false))) else (some false)) else (none)) else (none)) else ((impl_isChord.f k ((rd_T50 x5 x7).f1)).bind fun t342 => (if t342 = true then ((impl_chordPlace.f k x0 ((rd_T50 x5 x7).f1)).bind fun t343 => (if t343 = x7 then (impl_GoodBinds.l0 k x0 x5 x6 (wrap64 (x7 + 1))) else (some false))) else (some false)))) else (some false))) else (none)) else (none)) else (some (decide ((x0.length : Int) ≤ 20)))) r) : Ev (fun k => impl_GoodBinds.l0 k x0 x5 x6 x7) r := Ev.step (fun k => by rw [impl_GoodBinds.l0]) h
theorem st_impl_areEvents_l0 {r : (Bool)} {x0 : List (S47)} {x5 : List (S47)} {x6 : Int} {x7 : Int} (h : Ev (fun k => if x7 < x6 then (if 0 ≤ x7 then (if x7 < (x5.length : Int) then ((impl_isTime.f ((rd_T47 x5 x7).f0)).bind fun t347 => (if t347 = true then ((impl_isKey.f ((rd_T47 x5 x7).f1)).bind fun t348 => (if t348 = true then (if x7 > 0 then (if 0 ≤ (wrap64 (x7 - 1)) then (if (wrap64 (x7 - 1)) < (x0.length : Int) then (if ((rd_T47 x0 (wrap64 (x7 - 1))).f0) > ((rd_T47 x5 x7).f0) then (some false) else (impl_areEvents.l0 k x0 x5 x6 (wrap64 (x7 + 1)))) else (none)) else (none)) else (impl_areEvents.l0 k x0 x5 x6 (wrap64 (x7 + 1)))) else (some false))) else (some false))) else (none)) else (none)) else (some (decide ((x0.length : Int) ≤ 200)))) r) : Ev (fun k => impl_areEvents.l0 k x0 x5 x6 x7) r := Ev.step (fun k => by rw [impl_areEvents.l0]) h
theorem inr_some (a b c : Int) : impl_inRange.f a b c = some (decide (b ≤ a ∧ a ≤ c)) := by
 unfold impl_inRange.f
 split <;> simp_all <;> omega
theorem in_some (a b c : Int) : spec_l1In.f a b c = some (decide (b ≤ a ∧ a ≤ c)) := by
 unfold spec_l1In.f
 split <;> simp_all <;> omega
def nameChar (c : Int) : Bool := decide (97 ≤ c ∧ c ≤ 122) || decide (65 ≤ c ∧ c ≤ 90) || decide (c = 95)
def digitChar (c : Int) : Bool := decide (48 ≤ c ∧ c ≤ 57)
def CharOk (s : ByteArray) (i : Nat) : Prop := nameChar (bt s (i : Int)) = true ∨ 0 < i ∧ digitChar (bt s (i : Int)) = true
def NameOk (s : ByteArray) : Prop := (1 ≤ s.size ∧ s.size ≤ 20) ∧ ∀ i, i < s.size → CharOk s i
theorem letter_spec (c : Int) : spec_l1Letter.f c = some (nameChar c) := by
 unfold spec_l1Letter.f nameChar
 repeat' split
 all_goals (congr 1; rw [Bool.eq_iff_iff]; simp; try omega)
theorem digit_spec (c : Int) : spec_l1Digit.f c = some (digitChar c) := by
 unfold spec_l1Digit.f digitChar
 repeat' split
 all_goals (congr 1; rw [Bool.eq_iff_iff]; simp; try omega)
theorem digit_impl (c : Int) : impl_isDigit.f c = some (digitChar c) := by
 unfold impl_isDigit.f digitChar
 repeat' split
 all_goals (congr 1; rw [Bool.eq_iff_iff]; simp; try omega)
theorem letter_impl (c : Int) : ∃ b, impl_isLetter.f c = some b ∧ (nameChar c = true ↔ b = true ∨ c = 95) := by
 unfold impl_isLetter.f nameChar
 repeat' split
 all_goals (refine ⟨_, rfl, ?_⟩; simp; try omega)
theorem name_impl (s : ByteArray) (hs : s.size ≤ 140737488351232) (b : Bool) (hb : b = true ↔ NameOk s) : Ev (fun k => impl_GoodName.f k s) b := by
 refine ev_all s.size (fun k i => impl_GoodName.l0 k s (s.size : Int) (i : Int)) (CharOk s) (decide (1 ≤ (s.size : Int) ∧ (s.size : Int) ≤ 20)) b ?_ ?_ ?_ ?_
 ·rw [hb]; unfold NameOk; simp; omega
 ·exact st_impl_GoodName_l0 (ev_neg (by omega) (ev_bindc (inr_some _ _ _) (ev_some rfl)))
 ·intro i hi _ ho r hr
  refine st_impl_GoodName_l0 (ev_pos (by omega) (ev_pos (by omega) (ev_pos (by omega) ?_)))
  obtain ⟨q, hq, hn⟩ := letter_impl (bt s (i : Int))
  rw [w64s i (by omega)]
  refine ev_bindc hq (ev_ite (fun _ => hr) fun h1 => ev_ite (fun _ => hr) fun h2 => ?_)
  rcases ho with ho | ⟨ho, hd⟩
  ·rcases hn.1 ho with h | h
   ·exact absurd h h1
   ·exact absurd h h2
  ·exact ev_neg (by omega) (ev_bindc (digit_impl _) (ev_pos hd hr))
 ·intro i hi _ ho
  refine st_impl_GoodName_l0 (ev_pos (by omega) (ev_pos (by omega) (ev_pos (by omega) ?_)))
  obtain ⟨q, hq, hn⟩ := letter_impl (bt s (i : Int))
  refine ev_bindc hq (ev_ite (fun h => absurd (.inl (hn.2 (.inl h))) ho) fun h1 => ev_ite (fun h => absurd (.inl (hn.2 (.inr h))) ho) fun h2 => ev_ite (fun _ => ev_some rfl) fun h3 => ?_)
  exact ev_bindc (digit_impl _) (ev_neg (fun h => ho (.inr ⟨by omega, h⟩)) (ev_some rfl))
theorem name_spec (s : ByteArray) (b : Bool) (hb : b = true ↔ NameOk s) : Ev (fun k => spec_GoodName.f k s) b := by
 have j0t : Ev (fun k => spec_GoodName.j0 k s true) false := st_spec_GoodName_j0 (ev_pos rfl (ev_some rfl))
 by_cases h1 : (s.size : Int) < 1
 ·rw [bool_false hb (fun h => by have := h.1; omega)]
  exact ev_pos h1 j0t
 ·by_cases h2 : (s.size : Int) > 20
  ·rw [bool_false hb (fun h => by have := h.1; omega)]
   exact ev_neg h1 (ev_pos h2 j0t)
  ·refine ev_neg h1 (ev_neg h2 (ev_pos (by omega) (ev_bindc (digit_spec _) ?_)))
   cases hd : digitChar (bt s 0) with
   | true =>
    rw [bool_false hb (fun h => by
     have h0 : CharOk s 0 := h.2 0 (by omega)
     rcases h0 with h0 | h0
     ·have h0 : nameChar (bt s 0) = true := h0
      generalize bt s 0 = c at hd h0
      simp [nameChar, digitChar] at hd h0; omega
     ·omega)]
    exact j0t
   | false =>
    refine st_spec_GoodName_j0 (ev_neg (by decide) ?_)
    refine ev_all s.size (fun k i => spec_GoodName.l0 k s (i : Int)) (CharOk s) true b ?_ ?_ ?_ ?_
    ·rw [hb]; unfold NameOk; constructor
     ·exact fun h => ⟨rfl, h.2⟩
     ·exact fun h => ⟨by omega, h.2⟩
    ·exact st_spec_GoodName_l0 (ev_neg (by omega) (ev_some rfl))
    ·intro i hi _ ho r hr
     refine st_spec_GoodName_l0 (ev_pos (by omega) (ev_pos (by omega) (ev_bindc (letter_spec _) (ev_ite (fun _ => by rw [w64s i (by omega)]; exact hr) fun hl => ev_bindc (digit_spec _) ?_))))
     rcases ho with ho | ⟨_, ho⟩
     ·exact absurd ho hl
     ·refine ev_pos ho ?_
      rw [w64s i (by omega)]; exact hr
    ·intro i hi _ ho
     refine st_spec_GoodName_l0 (ev_pos (by omega) (ev_pos (by omega) (ev_bindc (letter_spec _) (ev_neg (fun h => ho (.inl h)) (ev_bindc (digit_spec _) (ev_neg (fun h => ho ?_) (ev_some rfl)))))))
     rcases Nat.eq_zero_or_pos i with rfl | hp
     ·have h' : digitChar (bt s 0) = true := h
      rw [hd] at h'; cases h'
     ·exact .inr ⟨hp, h⟩
theorem rdb_get {l : List S50} {i : Nat} (h : i < l.length) : rd_T50 l (i : Int) = l[i] := by simp [rd_T50, List.getD_eq_getElem?_getD, h]
theorem rdp_get {l : List S47} {i : Nat} (h : i < l.length) : rd_T47 l (i : Int) = l[i] := by simp [rd_T47, List.getD_eq_getElem?_getD, h]
def KeyAt (c : List Int) (i : Nat) : Prop := (0 ≤ rd c (i : Int) ∧ rd c (i : Int) ≤ 99) ∧ (0 < i → rd c ((i : Int) - 1) < rd c (i : Int))
def ChordOk (c : List Int) : Prop := (1 ≤ c.length ∧ c.length ≤ 4) ∧ ∀ i, i < c.length → KeyAt c i
theorem key_some (n : Int) : impl_isKey.f n = some (decide (0 ≤ n ∧ n ≤ 99)) := by
 unfold impl_isKey.f
 rw [inr_some]; rfl
theorem time_some (n : Int) : impl_isTime.f n = some (decide (0 ≤ n ∧ n ≤ 100000)) := by
 unfold impl_isTime.f
 rw [inr_some]; rfl
theorem chord_spec (c : List Int) (b : Bool) (hb : b = true ↔ ChordOk c) : Ev (fun k => spec_l17Chord.f k c) b := by
 have j0t : Ev (fun k => spec_l17Chord.j0 k c true) false := st_spec_l17Chord_j0 (ev_pos rfl (ev_some rfl))
 refine ev_ite (fun h => ?_) fun h1 => ?_
 ·rw [bool_false hb (fun h' => by have := h'.1.1; omega)]; exact j0t
 by_cases h2 : (c.length : Int) > 4
 ·rw [bool_false hb (fun h' => by have := h'.1.2; omega), decide_eq_true h2]; exact j0t
 rw [decide_eq_false h2]
 refine st_spec_l17Chord_j0 (ev_neg (by decide) ?_)
 refine ev_all c.length (fun k i => spec_l17Chord.l0 k c c (c.length : Int) (i : Int)) (KeyAt c) true b ?_ ?_ ?_ ?_
 ·rw [hb]; constructor
  ·exact fun h => ⟨rfl, h.2⟩
  ·exact fun h' => ⟨by omega, h'.2⟩
 ·exact st_spec_l17Chord_l0 (ev_neg (by omega) (ev_some rfl))
 ·intro i hi _ ⟨h0, h3⟩ r hr
  refine st_spec_l17Chord_l0 (ev_pos (by omega) (ev_pos (by omega) (ev_pos (by omega) (ev_bindc (in_some _ _ _) (ev_pos (decide_eq_true h0) ?_)))))
  rw [w64s i (by omega), w64 (n := (i : Int) - 1) (by omega) (by omega)]
  exact ev_ite (fun hp => ev_pos (by omega) (ev_pos (by omega) (ev_neg (by have := h3 (by omega); omega) hr))) fun _ => hr
 ·intro i hi _ ho
  refine st_spec_l17Chord_l0 (ev_pos (by omega) (ev_pos (by omega) (ev_pos (by omega) (ev_bindc (in_some _ _ _) (ev_ite (fun h0 => ?_) fun _ => ev_some rfl)))))
  have h0 := of_decide_eq_true h0
  rw [w64 (n := (i : Int) - 1) (by omega) (by omega)]
  refine ev_ite (fun hp => ev_pos (by omega) (ev_pos (by omega) (ev_ite (fun _ => ev_some rfl) fun h2 => absurd ⟨h0, fun _ => by omega⟩ ho))) fun hp => absurd ⟨h0, fun h => by omega⟩ ho
theorem chord_impl (c : List Int) (hc : c.length ≤ 1048576) (b : Bool) (hb : b = true ↔ ChordOk c) : Ev (fun k => impl_isChord.f k c) b := by
 refine ev_all c.length (fun k i => impl_isChord.l0 k c c (c.length : Int) (i : Int)) (KeyAt c) (decide (1 ≤ c.length ∧ c.length ≤ 4)) b ?_ ?_ ?_ ?_
 ·rw [hb, decide_eq_true_iff]; rfl
 ·refine st_impl_isChord_l0 (ev_neg (by omega) (ev_bindc (inr_some _ _ _) (ev_some ?_)))
  by_cases h : 1 ≤ c.length ∧ c.length ≤ 4
  ·rw [decide_eq_true h, decide_eq_true (show (1 : Int) ≤ (c.length : Int) ∧ (c.length : Int) ≤ 4 by omega)]
  ·rw [decide_eq_false h, decide_eq_false (show ¬ ((1 : Int) ≤ (c.length : Int) ∧ (c.length : Int) ≤ 4) by omega)]
 ·intro i hi _ ⟨h0, h3⟩ r hr
  refine st_impl_isChord_l0 (ev_pos (by omega) (ev_pos (by omega) (ev_pos (by omega) (ev_bindc (key_some _) (ev_pos (decide_eq_true h0) ?_)))))
  rw [w64s i (by omega), w64 (n := (i : Int) - 1) (by omega) (by omega)]
  exact ev_ite (fun hp => ev_pos (by omega) (ev_pos (by omega) (ev_neg (by have := h3 (by omega); omega) hr))) fun _ => hr
 ·intro i hi _ ho
  refine st_impl_isChord_l0 (ev_pos (by omega) (ev_pos (by omega) (ev_pos (by omega) (ev_bindc (key_some _) (ev_ite (fun h0 => ?_) fun _ => ev_some rfl)))))
  have h0 := of_decide_eq_true h0
  rw [w64 (n := (i : Int) - 1) (by omega) (by omega)]
  refine ev_ite (fun hp => ev_pos (by omega) (ev_pos (by omega) (ev_ite (fun _ => ev_some rfl) fun h2 => absurd ⟨h0, fun _ => by omega⟩ ho))) fun hp => absurd ⟨h0, fun h => by omega⟩ ho
theorem rows_eq {a b : List Int} (hl : a.length = b.length) : a = b ↔ ∀ i, i < a.length → rd a (i : Int) = rd b (i : Int) := by
 constructor
 ·intro e i _; rw [e]
 ·intro h
  refine List.ext_getElem hl fun i h1 h2 => ?_
  have := h i h1
  rwa [rd_get h1, rd_get h2] at this
theorem same_spec (x y : List Int) (hx : x.length ≤ 1048576) (b : Bool) (hb : b = true ↔ x = y) : Ev (fun k => spec_l17Same.f k x y) b := by
 refine ev_ite (fun hl => ?_) fun hl => ev_some (bool_false hb (fun e => hl (by rw [e]))).symm
 have hl' : x.length = y.length := by omega
 refine ev_all x.length (fun k i => spec_l17Same.l0 k x y (x.length : Int) (i : Int)) (fun i => rd x (i : Int) = rd y (i : Int)) true b ?_ ?_ ?_ ?_
 ·rw [hb, rows_eq hl']; exact ⟨fun h => ⟨rfl, h⟩, fun h => h.2⟩
 ·exact st_spec_l17Same_l0 (ev_neg (by omega) (ev_some rfl))
 ·intro i hi _ ho r hr
  refine st_spec_l17Same_l0 (ev_pos (by omega) (ev_pos (by omega) (ev_pos (by omega) (ev_pos (by omega) (ev_pos ho ?_)))))
  rw [w64s i (by omega)]; exact hr
 ·intro i hi _ ho
  exact st_spec_l17Same_l0 (ev_pos (by omega) (ev_pos (by omega) (ev_pos (by omega) (ev_pos (by omega) (ev_neg ho (ev_some rfl))))))
theorem same_impl (x y : List Int) (hx : x.length ≤ 1048576) (b : Bool) (hb : b = true ↔ x = y) : Ev (fun k => slices_Equal_int_int.f k x y) b := by
 refine ev_ite (fun hl => ?_) fun hl => ev_some (bool_false hb (fun e => hl (by rw [e]))).symm
 have hl' : x.length = y.length := by omega
 refine ev_all x.length (fun k i => slices_Equal_int_int.l0 k x y (x.length : Int) (i : Int)) (fun i => rd x (i : Int) = rd y (i : Int)) true b ?_ ?_ ?_ ?_
 ·rw [hb, rows_eq hl']; exact ⟨fun h => ⟨rfl, h⟩, fun h => h.2⟩
 ·exact st_slices_Equal_int_int_l0 (ev_neg (by omega) (ev_some rfl))
 ·intro i hi _ ho r hr
  refine st_slices_Equal_int_int_l0 (ev_pos (by omega) (ev_pos (by omega) (ev_pos (by omega) (ev_pos (by omega) (ev_pos ho ?_)))))
  rw [w64s i (by omega)]; exact hr
 ·intro i hi _ ho
  exact st_slices_Equal_int_int_l0 (ev_pos (by omega) (ev_pos (by omega) (ev_pos (by omega) (ev_pos (by omega) (ev_neg ho (ev_some rfl))))))
def BFit (x : S50) : Prop := x.f0.size ≤ 1048576 ∧ x.f1.length ≤ 1048576
theorem place_ev (l : List S50) (hl : l.length ≤ 1048576) (hf : ∀ x ∈ l, BFit x) (c : List Int) (i : Nat) (hi : i < l.length) (hc : (rd_T50 l (i : Int)).f1 = c) : ∃ m : Nat, Ev (fun k => impl_chordPlace.f k l c) (m : Int) ∧ (m = i ↔ ∀ j : Nat, j < i → (rd_T50 l (j : Int)).f1 ≠ c) := by
 have hpl : ∀ (n s : Nat), i - s = n → s ≤ i → (∀ j : Nat, j < s → (rd_T50 l (j : Int)).f1 ≠ c) → ∃ m : Nat, Ev (fun k => slices_IndexFunc_w45.l0 k l (l.length : Int) (s : Int) c) (m : Int) ∧ (m = i ↔ ∀ j : Nat, j < i → (rd_T50 l (j : Int)).f1 ≠ c) := by
  intro n
  induction n with
  | zero =>
   intro s h1 h2 h3
   obtain rfl : s = i := by omega
   refine ⟨s, st_slices_IndexFunc_w45_l0 (ev_pos (by omega) (ev_pos (by omega) (ev_pos (by omega) (Ev.bind (Ev.bind (same_impl _ _ ?_ true ⟨fun _ => hc, fun _ => rfl⟩) (ev_some rfl)) (ev_pos rfl (ev_some rfl)))))), ⟨fun _ => h3, fun _ => rfl⟩⟩
   rw [rdb_get hi]; exact (hf _ (List.getElem_mem hi)).2
  | succ n ih =>
   intro s h1 h2 h3
   have hs : s < l.length := by omega
   have hfs : (rd_T50 l (s : Int)).f1.length ≤ 1048576 := by rw [rdb_get hs]; exact (hf _ (List.getElem_mem hs)).2
   by_cases e : (rd_T50 l (s : Int)).f1 = c
   ·exact ⟨s, st_slices_IndexFunc_w45_l0 (ev_pos (by omega) (ev_pos (by omega) (ev_pos (by omega) (Ev.bind (Ev.bind (same_impl _ _ hfs true ⟨fun _ => e, fun _ => rfl⟩) (ev_some rfl)) (ev_pos rfl (ev_some rfl)))))), ⟨fun h => by omega, fun h => absurd e (h s (by omega))⟩⟩
   ·obtain ⟨m, hm, hm2⟩ := ih (s + 1) (by omega) (by omega) (fun j hj => by
     rcases Nat.lt_or_ge j s with h4 | h4
     ·exact h3 j h4
     ·obtain rfl : j = s := by omega
      exact e)
    refine ⟨m, st_slices_IndexFunc_w45_l0 (ev_pos (by omega) (ev_pos (by omega) (ev_pos (by omega) (Ev.bind (Ev.bind (same_impl _ _ hfs false ⟨fun h => (by cases h), fun h => absurd h e⟩) (ev_some rfl)) (ev_neg (by decide) ?_))))), hm2⟩
    rw [w64s s (by omega)]
    exact hm
 obtain ⟨m, hm, hm2⟩ := hpl i 0 (by omega) (by omega) (fun j hj => absurd hj (Nat.not_lt_zero j))
 exact ⟨m, Ev.bind hm (ev_some rfl), hm2⟩
def BindAt (l : List S50) (i : Nat) : Prop := NameOk (rd_T50 l (i : Int)).f0 ∧ ChordOk (rd_T50 l (i : Int)).f1 ∧ (0 < i → Op.bytesLess (rd_T50 l ((i : Int) - 1)).f0.toList (rd_T50 l (i : Int)).f0.toList = true) ∧ ∀ j : Nat, j < i → (rd_T50 l (j : Int)).f1 ≠ (rd_T50 l (i : Int)).f1
def BindsOk (l : List S50) : Prop := l.length ≤ 20 ∧ ∀ i, i < l.length → BindAt l i
theorem binds_impl (l : List S50) (hl : l.length ≤ 1048576) (hf : ∀ x ∈ l, BFit x) (b : Bool) (hb : b = true ↔ BindsOk l) : Ev (fun k => impl_GoodBinds.f k l) b := by
 have fit : ∀ i : Nat, i < l.length → BFit (rd_T50 l (i : Int)) := fun i hi => by rw [rdb_get hi]; exact hf _ (List.getElem_mem hi)
 refine ev_all l.length (fun k i => impl_GoodBinds.l0 k l l (l.length : Int) (i : Int)) (BindAt l) (decide ((l.length : Int) ≤ 20)) b ?_ ?_ ?_ ?_
 ·rw [hb, decide_eq_true_iff]; unfold BindsOk
  constructor
  ·exact fun h => ⟨by omega, h.2⟩
  ·exact fun h => ⟨by omega, h.2⟩
 ·exact st_impl_GoodBinds_l0 (ev_neg (by omega) (ev_some rfl))
 ·intro i hi _ ⟨h0, h1, h2, h3⟩ r hr
  obtain ⟨m, hm, hm2⟩ := place_ev l hl hf _ i hi rfl
  obtain rfl := hm2.2 h3
  have fi := fit m hi
  refine st_impl_GoodBinds_l0 (ev_pos (by omega) (ev_pos (by omega) (ev_pos (by omega) (Ev.bind (name_impl _ (by have := fi.1; omega) true ⟨fun _ => h0, fun _ => rfl⟩) (ev_pos rfl ?_)))))
  rw [w64s m (by omega), w64 (n := (m : Int) - 1) (by omega) (by omega)]
  have ch := chord_impl _ fi.2 true ⟨fun _ => h1, fun _ => rfl⟩
  exact ev_ite (fun hp => ev_pos (by omega) (ev_pos (by omega) (ev_pos (h2 (by omega)) (Ev.bind ch (ev_pos rfl (Ev.bind hm (ev_pos rfl hr))))))) fun _ => Ev.bind ch (ev_pos rfl (Ev.bind hm (ev_pos rfl hr)))
 ·intro i hi _ ho
  obtain ⟨m, hm, hm2⟩ := place_ev l hl hf _ i hi rfl
  have fi := fit i hi
  obtain ⟨cn, hcn⟩ := bool_of (NameOk (rd_T50 l (i : Int)).f0)
  obtain ⟨cc, hcc⟩ := bool_of (ChordOk (rd_T50 l (i : Int)).f1)
  refine st_impl_GoodBinds_l0 (ev_pos (by omega) (ev_pos (by omega) (ev_pos (by omega) (Ev.bind (name_impl _ (by have := fi.1; omega) cn hcn) (ev_ite (fun h0 => ?_) fun _ => ev_some rfl)))))
  rw [w64 (n := (i : Int) - 1) (by omega) (by omega)]
  have ch := chord_impl _ fi.2 cc hcc
  have last : (0 < i → Op.bytesLess (rd_T50 l ((i : Int) - 1)).f0.toList (rd_T50 l (i : Int)).f0.toList = true) → cc = true → (m : Int) = (i : Int) → False := fun h2 h1 hmi => ho ⟨hcn.1 h0, hcc.1 h1, h2, hm2.1 (by omega)⟩
  refine ev_ite (fun hp => ev_pos (by omega) (ev_pos (by omega) (ev_ite (fun h2 => Ev.bind ch (ev_ite (fun h1 => Ev.bind hm (ev_ite (fun hmi => (last (fun _ => h2) h1 hmi).elim) fun _ => ev_some rfl)) fun _ => ev_some rfl)) fun _ => ev_some rfl))) fun hp => Ev.bind ch (ev_ite (fun h1 => Ev.bind hm (ev_ite (fun hmi => (last (fun h => by omega) h1 hmi).elim) fun _ => ev_some rfl)) fun _ => ev_some rfl)
theorem ahead_ev (l : List S50) (hl : l.length ≤ 1048576) (hf : ∀ x ∈ l, BFit x) (i : Nat) (hi : i < l.length) (a : ByteArray) (c : List Int) (hall : ∀ j : Nat, j < i → (rd_T50 l (j : Int)).f1 ≠ c) (r : Bool)
  (hr : Ev (fun k => spec_GoodBinds.l0 k l l (l.length : Int) ((i + 1 : Nat) : Int)) r) : Ev (fun k => spec_GoodBinds.l1 k l l (l.length : Int) (i : Int) (l.take i) (((l.take i).length : Nat) : Int) 0 a c) r := by
 have hlt : (l.take i).length = i := by rw [List.length_take]; omega
 have hrd : ∀ j : Nat, j < i → rd_T50 (l.take i) (j : Int) = rd_T50 l (j : Int) := fun j hj => by
  rw [rdb_get (by omega), rdb_get (by omega), List.getElem_take]
 have go : ∀ (n s : Nat), i - s = n → s ≤ i → Ev (fun k => spec_GoodBinds.l1 k l l (l.length : Int) (i : Int) (l.take i) (((l.take i).length : Nat) : Int) (s : Int) a c) r := by
  intro n
  induction n with
  | zero =>
   intro s h1 h2
   obtain rfl : s = i := by omega
   refine st_spec_GoodBinds_l1 (ev_neg (by rw [hlt]; omega) ?_)
   rw [w64s s (by omega)]
   exact hr
  | succ n ih =>
   intro s h1 h2
   have hs : s < l.length := by omega
   refine st_spec_GoodBinds_l1 (ev_pos (by rw [hlt]; omega) (ev_pos (by omega) (ev_pos (by rw [hlt]; omega) ?_)))
   rw [hrd s (by omega)]
   refine Ev.bind (same_spec _ _ (by rw [rdb_get hs]; exact (hf _ (List.getElem_mem hs)).2) false ⟨fun h => (by cases h), fun h => absurd h (hall s (by omega))⟩) (ev_neg (by decide) ?_)
   rw [w64s s (by omega)]
   exact ih (s + 1) (by omega) (by omega)
 exact go i 0 (by omega) (by omega)
theorem ahead_no (l : List S50) (hl : l.length ≤ 1048576) (hf : ∀ x ∈ l, BFit x) (i : Nat) (hi : i < l.length) (a : ByteArray) (c : List Int) (hex : ∃ j : Nat, j < i ∧ (rd_T50 l (j : Int)).f1 = c) :
  Ev (fun k => spec_GoodBinds.l1 k l l (l.length : Int) (i : Int) (l.take i) (((l.take i).length : Nat) : Int) 0 a c) false := by
 obtain ⟨j, hj, hjc⟩ := hex
 have hlt : (l.take i).length = i := by rw [List.length_take]; omega
 have hrd : ∀ j : Nat, j < i → rd_T50 (l.take i) (j : Int) = rd_T50 l (j : Int) := fun j hj => by
  rw [rdb_get (by omega), rdb_get (by omega), List.getElem_take]
 have go : ∀ (n s : Nat), j - s = n → s ≤ j → Ev (fun k => spec_GoodBinds.l1 k l l (l.length : Int) (i : Int) (l.take i) (((l.take i).length : Nat) : Int) (s : Int) a c) false := by
  intro n
  induction n with
  | zero =>
   intro s h1 h2
   obtain rfl : s = j := by omega
   refine st_spec_GoodBinds_l1 (ev_pos (by rw [hlt]; omega) (ev_pos (by omega) (ev_pos (by rw [hlt]; omega) ?_)))
   rw [hrd s hj]
   exact Ev.bind (same_spec _ _ (by rw [rdb_get (show s < l.length by omega)]; exact (hf _ (List.getElem_mem _)).2) true ⟨fun _ => hjc, fun _ => rfl⟩) (ev_pos rfl (ev_some rfl))
  | succ n ih =>
   intro s h1 h2
   have hs : s < l.length := by omega
   refine st_spec_GoodBinds_l1 (ev_pos (by rw [hlt]; omega) (ev_pos (by omega) (ev_pos (by rw [hlt]; omega) ?_)))
   rw [hrd s (by omega)]
   obtain ⟨q, hq⟩ := bool_of ((rd_T50 l (s : Int)).f1 = c)
   refine Ev.bind (same_spec _ _ (by rw [rdb_get hs]; exact (hf _ (List.getElem_mem hs)).2) q hq) (ev_ite (fun _ => ev_some rfl) fun _ => ?_)
   rw [w64s s (by omega)]
   exact ih (s + 1) (by omega) (by omega)
 exact go j 0 (by omega) (by omega)
theorem binds_spec (l : List S50) (hl : l.length ≤ 1048576) (hf : ∀ x ∈ l, BFit x) (b : Bool) (hb : b = true ↔ BindsOk l) : Ev (fun k => spec_GoodBinds.f k l) b := by
 refine ev_ite (fun h => ev_some (bool_false hb (fun h' => by have := h'.1; omega)).symm) fun h => ?_
 refine ev_all l.length (fun k i => spec_GoodBinds.l0 k l l (l.length : Int) (i : Int)) (BindAt l) true b ?_ ?_ ?_ ?_
 ·rw [hb]; unfold BindsOk
  constructor
  ·exact fun h => ⟨rfl, h.2⟩
  ·exact fun h' => ⟨by omega, h'.2⟩
 ·exact st_spec_GoodBinds_l0 (ev_neg (by omega) (ev_some rfl))
 ·intro i hi _ ⟨h0, h1, h2, h3⟩ r hr
  have jf : Ev (fun k => spec_GoodBinds.j1 k l (i : Int) l (l.length : Int) (i : Int) false (rd_T50 l (i : Int)).f0 (rd_T50 l (i : Int)).f1) r := by
   refine st_spec_GoodBinds_j1 (ev_neg (by decide) (ev_pos (by omega) (ev_pos (by omega) (ev_bindc rfl ?_))))
   rw [Int.toNat_natCast]
   exact ahead_ev l hl hf i hi _ _ h3 r hr
  refine st_spec_GoodBinds_l0 (ev_pos (by omega) (ev_pos (by omega) (ev_pos (by omega) (Ev.bind (name_spec _ true ⟨fun _ => h0, fun _ => rfl⟩) (ev_pos rfl (Ev.bind (chord_spec _ true ⟨fun _ => h1, fun _ => rfl⟩) (ev_pos rfl ?_)))))))
  rw [w64 (n := (i : Int) - 1) (by omega) (by omega)]
  refine ev_ite (fun hp => ev_pos (by omega) (ev_pos (by omega) ?_)) fun _ => jf
  rw [h2 (by omega)]
  exact jf
 ·intro i hi _ ho
  obtain ⟨cn, hcn⟩ := bool_of (NameOk (rd_T50 l (i : Int)).f0)
  obtain ⟨cc, hcc⟩ := bool_of (ChordOk (rd_T50 l (i : Int)).f1)
  have jt : Ev (fun k => spec_GoodBinds.j1 k l (i : Int) l (l.length : Int) (i : Int) true (rd_T50 l (i : Int)).f0 (rd_T50 l (i : Int)).f1) false := st_spec_GoodBinds_j1 (ev_pos rfl (ev_some rfl))
  have jf : cn = true → cc = true → (0 < i → Op.bytesLess (rd_T50 l ((i : Int) - 1)).f0.toList (rd_T50 l (i : Int)).f0.toList = true) → Ev (fun k => spec_GoodBinds.j1 k l (i : Int) l (l.length : Int) (i : Int) false (rd_T50 l (i : Int)).f0 (rd_T50 l (i : Int)).f1) false := fun h0 h1 h2 => by
   refine st_spec_GoodBinds_j1 (ev_neg (by decide) (ev_pos (by omega) (ev_pos (by omega) (ev_bindc rfl ?_))))
   rw [Int.toNat_natCast]
   refine ahead_no l hl hf i hi _ _ (Classical.byContradiction fun hno => ho ⟨hcn.1 h0, hcc.1 h1, h2, fun j hj he => hno ⟨j, hj, he⟩⟩)
  refine st_spec_GoodBinds_l0 (ev_pos (by omega) (ev_pos (by omega) (ev_pos (by omega) (Ev.bind (name_spec _ cn hcn) (ev_ite (fun h0 => Ev.bind (chord_spec _ cc hcc) (ev_ite (fun h1 => ?_) fun _ => jt)) fun _ => jt)))))
  rw [w64 (n := (i : Int) - 1) (by omega) (by omega)]
  refine ev_ite (fun hp => ev_pos (by omega) (ev_pos (by omega) ?_)) fun hp => jf h0 h1 (fun h => by omega)
  cases hless : Op.bytesLess (rd_T50 l ((i : Int) - 1)).f0.toList (rd_T50 l (i : Int)).f0.toList with
  | true => exact jf h0 h1 (fun _ => hless)
  | false => exact jt
def EventAt (l : List S47) (i : Nat) : Prop := (0 ≤ (rd_T47 l (i : Int)).f0 ∧ (rd_T47 l (i : Int)).f0 ≤ 100000) ∧ (0 ≤ (rd_T47 l (i : Int)).f1 ∧ (rd_T47 l (i : Int)).f1 ≤ 99) ∧ (0 < i → (rd_T47 l ((i : Int) - 1)).f0 ≤ (rd_T47 l (i : Int)).f0)
def EventsOk (l : List S47) : Prop := l.length ≤ 200 ∧ ∀ i, i < l.length → EventAt l i
theorem events_spec (l : List S47) (b : Bool) (hb : b = true ↔ EventsOk l) : Ev (fun k => spec_l17Events.f k l) b := by
 refine ev_ite (fun h => ev_some (bool_false hb (fun h' => by have := h'.1; omega)).symm) fun h => ?_
 refine ev_all l.length (fun k i => spec_l17Events.l0 k l l (l.length : Int) (i : Int)) (EventAt l) true b ?_ ?_ ?_ ?_
 ·rw [hb]; unfold EventsOk
  constructor
  ·exact fun h => ⟨rfl, h.2⟩
  ·exact fun h' => ⟨by omega, h'.2⟩
 ·exact st_spec_l17Events_l0 (ev_neg (by omega) (ev_some rfl))
 ·intro i hi _ ⟨h0, h1, h2⟩ r hr
  refine st_spec_l17Events_l0 (ev_pos (by omega) (ev_pos (by omega) (ev_pos (by omega) (ev_bindc (in_some _ _ _) (ev_pos (decide_eq_true h0) (ev_bindc (in_some _ _ _) (ev_pos (decide_eq_true h1) ?_)))))))
  rw [w64s i (by omega), w64 (n := (i : Int) - 1) (by omega) (by omega)]
  exact ev_ite (fun hp => ev_pos (by omega) (ev_pos (by omega) (ev_neg (by have := h2 (by omega); omega) hr))) fun _ => hr
 ·intro i hi _ ho
  refine st_spec_l17Events_l0 (ev_pos (by omega) (ev_pos (by omega) (ev_pos (by omega) (ev_bindc (in_some _ _ _) (ev_ite (fun h0 => ev_bindc (in_some _ _ _) (ev_ite (fun h1 => ?_) fun _ => ev_some rfl)) fun _ => ev_some rfl)))))
  have h0 := of_decide_eq_true h0
  have h1 := of_decide_eq_true h1
  rw [w64 (n := (i : Int) - 1) (by omega) (by omega)]
  exact ev_ite (fun hp => ev_pos (by omega) (ev_pos (by omega) (ev_ite (fun _ => ev_some rfl) fun h2 => absurd ⟨h0, h1, fun _ => by omega⟩ ho))) fun hp => absurd ⟨h0, h1, fun h => by omega⟩ ho
theorem events_impl (l : List S47) (hl : l.length ≤ 1048576) (b : Bool) (hb : b = true ↔ EventsOk l) : Ev (fun k => impl_areEvents.f k l) b := by
 refine ev_all l.length (fun k i => impl_areEvents.l0 k l l (l.length : Int) (i : Int)) (EventAt l) (decide ((l.length : Int) ≤ 200)) b ?_ ?_ ?_ ?_
 ·rw [hb, decide_eq_true_iff]; unfold EventsOk
  constructor
  ·exact fun h => ⟨by omega, h.2⟩
  ·exact fun h => ⟨by omega, h.2⟩
 ·exact st_impl_areEvents_l0 (ev_neg (by omega) (ev_some rfl))
 ·intro i hi _ ⟨h0, h1, h2⟩ r hr
  refine st_impl_areEvents_l0 (ev_pos (by omega) (ev_pos (by omega) (ev_pos (by omega) (ev_bindc (time_some _) (ev_pos (decide_eq_true h0) (ev_bindc (key_some _) (ev_pos (decide_eq_true h1) ?_)))))))
  rw [w64s i (by omega), w64 (n := (i : Int) - 1) (by omega) (by omega)]
  exact ev_ite (fun hp => ev_pos (by omega) (ev_pos (by omega) (ev_neg (by have := h2 (by omega); omega) hr))) fun _ => hr
 ·intro i hi _ ho
  refine st_impl_areEvents_l0 (ev_pos (by omega) (ev_pos (by omega) (ev_pos (by omega) (ev_bindc (time_some _) (ev_ite (fun h0 => ev_bindc (key_some _) (ev_ite (fun h1 => ?_) fun _ => ev_some rfl)) fun _ => ev_some rfl)))))
  have h0 := of_decide_eq_true h0
  have h1 := of_decide_eq_true h1
  rw [w64 (n := (i : Int) - 1) (by omega) (by omega)]
  exact ev_ite (fun hp => ev_pos (by omega) (ev_pos (by omega) (ev_ite (fun _ => ev_some rfl) fun h2 => absurd ⟨h0, h1, fun _ => by omega⟩ ho))) fun hp => absurd ⟨h0, h1, fun h => by omega⟩ ho
theorem in_ev (K : List Int) (hK : K.length ≤ 1048576) (v : Int) : Ev (fun k => spec_l14In.f k K v) (decide (v ∈ K)) := by
 have go : ∀ (n s : Nat), K.length - s = n → s ≤ K.length → Ev (fun k => spec_l14In.l0 k v K (K.length : Int) (s : Int)) (decide (v ∈ K.drop s)) := by
  intro n
  induction n with
  | zero =>
   intro s h1 h2
   obtain rfl : s = K.length := by omega
   rw [List.drop_length]
   exact st_spec_l14In_l0 (ev_neg (by omega) (ev_some (by simp)))
  | succ n ih =>
   intro s h1 h2
   have hs : s < K.length := by omega
   refine st_spec_l14In_l0 (ev_pos (by omega) (ev_pos (by omega) (ev_pos (by omega) ?_)))
   rw [List.drop_eq_getElem_cons hs, rd_get hs, w64s s (by omega)]
   refine ev_ite (fun h => ev_some ?_) fun h => ?_
   ·exact (decide_eq_true (by rw [← h]; exact List.mem_cons_self ..)).symm
   ·have e : decide (v ∈ K[s] :: K.drop (s + 1)) = decide (v ∈ K.drop (s + 1)) := by
     refine decide_eq_decide.2 ⟨fun h' => ?_, fun h' => List.mem_cons_of_mem _ h'⟩
     rcases List.mem_cons.1 h' with h' | h'
     ·exact absurd h'.symm h
     ·exact h'
    rw [e]
    exact ih (s + 1) (by omega) (by omega)
 have h := go K.length 0 (by omega) (by omega)
 exact h
theorem all_ev (c K : List Int) (hc : c.length ≤ 1048576) (hK : K.length ≤ 1048576) (b : Bool) (hb : b = true ↔ ∀ x ∈ c, x ∈ K) : Ev (fun k => spec_l17All.f k c K) b := by
 refine ev_all c.length (fun k i => spec_l17All.l0 k K c (c.length : Int) (i : Int)) (fun i => rd c (i : Int) ∈ K) true b ?_ ?_ ?_ ?_
 ·rw [hb]; constructor
  ·exact fun h => ⟨rfl, fun i hi => h _ (by rw [rd_get hi]; exact List.getElem_mem hi)⟩
  ·rintro ⟨_, h⟩ x hx
   obtain ⟨i, hi, rfl⟩ := List.getElem_of_mem hx
   have := h i hi
   rwa [rd_get hi] at this
 ·exact st_spec_l17All_l0 (ev_neg (by omega) (ev_some rfl))
 ·intro i hi _ ho r hr
  have := in_ev K hK (rd c (i : Int))
  rw [decide_eq_true ho] at this
  refine st_spec_l17All_l0 (ev_pos (by omega) (ev_pos (by omega) (ev_pos (by omega) (Ev.bind this (ev_pos rfl ?_)))))
  rw [w64s i (by omega)]; exact hr
 ·intro i hi _ ho
  have := in_ev K hK (rd c (i : Int))
  rw [decide_eq_false ho] at this
  exact st_spec_l17All_l0 (ev_pos (by omega) (ev_pos (by omega) (ev_pos (by omega) (Ev.bind this (ev_neg (by decide) (ev_some rfl))))))
theorem put_ev (K : List Int) (hK : K.length ≤ 1048576) (v : Int) : ∃ K', Ev (fun k => spec_l1Put.f k K v) K' ∧ (∀ x, x ∈ K' ↔ x ∈ K ∨ x = v) ∧ K'.length ≤ K.length + 1 := by
 have mid : ∀ s : Nat, s ≤ K.length → (∀ x, x ∈ ((([] : List Int) ++ K.take s) ++ [v]) ++ K.drop s ↔ x ∈ K ∨ x = v) ∧ (((([] : List Int) ++ K.take s) ++ [v]) ++ K.drop s).length = K.length + 1 := fun s hs => by
  refine ⟨fun x => ?_, by simp; omega⟩
  conv => rhs; rw [← List.take_append_drop s K]
  simp only [List.nil_append, List.mem_append, List.mem_singleton]
  constructor
  ·rintro ((h | h) | h)
   ·exact .inl (.inl h)
   ·exact .inr h
   ·exact .inl (.inr h)
  ·rintro ((h | h) | h)
   ·exact .inl (.inl h)
   ·exact .inr h
   ·exact .inl (.inr h)
 have put : ∀ s : Nat, s ≤ K.length → Ev (fun _ => if ([] : List Int).length + (K.take s).length < 17592186044416 then ((some (([] : List Int) ++ K.take s : List Int)).bind fun y186 => (if y186.length < 17592186044416 then ((some (y186 ++ [v] : List Int)).bind fun y189 => ((some (K.drop s : List Int)).bind fun y192 => (if y189.length + y192.length < 17592186044416 then (some (y189 ++ y192)) else (none)))) else (none))) else (none)) (((([] : List Int) ++ K.take s) ++ [v]) ++ K.drop s) := fun s hs =>
  ev_pos (by simp; omega) (ev_bindc rfl (ev_pos (by simp; omega) (ev_bindc rfl (ev_bindc rfl (ev_pos (by simp; omega) (ev_some rfl))))))
 have go : ∀ (n s : Nat), K.length - s = n → s ≤ K.length → ∃ K', Ev (fun k => spec_l1Put.l0 k K v (s : Int)) K' ∧ (∀ x, x ∈ K' ↔ x ∈ K ∨ x = v) ∧ K'.length ≤ K.length + 1 := by
  intro n
  induction n with
  | zero =>
   intro s h1 h2
   obtain rfl : s = K.length := by omega
   refine ⟨_, st_spec_l1Put_l0 (ev_neg (by omega) (ev_pos (by omega) (ev_pos (by omega) (ev_bindc rfl ?_)))), (mid K.length (Nat.le_refl _)).1, by rw [(mid K.length (Nat.le_refl _)).2]; exact Nat.le_refl _⟩
   rw [Int.toNat_natCast]
   exact put K.length (Nat.le_refl _)
  | succ n ih =>
   intro s h1 h2
   have hs : s < K.length := by omega
   by_cases c1 : rd K (s : Int) < v
   ·obtain ⟨K', a, b, c⟩ := ih (s + 1) (by omega) (by omega)
    refine ⟨K', st_spec_l1Put_l0 (ev_pos (by omega) (ev_pos (by omega) (ev_pos c1 ?_))), b, c⟩
    rw [w64s s (by omega)]; exact a
   by_cases c2 : rd K (s : Int) = v
   ·refine ⟨K, st_spec_l1Put_l0 (ev_pos (by omega) (ev_pos (by omega) (ev_neg c1 (ev_pos c2 (ev_some rfl))))), fun x => ⟨.inl, fun h => ?_⟩, by omega⟩
    rcases h with h | h
    ·exact h
    ·rw [h, ← c2, rd_get hs]; exact List.getElem_mem hs
   ·refine ⟨_, st_spec_l1Put_l0 (ev_pos (by omega) (ev_pos (by omega) (ev_neg c1 (ev_neg c2 (ev_pos (by omega) (ev_bindc rfl ?_)))))), (mid s h2).1, by rw [(mid s h2).2]; exact Nat.le_refl _⟩
    rw [Int.toNat_natCast]
    exact put s h2
 exact go K.length 0 (by omega) (by omega)
theorem press_ev (K : List Int) (hK : K.length ≤ 1048000) (t key : Int) (down : Bool) : ∃ K', Ev (fun k => spec_l17Press.f k K t key down) K' ∧ (∀ x, x ∈ K' ↔ (x = key ∧ down = true) ∨ (x ≠ key ∧ x ∈ K)) ∧ K'.length ≤ K.length + 1 := by
 cases down with
 | true =>
  obtain ⟨K', a, b, c⟩ := put_ev K (by omega) key
  refine ⟨K', ev_pos rfl (Ev.bind a (ev_some rfl)), fun x => ?_, c⟩
  rw [b]
  by_cases e : x = key <;> simp [e]
 | false =>
  have go : ∀ (n s : Nat) (out : List Int), K.length - s = n → s ≤ K.length → out.length ≤ s → ∃ K', Ev (fun k => spec_l17Press.l0 k out K (K.length : Int) (s : Int) t key false) K' ∧ (∀ x, x ∈ K' ↔ x ∈ out ∨ (x ≠ key ∧ x ∈ K.drop s)) ∧ K'.length ≤ K.length := by
   intro n
   induction n with
   | zero =>
    intro s out h1 h2 h3
    obtain rfl : s = K.length := by omega
    refine ⟨out, st_spec_l17Press_l0 (ev_neg (by omega) (ev_some rfl)), fun x => ?_, h3⟩
    rw [List.drop_length]; simp
   | succ n ih =>
    intro s out h1 h2 h3
    have hs : s < K.length := by omega
    by_cases c1 : rd K (s : Int) = key
    ·obtain ⟨K', a, b, c⟩ := ih (s + 1) out (by omega) (by omega) (by omega)
     refine ⟨K', st_spec_l17Press_l0 (ev_pos (by omega) (ev_pos (by omega) (ev_pos (by omega) (ev_pos c1 ?_)))), fun x => ?_, c⟩
     ·rw [w64s s (by omega)]; exact a
     ·rw [b, List.drop_eq_getElem_cons hs]
      rw [rd_get hs] at c1
      by_cases e : x = key
      ·simp [e]
      ·have hne : ¬ x = K[s] := fun h => e (h.trans c1)
       rw [List.mem_cons]
       constructor
       ·rintro (h | h)
        ·exact .inl h
        ·exact .inr ⟨h.1, .inr h.2⟩
       ·rintro (h | ⟨h, h4 | h4⟩)
        ·exact .inl h
        ·exact absurd h4 hne
        ·exact .inr ⟨h, h4⟩
    ·obtain ⟨K', a, b, c⟩ := ih (s + 1) (out ++ [rd K (s : Int)]) (by omega) (by omega) (by simp; omega)
     refine ⟨K', st_spec_l17Press_l0 (ev_pos (by omega) (ev_pos (by omega) (ev_pos (by omega) (ev_neg c1 (ev_pos (by omega) ?_))))), fun x => ?_, c⟩
     ·rw [w64s s (by omega)]; exact a
     ·rw [b, List.drop_eq_getElem_cons hs, rd_get hs]
      rw [rd_get hs] at c1
      rw [List.mem_append, List.mem_singleton, List.mem_cons]
      constructor
      ·rintro ((h | h) | h)
       ·exact .inl h
       ·exact .inr ⟨by rw [h]; exact c1, .inl h⟩
       ·exact .inr ⟨h.1, .inr h.2⟩
      ·rintro (h | ⟨h, h2 | h2⟩)
       ·exact .inl (.inl h)
       ·exact .inl (.inr h2)
       ·exact .inr ⟨h, h2⟩
  obtain ⟨K', a, b, c⟩ := go K.length 0 [] (by omega) (by omega) (by simp)
  refine ⟨K', ev_neg (by decide) a, fun x => ?_, by omega⟩
  rw [b]
  simp
def Held (h : List Bool) (K : List Int) : Prop := h.length = 100 ∧ ∀ x : Int, 0 ≤ x → x < 100 → (h.getD x.toNat false = true ↔ x ∈ K)
theorem held_press {h : List Bool} {K K' : List Int} (hh : Held h K) (key : Int) (down : Bool) (h0 : 0 ≤ key) (h1 : key < 100) (hK : ∀ x, x ∈ K' ↔ (x = key ∧ down = true) ∨ (x ≠ key ∧ x ∈ K)) : Held (h.set key.toNat down) K' := by
 refine ⟨by rw [List.length_set]; exact hh.1, fun x x0 x1 => ?_⟩
 rw [hK, List.getD_eq_getElem?_getD, List.getElem?_set]
 by_cases e : x = key
 ·subst e
  rw [if_pos rfl, if_pos (by rw [hh.1]; omega)]
  simp
 ·rw [if_neg (by omega), ← List.getD_eq_getElem?_getD, hh.2 x x0 x1]
  simp [e]
theorem allC_eq {h : List Bool} {K : List Int} (hh : Held h K) (c : List Int) (hc : ∀ x ∈ c, 0 ≤ x ∧ x < 100) : allC h c = true ↔ ∀ x ∈ c, x ∈ K := by
 unfold allC keyP
 rw [Bool.not_eq_true', List.any_eq_false]
 constructor
 ·intro h1 x hx
  have := h1 x hx
  exact (hh.2 x (hc x hx).1 (hc x hx).2).1 (by simpa using this)
 ·intro h1 x hx
  have := (hh.2 x (hc x hx).1 (hc x hx).2).2 (h1 x hx)
  rw [this]; decide
theorem notIn_any (c d : List Int) : (!(c.any (notIn d))) = true ↔ ∀ x ∈ c, x ∈ d := by
 unfold notIn
 rw [Bool.not_eq_true', List.any_eq_false]
 constructor
 ·intro h x hx
  have := h x hx
  simp only [Bool.not_eq_true, Bool.not_eq_false', List.any_eq_true, beq_iff_eq] at this
  obtain ⟨y, hy, e⟩ := this
  rw [e]; exact hy
 ·intro h x hx
  have := h x hx
  simp only [Bool.not_eq_true, Bool.not_eq_false', List.any_eq_true, beq_iff_eq]
  exact ⟨x, this, rfl⟩
structure Good (h : List Bool) (K : List Int) (l : List S50) : Prop where
 held : Held h K
 klen : K.length ≤ 1000000
 len : l.length ≤ 20
 fit : ∀ x ∈ l, x.f1.length ≤ 1048576
 key : ∀ x ∈ l, ∀ y ∈ x.f1, 0 ≤ y ∧ y < 100
theorem set_rd (out : List Bool) (i : Nat) (hi : i < out.length) (v : Bool) : rdOf false (out.set i v) (i : Int) = v := by
 rw [rdOf_get (by rw [List.length_set]; exact hi), List.getElem_set_self]
theorem set_same (out : List Bool) (i : Nat) (hi : i < out.length) : out.set i (rdOf false out (i : Int)) = out := by
 rw [rdOf_get hi]; exact List.set_getElem_self hi
theorem inner_ev {h : List Bool} {K : List Int} {l : List S50} (g : Good h K l) (i : Nat) (hi : i < l.length) (r : List Bool) : ∀ (n j : Nat), l.length - j = n → j ≤ l.length → ∀ out : List Bool, out.length = l.length →
  Ev (fun k => spec_l17Holds.l0 k l K (out.set i (rdOf false out (i : Int) && !((l.drop j).any (longer h l[i])))) l (l.length : Int) ((i + 1 : Nat) : Int)) r →
  Ev (fun k => spec_l17Holds.l1 k l K out (i : Int) l (l.length : Int) (i : Int) l (l.length : Int) (j : Int) l[i].f0 l[i].f1) r := by
 intro n
 induction n with
 | zero =>
  intro j h1 h2 out ho hr
  obtain rfl : j = l.length := by omega
  rw [List.drop_length] at hr
  have e : (rdOf false out (i : Int) && !(([] : List S50).any (longer h l[i]))) = rdOf false out (i : Int) := by simp
  rw [e, set_same out i (by omega)] at hr
  refine st_spec_l17Holds_l1 (ev_neg (by omega) ?_)
  rw [w64s i (by have := g.len; omega)]
  exact hr
 | succ n ih =>
  intro j h1 h2 out ho hr
  have hj : j < l.length := by omega
  have hlen := g.len
  have hmj := List.getElem_mem hj
  have hmi := List.getElem_mem hi
  rw [List.drop_eq_getElem_cons hj, List.any_cons] at hr
  obtain ⟨a1, ha1⟩ : ∃ a, a = allC h l[j].f1 := ⟨_, rfl⟩
  obtain ⟨a2, ha2⟩ : ∃ a, a = !(l[i].f1.any (notIn l[j].f1)) := ⟨_, rfl⟩
  have e1 := all_ev l[j].f1 K (g.fit _ hmj) (by have := g.klen; omega) a1 (by rw [ha1]; exact allC_eq g.held _ (g.key _ hmj))
  have e2 := all_ev l[i].f1 l[j].f1 (g.fit _ hmi) (g.fit _ hmj) a2 (by rw [ha2]; exact notIn_any _ _)
  have lg : longer h l[i] l[j] = (decide (l[j].f1.length > l[i].f1.length) && (a1 && a2)) := by rw [ha1, ha2]; rfl
  rw [lg] at hr
  have next : ∀ out2 : List Bool, out2.length = l.length → Ev (fun k => spec_l17Holds.l0 k l K (out2.set i (rdOf false out2 (i : Int) && !((l.drop (j + 1)).any (longer h l[i])))) l (l.length : Int) ((i + 1 : Nat) : Int)) r → Ev (fun k => spec_l17Holds.l1 k l K out2 (i : Int) l (l.length : Int) (i : Int) l (l.length : Int) (wrap64 ((j : Int) + 1)) l[i].f0 l[i].f1) r := fun out2 h2' hr2 => by
   rw [w64s j (by omega)]
   exact ih (j + 1) (by omega) (by omega) out2 h2' hr2
  refine st_spec_l17Holds_l1 (ev_pos (by omega) (ev_pos (by omega) (ev_pos (by omega) ?_)))
  rw [rdb_get hj]
  by_cases c1 : l[j].f1.length > l[i].f1.length
  ·refine ev_pos (by omega) (Ev.bind e1 ?_)
   rw [decide_eq_true c1] at hr
   cases a1 with
   | false =>
    refine ev_neg (by decide) (next out ho ?_)
    simpa using hr
   | true =>
    refine ev_pos rfl (Ev.bind e2 ?_)
    cases a2 with
    | false =>
     refine ev_neg (by decide) (next out ho ?_)
     simpa using hr
    | true =>
     refine ev_pos rfl (ev_pos (by omega) (ev_pos (by omega) ?_))
     rw [Int.toNat_natCast]
     refine next (out.set i false) (by rw [List.length_set]; exact ho) ?_
     rw [set_rd out i (by omega)]
     simpa using hr
  ·refine ev_neg (by omega) (next out ho ?_)
   rw [decide_eq_false c1] at hr
   simpa using hr
theorem holds_ev {h : List Bool} {K : List Int} {l : List S50} (g : Good h K l) : Ev (fun k => spec_l17Holds.f k l K) (holdsL h l) := by
 have hlen := g.len
 have go : ∀ (n i : Nat), l.length - i = n → i ≤ l.length → ∀ out : List Bool, out.length = l.length → Ev (fun k => spec_l17Holds.l0 k l K out l (l.length : Int) (i : Int)) (out.take i ++ (l.drop i).map (holdsOf h l)) := by
  intro n
  induction n with
  | zero =>
   intro i h1 h2 out ho
   obtain rfl : i = l.length := by omega
   refine st_spec_l17Holds_l0 (ev_neg (by omega) (ev_some ?_))
   rw [List.drop_length, List.take_of_length_le (by omega)]; simp
  | succ n ih =>
   intro i h1 h2 out ho
   have hi : i < l.length := by omega
   have hmi := List.getElem_mem hi
   obtain ⟨a, ha⟩ : ∃ a, a = allC h l[i].f1 := ⟨_, rfl⟩
   have e1 := all_ev l[i].f1 K (g.fit _ hmi) (by have := g.klen; omega) a (by rw [ha]; exact allC_eq g.held _ (g.key _ hmi))
   refine st_spec_l17Holds_l0 (ev_pos (by omega) (ev_pos (by omega) (ev_pos (by omega) ?_)))
   rw [rdb_get hi]
   refine Ev.bind e1 (ev_pos (by omega) ?_)
   rw [Int.toNat_natCast]
   refine inner_ev g i hi _ l.length 0 (by omega) (by omega) (out.set i a) (by rw [List.length_set]; exact ho) ?_
   rw [set_rd out i (by omega), List.drop_zero, List.set_set]
   have hv : (a && !(l.any (longer h l[i]))) = holdsOf h l l[i] := by rw [ha]; rfl
   rw [hv]
   have := ih (i + 1) (by omega) (by omega) (out.set i (holdsOf h l l[i])) (by rw [List.length_set]; exact ho)
   have e : (out.set i (holdsOf h l l[i])).take (i + 1) ++ (l.drop (i + 1)).map (holdsOf h l) = out.take i ++ (l.drop i).map (holdsOf h l) := by
    rw [List.take_succ_eq_append_getElem (by rw [List.length_set]; omega), List.getElem_set_self, List.drop_eq_getElem_cons hi, List.map_cons, List.append_assoc]
    congr 1
    rw [List.take_set_of_le (Nat.le_refl i)]
   rw [e] at this
   exact this
 refine ev_pos (by omega) (ev_pos (by omega) ?_)
 have := go l.length 0 (by omega) (by omega) (List.replicate (((l.length : Int)).toNat) false) (by simp)
 simpa [holdsL] using this
theorem newsOf_cons (t : Int) (b : S50) (l : List S50) (n a : Bool) (ns os : List Bool) : newsOf t (b :: l) (n :: ns) (a :: os) = if (n == a) = true then newsOf t l ns os else ⟨t, b.f0, n⟩ :: newsOf t l ns os := rfl
theorem meant_ev {l : List S50} (es : List S47) (he : es.length ≤ 200) (hes : ∀ e ∈ es, 0 ≤ e.f1 ∧ e.f1 < 100) (hl : l.length ≤ 20) (hfit : ∀ x ∈ l, x.f1.length ≤ 1048576) (hkey : ∀ x ∈ l, ∀ y ∈ x.f1, 0 ≤ y ∧ y < 100) :
  ∀ (n i : Nat), es.length - i = n → i ≤ es.length → ∀ (h : List Bool) (K : List Int) (out : List S31) (was : List Bool), Held h K → K.length ≤ i → was.length = l.length → out.length ≤ i * 20 →
   Ev (fun k => spec_MeantBy.l0 k l out K was es (es.length : Int) (i : Int)) (meantGo l h was (es.drop i) out, true) := by
 intro n
 induction n with
 | zero =>
  intro i h1 h2 h K out was hh hk hw ho
  obtain rfl : i = es.length := by omega
  refine st_spec_MeantBy_l0 (ev_neg (by omega) (ev_some ?_))
  rw [List.drop_length]; rfl
 | succ n ih =>
  intro i h1 h2 h K out was hh hk hw ho
  have hi : i < es.length := by omega
  have hme := List.getElem_mem hi
  obtain ⟨k0, k1⟩ := hes _ hme
  obtain ⟨K', p1, p2, p3⟩ := press_ev K (by omega) es[i].f0 es[i].f1 es[i].f2
  have hh' := held_press hh es[i].f1 es[i].f2 k0 k1 p2
  have hv := holds_ev (h := h.set es[i].f1.toNat es[i].f2) (K := K') (l := l) ⟨hh', by omega, hl, hfit, hkey⟩
  obtain ⟨now, hnow⟩ : ∃ x, x = holdsL (h.set es[i].f1.toNat es[i].f2) l := ⟨_, rfl⟩
  have hnl : now.length = l.length := by rw [hnow]; unfold holdsL; rw [List.length_map]
  rw [← hnow] at hv
  refine st_spec_MeantBy_l0 (ev_pos (by omega) (ev_pos (by omega) (ev_pos (by omega) ?_)))
  rw [rdp_get hi]
  refine Ev.bind p1 (Ev.bind hv ?_)
  rw [List.drop_eq_getElem_cons hi]
  unfold meantGo
  rw [← hnow]
  have inner : ∀ (n j : Nat), l.length - j = n → j ≤ l.length → ∀ o2 : List S31, o2.length ≤ i * 20 + j → o2 ++ newsOf es[i].f0 (l.drop j) (now.drop j) (was.drop j) = out ++ newsOf es[i].f0 l now was →
    Ev (fun k => spec_MeantBy.l1 k l o2 K' was now es (es.length : Int) (i : Int) l (l.length : Int) (j : Int) es[i].f0 es[i].f1 es[i].f2) (meantGo l (h.set es[i].f1.toNat es[i].f2) now (es.drop (i + 1)) (out ++ newsOf es[i].f0 l now was), true) := by
   intro n
   induction n with
   | zero =>
    intro j g1 g2 o2 g3 g4
    obtain rfl : j = l.length := by omega
    rw [List.drop_length] at g4
    have e : o2 = out ++ newsOf es[i].f0 l now was := by rw [← g4]; unfold newsOf; simp
    rw [← e]
    refine st_spec_MeantBy_l1 (ev_neg (by omega) ?_)
    rw [w64s i (by omega)]
    exact ih (i + 1) (by omega) (by omega) _ K' o2 now hh' (by omega) hnl (by omega)
   | succ n ihn =>
    intro j g1 g2 o2 g3 g4
    have hj : j < l.length := by omega
    refine st_spec_MeantBy_l1 (ev_pos (by omega) (ev_pos (by omega) (ev_pos (by omega) (ev_pos (by omega) (ev_pos (by omega) ?_)))))
    rw [rdb_get hj, rdOf_get (show j < now.length by omega), rdOf_get (show j < was.length by omega), w64s j (by omega)]
    rw [List.drop_eq_getElem_cons hj, List.drop_eq_getElem_cons (show j < now.length by omega), List.drop_eq_getElem_cons (show j < was.length by omega)] at g4
    rw [newsOf_cons] at g4
    by_cases c : (now[j]'(by omega) == was[j]'(by omega)) = true
    ·rw [if_pos c] at g4
     refine ev_neg (by simpa using c) (ihn (j + 1) (by omega) (by omega) o2 (by omega) g4)
    ·rw [if_neg c] at g4
     refine ev_pos (by simpa using c) (ev_pos (by omega) (ihn (j + 1) (by omega) (by omega) _ (by rw [List.length_append]; simp; omega) ?_))
     rw [List.append_assoc]
     exact g4
  exact inner l.length 0 (by omega) (by omega) out (by omega) (by simp)
theorem cmp_lt : ∀ (a b : List UInt8), Lib.compareBytes a b < 0 ↔ Op.bytesLess a b = true
 | [], [] => by simp [Lib.compareBytes, Op.bytesLess]
 | [], _ :: _ => by simp [Lib.compareBytes, Op.bytesLess]
 | _ :: _, [] => by simp [Lib.compareBytes, Op.bytesLess]
 | x :: a, y :: b => by
  have ih := cmp_lt a b
  unfold Lib.compareBytes Op.bytesLess
  by_cases h : x < y
  ·simp [h]
  ·by_cases h2 : y < x
   ·have : x ≠ y := fun e => by subst e; exact h h2
    simp [h, h2, this]
   ·have : x = y := UInt8.le_antisymm (UInt8.not_lt.1 h2) (UInt8.not_lt.1 h)
    subst this
    simpa [h] using ih
theorem cmp_eq : ∀ (a b : List UInt8), Lib.compareBytes a b = 0 ↔ a = b
 | [], [] => by simp [Lib.compareBytes]
 | [], _ :: _ => by simp [Lib.compareBytes]
 | _ :: _, [] => by simp [Lib.compareBytes]
 | x :: a, y :: b => by
  have ih := cmp_eq a b
  unfold Lib.compareBytes
  by_cases h : x < y
  ·have : x ≠ y := fun e => by subst e; exact UInt8.lt_irrefl _ h
   simp [h, this]
  ·by_cases h2 : y < x
   ·have : x ≠ y := fun e => by subst e; exact h h2
    simp [h, h2, this]
   ·have : x = y := UInt8.le_antisymm (UInt8.not_lt.1 h2) (UInt8.not_lt.1 h)
    subst this
    simpa [h] using ih
theorem cmp_next : ∀ (a b s : List UInt8), Op.bytesLess a b = true → 0 ≤ Lib.compareBytes a s → 0 < Lib.compareBytes b s
 | [], [], _, h, _ => by simp [Op.bytesLess] at h
 | [], _ :: _, [], _, _ => by simp [Lib.compareBytes]
 | [], _ :: _, _ :: _, _, h => by simp [Lib.compareBytes] at h
 | _ :: _, [], _, h, _ => by simp [Op.bytesLess] at h
 | _ :: _, _ :: _, [], _, _ => by simp [Lib.compareBytes]
 | x :: a, y :: b, z :: s, h, k => by
  have ih := cmp_next a b s
  unfold Op.bytesLess at h
  unfold Lib.compareBytes at k ⊢
  simp only [Bool.or_eq_true, decide_eq_true_eq, Bool.and_eq_true, beq_iff_eq] at h
  by_cases h1 : x < z
  ·simp [h1] at k
  ·have hzx : z ≤ x := UInt8.not_lt.1 h1
   rcases h with h | ⟨rfl, h⟩
   ·have hzy : z < y := UInt8.lt_of_le_of_lt hzx h
    have : ¬ y < z := fun h' => UInt8.lt_irrefl _ (UInt8.lt_trans hzy h')
    simp [hzy, this]
   ·simp only [h1, if_false] at k ⊢
    by_cases h2 : z < x
    ·simp [h2]
    ·simp only [h2, if_false] at k ⊢
     exact ih h k
theorem less_trans (a b c : List UInt8) (h : Op.bytesLess a b = true) (k : Op.bytesLess b c = true) : Op.bytesLess a c = true := by
 rcases Int.lt_or_le (Lib.compareBytes a c) 0 with g | g
 ·exact (cmp_lt a c).1 g
 ·have h1 := cmp_next a b c h g
  have h2 := (cmp_lt b c).2 k
  omega
theorem lastOn_snoc (a : ByteArray) : ∀ (xs : List S31) (m : S31) (on : Bool), lastOn a (xs ++ [m]) on = if (m.f1.toList == a.toList) = true then m.f2 else lastOn a xs on
 | [], m, on => rfl
 | x :: xs, m, on => lastOn_snoc a xs m _
theorem rdm_get {l : List S31} {i : Nat} (h : i < l.length) : rd_T31 l (i : Int) = l[i] := by simp [rd_T31, List.getD_eq_getElem?_getD, h]
theorem alt_snoc {out : List S31} (ha : AltOn out) (m : S31) (hm : (lastOn m.f1 out false == m.f2) = false) : AltOn (out ++ [m]) := by
 intro i hi
 rw [List.length_append, List.length_singleton] at hi
 rcases Nat.lt_or_ge i out.length with h | h
 ·have := ha i h
  rw [rdm_get h] at this
  rw [rdm_get (by rw [List.length_append]; omega), List.getElem_append_left h, List.take_append_of_le_length (by omega)]
  exact this
 ·obtain rfl : i = out.length := by omega
  rw [rdm_get (by rw [List.length_append]; simp), List.getElem_append_right (Nat.le_refl _)]
  simp only [Nat.sub_self, List.getElem_cons_zero, List.take_left]
  exact hm
def Apart (l : List S50) : Prop := l.Pairwise fun x y => (x.f0.toList == y.f0.toList) = false
theorem news_inv (t : Int) : ∀ (l : List S50) (ns os : List Bool) (out : List S31), ns.length = l.length → os.length = l.length → AltOn out → Apart l → (∀ (j : Nat) (h1 : j < l.length) (h2 : j < os.length), lastOn l[j].f0 out false = os[j]) →
  AltOn (out ++ newsOf t l ns os) ∧ (∀ (j : Nat) (h1 : j < l.length) (h2 : j < ns.length), lastOn l[j].f0 (out ++ newsOf t l ns os) false = ns[j]) ∧ ∀ a : ByteArray, (∀ b ∈ l, (b.f0.toList == a.toList) = false) → lastOn a (out ++ newsOf t l ns os) false = lastOn a out false
 | [], [], [], out, _, _, ha, _, _ => by
  have e : newsOf t [] [] [] = [] := rfl
  rw [e, List.append_nil]
  exact ⟨ha, fun j h1 => absurd h1 (Nat.not_lt_zero j), fun _ _ => rfl⟩
 | b :: l, n :: ns, o :: os, out, hn, ho, ha, hp, hl => by
  rw [newsOf_cons]
  have hp1 := (List.pairwise_cons.1 hp).1
  have hp2 := (List.pairwise_cons.1 hp).2
  have h0 : lastOn b.f0 out false = o := hl 0 (by simp) (by simp)
  have sym : ∀ x ∈ l, (x.f0.toList == b.f0.toList) = false := fun x hx => by
   have := hp1 x hx
   rw [beq_eq_false_iff_ne] at this ⊢
   exact fun e => this e.symm
  simp only [List.length_cons] at hn ho
  by_cases c : (n == o) = true
  ·rw [if_pos c]
   obtain ⟨r1, r2, r3⟩ := news_inv t l ns os out (by omega) (by omega) ha hp2 (fun j h1 h2 => hl (j + 1) (by simp; omega) (by simp; omega))
   refine ⟨r1, fun j h1 h2 => ?_, fun a hall => r3 a (fun x hx => hall x (List.mem_cons_of_mem _ hx))⟩
   cases j with
   | zero =>
    show lastOn b.f0 _ false = n
    rw [r3 b.f0 sym, h0]
    exact (beq_iff_eq.1 c).symm
   | succ j => exact r2 j (by simpa using h1) (by simpa using h2)
  ·rw [if_neg c]
   have e : out ++ (⟨t, b.f0, n⟩ : S31) :: newsOf t l ns os = (out ++ [(⟨t, b.f0, n⟩ : S31)]) ++ newsOf t l ns os := by rw [List.append_assoc]; rfl
   rw [e]
   have ha2 : AltOn (out ++ [(⟨t, b.f0, n⟩ : S31)]) := alt_snoc ha _ (by
    show (lastOn b.f0 out false == n) = false
    rw [h0, beq_eq_false_iff_ne]
    exact fun e => c (beq_iff_eq.2 e.symm))
   have hb : (b.f0.toList == b.f0.toList) = true := beq_iff_eq.2 rfl
   obtain ⟨r1, r2, r3⟩ := news_inv t l ns os (out ++ [(⟨t, b.f0, n⟩ : S31)]) (by omega) (by omega) ha2 hp2 (fun j h1 h2 => by
    have hj := hl (j + 1) (by simp; omega) (by simp; omega)
    simp only [List.getElem_cons_succ] at hj
    rw [lastOn_snoc, if_neg (by rw [hp1 l[j] (List.getElem_mem _)]; decide)]
    exact hj)
   refine ⟨r1, fun j h1 h2 => ?_, fun a hall => ?_⟩
   ·cases j with
    | zero =>
     show lastOn b.f0 _ false = n
     rw [r3 b.f0 sym, lastOn_snoc, if_pos hb]
    | succ j => exact r2 j (by simpa using h1) (by simpa using h2)
   ·rw [r3 a (fun x hx => hall x (List.mem_cons_of_mem _ hx)), lastOn_snoc, if_neg (by rw [hall b (List.mem_cons_self ..)]; decide)]
theorem go_alt (l : List S50) (hp : Apart l) : ∀ (es : List S47) (h was : List Bool) (out : List S31), was.length = l.length → AltOn out → (∀ (j : Nat) (h1 : j < l.length) (h2 : j < was.length), lastOn l[j].f0 out false = was[j]) → AltOn (meantGo l h was es out)
 | [], _, _, out, _, ha, _ => ha
 | e :: es, h, was, out, hw, ha, hl => by
  have hn : (holdsL (h.set e.f1.toNat e.f2) l).length = l.length := by unfold holdsL; rw [List.length_map]
  obtain ⟨r1, r2, _⟩ := news_inv e.f0 l (holdsL (h.set e.f1.toNat e.f2) l) was out hn hw ha hp hl
  exact go_alt l hp es _ _ _ hn r1 r2
theorem less_irrefl (a : List UInt8) : ¬ Op.bytesLess a a = true := fun h => by
 have h1 := (cmp_lt a a).2 h
 have h2 := (cmp_eq a a).2 rfl
 omega
theorem binds_apart {l : List S50} (hb : BindsOk l) : Apart l := by
 have up : ∀ (n i j : Nat), j - i = n → i < j → j < l.length → Op.bytesLess (rd_T50 l (i : Int)).f0.toList (rd_T50 l (j : Int)).f0.toList = true := by
  intro n
  induction n with
  | zero => intro i j h1 h2; omega
  | succ n ih =>
   intro i j h1 h2 h3
   have hj := (hb.2 j h3).2.2.1 (by omega)
   have e : ((j : Int) - 1) = ((j - 1 : Nat) : Int) := by omega
   rw [e] at hj
   by_cases c : i = j - 1
   ·rw [c]; exact hj
   ·exact less_trans _ _ _ (ih i (j - 1) (by omega) (by omega) (by omega)) hj
 refine List.pairwise_iff_getElem.2 fun i j h1 h2 h3 => ?_
 have := up (j - i) i j rfl h3 h2
 rw [rdb_get h1, rdb_get h2] at this
 rw [beq_eq_false_iff_ne]
 intro e
 rw [e] at this
 exact less_irrefl _ this
theorem held_none : Held (List.replicate 100 false) [] := ⟨by simp, fun x h0 h1 => by
 rw [List.getD_eq_getElem?_getD, List.getElem?_replicate]
 split <;> simp⟩
theorem ok_keys {l : List S50} (hb : BindsOk l) : ∀ x ∈ l, (1 ≤ x.f1.length ∧ x.f1.length ≤ 4) ∧ ∀ y ∈ x.f1, 0 ≤ y ∧ y < 100 := fun x hx => by
 obtain ⟨i, hi, rfl⟩ := List.getElem_of_mem hx
 have h := (hb.2 i hi).2.1
 rw [rdb_get hi] at h
 refine ⟨h.1, fun y hy => ?_⟩
 obtain ⟨j, hj, rfl⟩ := List.getElem_of_mem hy
 have := (h.2 j hj).1
 rw [rd_get hj] at this
 omega
theorem none_holds {l : List S50} (hb : BindsOk l) : holdsL (List.replicate 100 false) l = List.replicate l.length false := by
 unfold holdsL
 rw [List.eq_replicate_iff]
 refine ⟨by rw [List.length_map], fun b hbm => ?_⟩
 obtain ⟨x, hx, rfl⟩ := List.mem_map.1 hbm
 obtain ⟨h1, h2⟩ := ok_keys hb x hx
 have : ¬ allC (List.replicate 100 false) x.f1 = true := fun h => by
  have h3 := (allC_eq held_none x.f1 h2).1 h
  have h4 := h3 x.f1[0] (List.getElem_mem (by omega))
  cases h4
 unfold holdsOf
 rw [Bool.eq_false_iff.mpr this]
 rfl
theorem ok_events {es : List S47} (he : EventsOk es) : ∀ e ∈ es, 0 ≤ e.f1 ∧ e.f1 < 100 := fun e hm => by
 obtain ⟨i, hi, rfl⟩ := List.getElem_of_mem hm
 have h := (he.2 i hi).2.1
 rw [rdp_get hi] at h
 omega
theorem meant_same (l : List S50) (hl : l.length ≤ 1048576) (hf : ∀ x ∈ l, BFit x) (es : List S47) (he : es.length ≤ 1048576) :
  ∃ (out : List S31) (ok : Bool), Ev (fun k => impl_MeantBy.f k l es) (out, ok) ∧ Ev (fun k => spec_MeantBy.f k l es) (out, ok) ∧ AltOn out := by
 have none : AltOn ([] : List S31) := fun i hi => absurd hi (Nat.not_lt_zero i)
 obtain ⟨b1, hb1⟩ := bool_of (BindsOk l)
 obtain ⟨b2, hb2⟩ := bool_of (EventsOk es)
 have s1 := binds_spec l hl hf b1 hb1
 have i1 := binds_impl l hl hf b1 hb1
 have s2 := events_spec es b2 hb2
 have i2 := events_impl es he b2 hb2
 have jt : Ev (fun k => spec_MeantBy.j0 k l es true) ([], false) := st_spec_MeantBy_j0 (ev_pos rfl (ev_some rfl))
 cases b1 with
 | false => exact ⟨[], false, Ev.bind i1 (ev_neg (by decide) (ev_some rfl)), Ev.bind s1 (ev_neg (by decide) jt), none⟩
 | true =>
  cases b2 with
  | false => exact ⟨[], false, Ev.bind i1 (ev_pos rfl (Ev.bind i2 (ev_neg (by decide) (ev_some rfl)))), Ev.bind s1 (ev_pos rfl (Ev.bind s2 jt)), none⟩
  | true =>
   have hB := hb1.1 rfl
   have hE := hb2.1 rfl
   have hk := ok_keys hB
   have core := meant_ev (l := l) es hE.1 (ok_events hE) hB.1 (fun x hx => by have := (hk x hx).1; omega) (fun x hx => (hk x hx).2) es.length 0 (by omega) (by omega) (List.replicate 100 false) [] [] (List.replicate l.length false) held_none (by simp) (by simp) (by simp)
   rw [List.drop_zero] at core
   refine ⟨meantGo l (List.replicate 100 false) (holdsL (List.replicate 100 false) l) es [], true, Ev.bind i1 (ev_pos rfl (Ev.bind i2 (ev_pos rfl (ev_pos ⟨by have := hB.1; omega, by have := hE.1; omega, fun x hx => (hk x hx).2, ok_events hE⟩ (ev_some rfl))))), Ev.bind s1 (ev_pos rfl (Ev.bind s2 (st_spec_MeantBy_j0 (ev_neg (by decide) (ev_pos (by omega) (ev_pos (by omega) ?_)))))), ?_⟩
   ·rw [none_holds hB]
    simpa using core
   ·rw [none_holds hB]
    exact go_alt l (binds_apart hB) es _ _ [] (by simp) none (fun j h1 h2 => by simp [lastOn])
theorem and255 (a : Int) : 0 ≤ Go.bits .and .u64 a 255 ∧ Go.bits .and .u64 a 255 ≤ 255 := by
 have h : (BitVec.ofInt 64 a &&& BitVec.ofInt 64 255).toNat ≤ 255 := by
  rw [BitVec.toNat_and]
  exact Nat.le_trans Nat.and_le_right (by decide)
 have e : Go.bits .and .u64 a 255 = IntKind.u64.wrap (((BitVec.ofInt 64 a &&& BitVec.ofInt 64 255).toNat : Nat) : Int) := rfl
 rw [e, wrap_u64 (by omega) (by omega)]
 omega
theorem next_some (code : List Int) (hc : ∀ y ∈ code, InU8 y) (at_ seed : Int) (h0 : 0 ≤ at_) (h1 : at_ ≤ 1099511627776) : ∃ v s, spec_l1Cur_next.f code at_ seed = some (v, at_ + 1, s) ∧ 0 ≤ v ∧ v < 256 := by
 have e : wrap64 (at_ + 1) = at_ + 1 := w64 (by omega) (by omega)
 have hw : ∀ a : Int, wrap64 (Go.bits .and .u64 a 255) = Go.bits .and .u64 a 255 := fun a => by have := and255 a; exact w64 (by omega) (by omega)
 unfold spec_l1Cur_next.f
 rw [e]
 by_cases h : at_ < (code.length : Int)
 ·obtain ⟨i, rfl⟩ : ∃ i : Nat, at_ = (i : Int) := ⟨at_.toNat, by omega⟩
  have hv : 0 ≤ rd code (i : Int) ∧ rd code (i : Int) < 256 := by
   rw [rd_get (by omega)]
   have := hc _ (List.getElem_mem (by omega : i < code.length))
   exact ⟨this.1, by have := this.2; omega⟩
  have hr : wrap64 (rd code (i : Int)) = rd code (i : Int) := w64 (by omega) (by omega)
  rw [if_pos h, if_pos h0, hr]
  by_cases h2 : (i : Int) + 1 ≤ (code.length : Int)
  ·rw [if_pos h2]; exact ⟨_, _, rfl, hv.1, hv.2⟩
  ·rw [if_neg h2, hw]; exact ⟨_, _, rfl, (and255 _).1, by have := (and255 (IntKind.u64.wrap ((IntKind.u64.wrap ((IntKind.u64.wrap (seed * 6364136223846793005)) + (IntKind.u64.wrap (rd code (i : Int))))) + 1442695040888963407) / 1099511627776)).2; omega⟩
 ·rw [if_neg h]
  by_cases h2 : at_ + 1 ≤ (code.length : Int)
  ·rw [if_pos h2]; exact ⟨0, _, rfl, by omega, by omega⟩
  ·rw [if_neg h2, hw]; exact ⟨_, _, rfl, (and255 _).1, by have := (and255 (IntKind.u64.wrap ((IntKind.u64.wrap ((IntKind.u64.wrap (seed * 6364136223846793005)))) + 1442695040888963407) / 1099511627776)).2; omega⟩
theorem pick_some (code : List Int) (hc : ∀ y ∈ code, InU8 y) (at_ seed n : Int) (h0 : 0 ≤ at_) (h1 : at_ ≤ 1099511627776) (n1 : 1 ≤ n) (n2 : n ≤ 200) : ∃ v a s, spec_l1Cur_pick.f code at_ seed n = some (v, a, s) ∧ 0 ≤ v ∧ v < n ∧ at_ ≤ a ∧ a ≤ at_ + 1 := by
 unfold spec_l1Cur_pick.f
 by_cases h : n ≤ 1
 ·rw [if_pos h]; exact ⟨0, at_, seed, rfl, by omega, by omega, by omega, by omega⟩
 ·obtain ⟨v, s, hv, v0, v1⟩ := next_some code hc at_ seed h0 h1
  rw [if_neg h, hv]
  simp only [Option.bind_some]
  rw [if_neg (by omega), if_neg (by omega)]
  refine ⟨Int.tmod v n, at_ + 1, s, rfl, Int.tmod_nonneg _ v0, Int.tmod_lt_of_pos _ (by omega), by omega, by omega⟩
theorem one_some (code : List Int) (hc : ∀ y ∈ code, InU8 y) (at_ seed n : Int) (h0 : 0 ≤ at_) (h1 : at_ ≤ 1099511627776) (n1 : 1 ≤ n) (n2 : n ≤ 200) : ∃ v a s, spec_l1Cur_one.f code at_ seed n = some (v, a, s) ∧ at_ ≤ a ∧ a ≤ at_ + 1 := by
 obtain ⟨v, a, s, e, _, _, g2, g3⟩ := pick_some code hc at_ seed n h0 h1 n1 n2
 exact ⟨v == 0, a, s, by unfold spec_l1Cur_one.f; rw [e]; rfl, g2, g3⟩
theorem among_some (code : List Int) (hc : ∀ y ∈ code, InU8 y) (at_ seed : Int) (l : List Int) (h0 : 0 ≤ at_) (h1 : at_ ≤ 1099511627776) (n1 : 1 ≤ l.length) (n2 : l.length ≤ 200) : ∃ v a s, spec_l1Cur_among.f code at_ seed l = some (v, a, s) ∧ at_ ≤ a ∧ a ≤ at_ + 1 := by
 obtain ⟨v, a, s, e, g0, g1, g2, g3⟩ := pick_some code hc at_ seed (l.length : Int) h0 h1 (by omega) (by omega)
 exact ⟨_, a, s, by unfold spec_l1Cur_among.f; rw [e, Option.bind_some, if_pos g0, if_pos g1], g2, g3⟩
theorem of_some (code : List Int) (hc : ∀ y ∈ code, InU8 y) (at_ seed : Int) (l : List ByteArray) (h0 : 0 ≤ at_) (h1 : at_ ≤ 1099511627776) (n1 : 1 ≤ l.length) (n2 : l.length ≤ 200) : ∃ v a s, spec_l1Cur_of.f code at_ seed l = some (v, a, s) ∧ v ∈ l ∧ at_ ≤ a ∧ a ≤ at_ + 1 := by
 obtain ⟨v, a, s, e, g0, g1, g2, g3⟩ := pick_some code hc at_ seed (l.length : Int) h0 h1 (by omega) (by omega)
 refine ⟨_, a, s, by unfold spec_l1Cur_of.f; rw [e, Option.bind_some, if_pos g0, if_pos g1], ?_, g2, g3⟩
 obtain ⟨m, rfl⟩ := Int.eq_ofNat_of_zero_le g0
 have hm : m < l.length := by omega
 show (rdOf ByteArray.empty l (m : Int)) ∈ l
 rw [rdOf_get hm]
 exact List.getElem_mem hm
theorem act_some (code : List Int) (hc : ∀ y ∈ code, InU8 y) (at_ seed : Int) (h0 : 0 ≤ at_) (h1 : at_ ≤ 1099511627776) : ∃ v a s, spec_l1Cur_actName.f code at_ seed = some (v, a, s) ∧ v.size ≤ 20 ∧ at_ ≤ a ∧ a ≤ at_ + 1 := by
 obtain ⟨v, a, s, e, hv, g2, g3⟩ := of_some code hc at_ seed [(⟨#[100, 117, 99, 107]⟩ : ByteArray), (⟨#[102, 105, 114, 101]⟩ : ByteArray), (⟨#[106, 117, 109, 112]⟩ : ByteArray), (⟨#[114, 117, 110]⟩ : ByteArray)] h0 h1 (by decide) (by decide)
 refine ⟨v, a, s, by unfold spec_l1Cur_actName.f; rw [e]; rfl, ?_, g2, g3⟩
 simp only [List.mem_cons, List.not_mem_nil, or_false] at hv
 rcases hv with rfl | rfl | rfl | rfl <;> decide
theorem chord_loop (code : List Int) (hc : ∀ y ∈ code, InU8 y) : ∀ (n : Nat), n ≤ 4 → ∀ (x : List Int) (at_ seed : Int), x.length + n ≤ 8 → 0 ≤ at_ → at_ + (n : Int) ≤ 1000000000 →
  ∃ c a s, Ev (fun k => spec_l1Cur_chord.l0 k x (n : Int) code at_ seed) (c, a, s) ∧ c.length ≤ 9 ∧ at_ ≤ a ∧ a ≤ at_ + (n : Int) + 2
 | 0, _, x, at_, seed, hx, h0, h1 => by
  obtain ⟨b, a1, s1, e1, g1, g2⟩ := one_some code hc at_ seed 40 h0 (by omega) (by omega) (by omega)
  cases b with
  | false => exact ⟨x, a1, s1, st_spec_l1Cur_chord_l0 (ev_neg (by omega) (ev_bindc e1 (ev_neg (fun h_ => by cases h_) (ev_some rfl)))), by omega, g1, by omega⟩
  | true =>
   obtain ⟨v, a2, s2, e2, g3, g4⟩ := among_some code hc a1 s1 [(-1), 99, 100, 2] (by omega) (by omega) (by decide) (by decide)
   exact ⟨x ++ [v], a2, s2, st_spec_l1Cur_chord_l0 (ev_neg (by omega) (ev_bindc e1 (ev_pos rfl (ev_bindc e2 (ev_pos (by omega) (ev_some rfl)))))), by rw [List.length_append]; simp; omega, by omega, by omega⟩
 | n + 1, hn, x, at_, seed, hx, h0, h1 => by
  obtain ⟨v, a1, s1, e1, _, _, g1, g2⟩ := pick_some code hc at_ seed 5 h0 (by omega) (by omega) (by omega)
  obtain ⟨x', p1, _, p3⟩ := put_ev x (by omega) v
  obtain ⟨c, a, s, r1, r2, r3, r4⟩ := chord_loop code hc n (by omega) x' a1 s1 (by omega) (by omega) (by omega)
  refine ⟨c, a, s, st_spec_l1Cur_chord_l0 (ev_pos (by omega) (ev_bindc e1 (Ev.bind p1 ?_))), r2, by omega, by omega⟩
  have e : wrap64 (((n + 1 : Nat) : Int) - 1) = (n : Int) := by rw [w64 (by omega) (by omega)]; omega
  rw [e]
  exact r1
theorem chord_draw (code : List Int) (hc : ∀ y ∈ code, InU8 y) (at_ seed : Int) (h0 : 0 ≤ at_) (h1 : at_ ≤ 1000000) : ∃ c a s, Ev (fun k => spec_l1Cur_chord.f k code at_ seed) (c, a, s) ∧ c.length ≤ 9 ∧ at_ ≤ a ∧ a ≤ at_ + 8 := by
 obtain ⟨v, a1, s1, e1, v0, v1, g1, g2⟩ := pick_some code hc at_ seed 3 h0 (by omega) (by omega) (by omega)
 obtain ⟨c, a, s, r1, r2, r3, r4⟩ := chord_loop code hc (1 + v).toNat (by omega) [] a1 s1 (by simp; omega) (by omega) (by omega)
 refine ⟨c, a, s, ev_bindc e1 ?_, r2, by omega, by omega⟩
 have e : wrap64 (1 + v) = (((1 + v).toNat : Nat) : Int) := by rw [w64 (by omega) (by omega)]; omega
 rw [e]
 exact r1
def Fits (l : List S50) : Prop := ∀ x ∈ l, x.f0.size ≤ 1000 ∧ x.f1.length ≤ 1000
theorem fits_b {l : List S50} (h : Fits l) : ∀ x ∈ l, BFit x := fun x hx => ⟨by have := (h x hx).1; omega, by have := (h x hx).2; omega⟩
theorem fits_snoc {l : List S50} (h : Fits l) (x : S50) (h1 : x.f0.size ≤ 1000) (h2 : x.f1.length ≤ 1000) : Fits (l ++ [x]) := fun y hy => by
 rcases List.mem_append.1 hy with h' | h'
 ·exact h y h'
 ·obtain rfl := List.mem_singleton.1 h'
  exact ⟨h1, h2⟩
theorem rebind_ev (l : List S50) (hl : l.length ≤ 1000) (hf : Fits l) (a : ByteArray) (ha : a.size ≤ 1000) (c : List Int) (hcl : c.length ≤ 1000) : ∃ r, Ev (fun k => spec_Rebind.f k l a c) r ∧ (r.2.2 = true → r.1.length ≤ 20 ∧ Fits r.1) := by
 have no : ∃ r : List S50 × ByteArray × Bool, Ev (fun k => spec_Rebind.j0 k l a c true) r ∧ (r.2.2 = true → r.1.length ≤ 20 ∧ Fits r.1) := ⟨([], ⟨#[]⟩, false), st_spec_Rebind_j0 (ev_pos rfl (ev_some rfl)), fun h => by cases h⟩
 have fin : ∀ (out : List S50) (lost : ByteArray), out.length ≤ 1000000 → Fits out → ∃ r : List S50 × ByteArray × Bool, Ev (fun k => (spec_GoodBinds.f k out).bind fun t => if t = true then some (out, lost, true) else some (([] : List S50), (⟨#[]⟩ : ByteArray), false)) r ∧ (r.2.2 = true → r.1.length ≤ 20 ∧ Fits r.1) := fun out lost ho hfo => by
  obtain ⟨b, hb⟩ := bool_of (BindsOk out)
  have s := binds_spec out (by omega) (fits_b hfo) b hb
  cases b with
  | true => exact ⟨_, Ev.bind s (ev_pos rfl (ev_some rfl)), fun _ => ⟨(hb.1 rfl).1, hfo⟩⟩
  | false => exact ⟨_, Ev.bind s (ev_neg (by decide) (ev_some rfl)), fun h => by cases h⟩
 have loop : ∀ (n i : Nat), l.length - i = n → i ≤ l.length → ∀ (lost : ByteArray) (out : List S50) (put : Bool), out.length ≤ 2 * i → Fits out → ∃ r : List S50 × ByteArray × Bool, Ev (fun k => spec_Rebind.l0 k a c lost out put l (l.length : Int) (i : Int)) r ∧ (r.2.2 = true → r.1.length ≤ 20 ∧ Fits r.1) := by
  intro n
  induction n with
  | zero =>
   intro i h1 h2 lost out put ho hfo
   obtain rfl : i = l.length := by omega
   cases put with
   | true =>
    obtain ⟨r, r1, r2⟩ := fin out lost (by omega) hfo
    exact ⟨r, st_spec_Rebind_l0 (ev_neg (by omega) (ev_pos rfl r1)), r2⟩
   | false =>
    obtain ⟨r, r1, r2⟩ := fin (out ++ [(⟨a, ([] : List Int) ++ c⟩ : S50)]) lost (by rw [List.length_append]; simp; omega) (fits_snoc hfo _ ha (by simpa using hcl))
    exact ⟨r, st_spec_Rebind_l0 (ev_neg (by omega) (ev_neg (by decide) (ev_bindc rfl (ev_pos (by simp; omega) (ev_pos (by omega) (ev_bindc rfl r1)))))), r2⟩
  | succ n ih =>
   intro i h1 h2 lost out put ho hfo
   have hi : i < l.length := by omega
   have hfi := hf _ (List.getElem_mem hi)
   have j3 : ∀ (out2 : List S50) (put2 : Bool), out2.length ≤ 2 * i + 1 → Fits out2 → ∃ r : List S50 × ByteArray × Bool, Ev (fun k => spec_Rebind.j3 k a c lost out2 put2 l (l.length : Int) (i : Int) l[i].f0 l[i].f1) r ∧ (r.2.2 = true → r.1.length ≤ 20 ∧ Fits r.1) := fun out2 put2 ho2 hfo2 => by
    by_cases e : l[i].f0.toList = a.toList
    ·obtain ⟨r, r1, r2⟩ := ih (i + 1) (by omega) (by omega) lost out2 put2 (by omega) hfo2
     refine ⟨r, st_spec_Rebind_j3 (ev_pos e ?_), r2⟩
     rw [w64s i (by omega)]; exact r1
    obtain ⟨q, hq⟩ := bool_of (l[i].f1 = c)
    have s := same_spec l[i].f1 c (by omega) q hq
    cases q with
    | true =>
     obtain ⟨r, r1, r2⟩ := ih (i + 1) (by omega) (by omega) l[i].f0 out2 put2 (by omega) hfo2
     refine ⟨r, st_spec_Rebind_j3 (ev_neg e (Ev.bind s (ev_pos rfl ?_))), r2⟩
     rw [w64s i (by omega)]; exact r1
    | false =>
     obtain ⟨r, r1, r2⟩ := ih (i + 1) (by omega) (by omega) lost (out2 ++ [(⟨l[i].f0, ([] : List Int) ++ l[i].f1⟩ : S50)]) put2 (by rw [List.length_append]; simp; omega) (fits_snoc hfo2 _ hfi.1 (by simpa using hfi.2))
     refine ⟨r, st_spec_Rebind_j3 (ev_neg e (Ev.bind s (ev_neg (by decide) (ev_bindc rfl (ev_pos (by simp; omega) (ev_pos (by omega) ?_)))))), r2⟩
     rw [w64s i (by omega)]; exact r1
   have j2 : ∀ (f : Bool), ∃ r : List S50 × ByteArray × Bool, Ev (fun k => spec_Rebind.j2 k a c lost out put l (l.length : Int) (i : Int) f l[i].f0 l[i].f1) r ∧ (r.2.2 = true → r.1.length ≤ 20 ∧ Fits r.1) := fun f => by
    cases f with
    | false =>
     obtain ⟨r, r1, r2⟩ := j3 out put (by omega) hfo
     exact ⟨r, st_spec_Rebind_j2 (ev_neg (by decide) r1), r2⟩
    | true =>
     obtain ⟨r, r1, r2⟩ := j3 (out ++ [(⟨a, ([] : List Int) ++ c⟩ : S50)]) true (by rw [List.length_append]; simp; omega) (fits_snoc hfo _ ha (by simpa using hcl))
     exact ⟨r, st_spec_Rebind_j2 (ev_pos rfl (ev_bindc rfl (ev_pos (by simp; omega) (ev_pos (by omega) r1)))), r2⟩
   cases put with
   | true =>
    obtain ⟨r, r1, r2⟩ := j2 false
    refine ⟨r, st_spec_Rebind_l0 (ev_pos (by omega) (ev_pos (by omega) (ev_pos (by omega) (ev_pos rfl ?_)))), r2⟩
    rw [rdb_get hi]; exact r1
   | false =>
    obtain ⟨r, r1, r2⟩ := j2 (!(Op.bytesLess l[i].f0.toList a.toList))
    refine ⟨r, st_spec_Rebind_l0 (ev_pos (by omega) (ev_pos (by omega) (ev_pos (by omega) (ev_neg (by decide) ?_)))), r2⟩
    rw [rdb_get hi]; exact r1
 obtain ⟨b1, hb1⟩ := bool_of (BindsOk l)
 obtain ⟨b2, hb2⟩ := bool_of (NameOk a)
 obtain ⟨b3, hb3⟩ := bool_of (ChordOk c)
 obtain ⟨rn, n1, n2⟩ := no
 have s1 := binds_spec l (by omega) (fits_b hf) b1 hb1
 have s2 := name_spec a b2 hb2
 have s3 := chord_spec c b3 hb3
 cases b1 with
 | false => exact ⟨rn, Ev.bind s1 (ev_neg (by decide) n1), n2⟩
 | true =>
  cases b2 with
  | false => exact ⟨rn, Ev.bind s1 (ev_pos rfl (Ev.bind s2 (ev_neg (by decide) n1))), n2⟩
  | true =>
   cases b3 with
   | false => exact ⟨rn, Ev.bind s1 (ev_pos rfl (Ev.bind s2 (ev_pos rfl (Ev.bind s3 n1)))), n2⟩
   | true =>
    obtain ⟨r, r1, r2⟩ := loop l.length 0 (by omega) (by omega) ⟨#[]⟩ [] false (by simp) (fun x hx => by cases hx)
    exact ⟨r, Ev.bind s1 (ev_pos rfl (Ev.bind s2 (ev_pos rfl (Ev.bind s3 (st_spec_Rebind_j0 (ev_neg (by decide) r1)))))), r2⟩
theorem binds_loop (code : List Int) (hc : ∀ y ∈ code, InU8 y) : ∀ (n : Nat), n ≤ 6 → ∀ (x : List S50) (at_ seed : Int), x.length ≤ 20 → Fits x → 0 ≤ at_ → at_ + (n : Int) * 20 ≤ 1000 →
  ∃ l a s, Ev (fun k => spec_l1Cur_binds.l0 k x (n : Int) code at_ seed) (l, a, s) ∧ l.length ≤ 21 ∧ Fits l ∧ at_ ≤ a ∧ a ≤ at_ + (n : Int) * 20 + 20
 | 0, _, x, at_, seed, hx, hf, h0, h1 => by
  obtain ⟨b, a1, s1, e1, g1, g2⟩ := one_some code hc at_ seed 30 h0 (by omega) (by omega) (by omega)
  cases b with
  | false => exact ⟨x, a1, s1, st_spec_l1Cur_binds_l0 (ev_neg (by omega) (ev_bindc e1 (ev_neg (fun h_ => by cases h_) (ev_some rfl)))), by omega, hf, g1, by omega⟩
  | true =>
   obtain ⟨v, a2, s2, e2, hv, g3, g4⟩ := of_some code hc a1 s1 [(⟨#[]⟩ : ByteArray), (⟨#[122, 122]⟩ : ByteArray), (⟨#[97]⟩ : ByteArray)] (by omega) (by omega) (by decide) (by decide)
   obtain ⟨c, a3, s3, r1, r2, r3, r4⟩ := chord_draw code hc a2 s2 (by omega) (by omega)
   have hvs : v.size ≤ 1000 := by
    simp only [List.mem_cons, List.not_mem_nil, or_false] at hv
    rcases hv with rfl | rfl | rfl <;> decide
   exact ⟨x ++ [(⟨v, c⟩ : S50)], a3, s3, st_spec_l1Cur_binds_l0 (ev_neg (by omega) (ev_bindc e1 (ev_pos rfl (ev_bindc e2 (Ev.bind r1 (ev_pos (by omega) (ev_some rfl))))))), by rw [List.length_append]; simp; omega, fits_snoc hf _ hvs (by show c.length ≤ 1000; omega), by omega, by omega⟩
 | n + 1, hn, x, at_, seed, hx, hf, h0, h1 => by
  obtain ⟨v, a1, s1, e1, hv, g1, g2⟩ := act_some code hc at_ seed h0 (by omega)
  obtain ⟨c, a2, s2, r1, r2, r3, r4⟩ := chord_draw code hc a1 s1 (by omega) (by omega)
  obtain ⟨⟨y, lost, ok⟩, p1, p2⟩ := rebind_ev x (by omega) hf v (by omega) c (by omega)
  have e : wrap64 (((n + 1 : Nat) : Int) - 1) = (n : Int) := by rw [w64 (by omega) (by omega)]; omega
  cases ok with
  | true =>
   obtain ⟨q1, q2⟩ := p2 rfl
   obtain ⟨l, a, s, t1, t2, t3, t4, t5⟩ := binds_loop code hc n (by omega) y a2 s2 q1 q2 (by omega) (by omega)
   refine ⟨l, a, s, st_spec_l1Cur_binds_l0 (ev_pos (by omega) (ev_bindc e1 (Ev.bind r1 (Ev.bind p1 (ev_pos rfl ?_))))), t2, t3, by omega, by omega⟩
   rw [e]; exact t1
  | false =>
   obtain ⟨l, a, s, t1, t2, t3, t4, t5⟩ := binds_loop code hc n (by omega) x a2 s2 hx hf (by omega) (by omega)
   refine ⟨l, a, s, st_spec_l1Cur_binds_l0 (ev_pos (by omega) (ev_bindc e1 (Ev.bind r1 (Ev.bind p1 (ev_neg (fun h_ => by cases h_) ?_))))), t2, t3, by omega, by omega⟩
   rw [e]; exact t1
theorem press_loop (code : List Int) (hc : ∀ y ∈ code, InU8 y) : ∀ (n : Nat), n ≤ 1000 → ∀ (x : List S47) (t at_ seed : Int), x.length + n ≤ 1000 → 0 ≤ at_ → at_ + 3 * (n : Int) ≤ 1000000 →
  ∃ l a s, Ev (fun k => spec_l1Cur_presses.l0 k x (n : Int) t code at_ seed) (l, a, s) ∧ l.length ≤ 1001
 | 0, _, x, t, at_, seed, hx, h0, h1 => by
  obtain ⟨b, a1, s1, e1, g1, g2⟩ := one_some code hc at_ seed 40 h0 (by omega) (by omega) (by omega)
  cases b with
  | false => exact ⟨x, a1, s1, st_spec_l1Cur_presses_l0 (ev_neg (by omega) (ev_bindc e1 (ev_neg (fun h_ => by cases h_) (ev_some rfl)))), by omega⟩
  | true =>
   obtain ⟨v, a2, s2, e2, g3, g4⟩ := among_some code hc a1 s1 [(-1), 0, 100000, 100001] (by omega) (by omega) (by decide) (by decide)
   obtain ⟨u, a3, s3, e3, g5, g6⟩ := among_some code hc a2 s2 [0, 99, 100, (-1)] (by omega) (by omega) (by decide) (by decide)
   exact ⟨x ++ [(⟨v, u, false⟩ : S47)], a3, s3, st_spec_l1Cur_presses_l0 (ev_neg (by omega) (ev_bindc e1 (ev_pos rfl (ev_bindc e2 (ev_bindc e3 (ev_pos (by omega) (ev_some rfl))))))), by rw [List.length_append]; simp; omega⟩
 | n + 1, hn, x, t, at_, seed, hx, h0, h1 => by
  obtain ⟨v, a1, s1, e1, _, _, g1, g2⟩ := pick_some code hc at_ seed 3 h0 (by omega) (by omega) (by omega)
  obtain ⟨u, a2, s2, e2, _, _, g3, g4⟩ := pick_some code hc a1 s1 5 (by omega) (by omega) (by omega) (by omega)
  obtain ⟨b, a3, s3, e3, g5, g6⟩ := one_some code hc a2 s2 3 (by omega) (by omega) (by omega) (by omega)
  obtain ⟨l, a, s, r1, r2⟩ := press_loop code hc n (by omega) (x ++ [(⟨wrap64 (t + v), u, !b⟩ : S47)]) (wrap64 (t + v)) a3 s3 (by rw [List.length_append]; simp; omega) (by omega) (by omega)
  refine ⟨l, a, s, st_spec_l1Cur_presses_l0 (ev_pos (by omega) (ev_bindc e1 (ev_bindc e2 (ev_bindc e3 (ev_pos (by omega) ?_))))), r2⟩
  have e : wrap64 (((n + 1 : Nat) : Int) - 1) = (n : Int) := by rw [w64 (by omega) (by omega)]; omega
  rw [e]; exact r1
theorem presses_draw (code : List Int) (hc : ∀ y ∈ code, InU8 y) (at_ seed : Int) (h0 : 0 ≤ at_) (h1 : at_ ≤ 100000) : ∃ l a s, Ev (fun k => spec_l1Cur_presses.f k code at_ seed) (l, a, s) ∧ l.length ≤ 1001 := by
 obtain ⟨v, a1, s1, e1, v0, v1, g1, g2⟩ := pick_some code hc at_ seed 16 h0 (by omega) (by omega) (by omega)
 obtain ⟨b, a2, s2, e2, g3, g4⟩ := one_some code hc a1 s1 20 (by omega) (by omega) (by omega) (by omega)
 cases b with
 | true =>
  obtain ⟨u, a3, s3, e3, u0, u1, g5, g6⟩ := pick_some code hc a2 s2 2 (by omega) (by omega) (by omega) (by omega)
  obtain ⟨l, a, s, r1, r2⟩ := press_loop code hc (200 + u).toNat (by omega) [] 0 a3 s3 (by simp; omega) (by omega) (by omega)
  refine ⟨l, a, s, ev_bindc e1 (ev_bindc e2 (ev_pos rfl (ev_bindc e3 (st_spec_l1Cur_presses_j0 ?_)))), r2⟩
  have e : wrap64 (200 + u) = (((200 + u).toNat : Nat) : Int) := by rw [w64 (by omega) (by omega)]; omega
  rw [e]; exact r1
 | false =>
  obtain ⟨l, a, s, r1, r2⟩ := press_loop code hc v.toNat (by omega) [] 0 a2 s2 (by simp; omega) (by omega) (by omega)
  refine ⟨l, a, s, ev_bindc e1 (ev_bindc e2 (ev_neg (fun h_ => by cases h_) (st_spec_l1Cur_presses_j0 ?_))), r2⟩
  have e : ((v.toNat : Nat) : Int) = v := by omega
  rw [e] at r1
  exact r1
theorem draw_meant (code : List Int) (hc : ∀ y ∈ code, InU8 y) : ∃ bs es, Ev (fun k => spec_DrawMeantBy.f k code) (bs, es) ∧ bs.length ≤ 21 ∧ Fits bs ∧ es.length ≤ 1001 := by
 obtain ⟨v, a1, s1, e1, v0, v1, g1, g2⟩ := pick_some code hc 0 0 6 (by omega) (by omega) (by omega) (by omega)
 obtain ⟨l, a, s, r1, r2, r3, r4, r5⟩ := binds_loop code hc v.toNat (by omega) [] a1 s1 (by simp) (fun x hx => by cases hx) (by omega) (by omega)
 have e : ((v.toNat : Nat) : Int) = v := by omega
 rw [e] at r1
 obtain ⟨es, a', s', t1, t2⟩ := presses_draw code hc a s (by omega) (by omega)
 exact ⟨l, es, Ev.bind (ev_bindc e1 r1) (Ev.bind t1 (ev_some rfl)), r2, r3, t2⟩
theorem FnMeant : ∀ (l0 : List (Int)), (l0.length * 1 ≤ 140737488351232 ∧ ∀ y ∈ l0, InU8 y) → ∃ k, laws_FnMeant.f k l0 = some true := by
 intro code hl
 refine Ev.rounds (g := fun k => laws_FnMeant.f k code) ?_
 refine ev_ite (fun _ => ev_some rfl) fun _ => ?_
 obtain ⟨bs, es, d1, d2, d3, d4⟩ := draw_meant code hl.2
 obtain ⟨out, ok, m1, m2, m3⟩ := meant_same bs (by omega) (fits_b d3) es (by omega)
 exact Ev.bind d1 (Ev.bind m1 (Ev.bind m2 (ev_pos (by rw [eqMs_self, (altB_on out).2 m3]; simp) (ev_some rfl))))
end Go.Proofs.Ytndgkdnbacoenab.Pure
