/- What the abstract walk asks of the types of this seat. Written by a program. -/
import Derived.Test.YthbnhbmakapglaaAbs4
set_option linter.all false
namespace Go.Proofs.Ythbnhbmakapglaa.Ty
open Go Go.Abs Go.Proofs
theorem mixed : (Go.Proofs.Try.prog).follows .mixedOrders = true := by kernel_rfl
theorem sz0 : szOf Go.Proofs.Try.prog 0 = some 1 := by kernel_rfl
theorem ag0 : aggOf Go.Proofs.Try.prog 0 = some false := by kernel_rfl
theorem by0 : bytesOfT Go.Proofs.Try.prog 0 = some 0 := by kernel_rfl
theorem sz1 : szOf Go.Proofs.Try.prog 1 = some 1 := by kernel_rfl
theorem ag1 : aggOf Go.Proofs.Try.prog 1 = some false := by kernel_rfl
theorem by1 : bytesOfT Go.Proofs.Try.prog 1 = some 8 := by kernel_rfl
theorem zc1 : zeroCellsD Go.Proofs.Try.prog 1 = some [.i (.s (Value.nilFunc))] := by kernel_rfl
theorem zn1 : (zeroOf Go.Proofs.Try.prog 1).map (·.cells.size) = some 1 := by kernel_rfl
theorem sz2 : szOf Go.Proofs.Try.prog 2 = some 1 := by kernel_rfl
theorem ag2 : aggOf Go.Proofs.Try.prog 2 = some false := by kernel_rfl
theorem by2 : bytesOfT Go.Proofs.Try.prog 2 = some 8 := by kernel_rfl
theorem un2 : undOf Go.Proofs.Try.prog 2 = some (TypeDesc.int IntKind.i64) := by kernel_rfl
theorem pl2 : placesOf Go.Proofs.Try.prog 2 = none := by kernel_rfl
theorem zc2 : zeroCellsD Go.Proofs.Try.prog 2 = some [.i (.s (Value.int IntKind.i64 0))] := by kernel_rfl
theorem zn2 : (zeroOf Go.Proofs.Try.prog 2).map (·.cells.size) = some 1 := by kernel_rfl
theorem sz3 : szOf Go.Proofs.Try.prog 3 = some 1 := by kernel_rfl
theorem ag3 : aggOf Go.Proofs.Try.prog 3 = some false := by kernel_rfl
theorem by3 : bytesOfT Go.Proofs.Try.prog 3 = some 8 := by kernel_rfl
theorem un3 : undOf Go.Proofs.Try.prog 3 = some (TypeDesc.int IntKind.i64) := by kernel_rfl
theorem pl3 : placesOf Go.Proofs.Try.prog 3 = none := by kernel_rfl
theorem zc3 : zeroCellsD Go.Proofs.Try.prog 3 = some [.i (.s (Value.int IntKind.i64 0))] := by kernel_rfl
theorem zn3 : (zeroOf Go.Proofs.Try.prog 3).map (·.cells.size) = some 1 := by kernel_rfl
theorem sz4 : szOf Go.Proofs.Try.prog 4 = some 1 := by kernel_rfl
theorem ag4 : aggOf Go.Proofs.Try.prog 4 = some false := by kernel_rfl
theorem by4 : bytesOfT Go.Proofs.Try.prog 4 = some 1 := by kernel_rfl
theorem un4 : undOf Go.Proofs.Try.prog 4 = some (TypeDesc.bool) := by kernel_rfl
theorem pl4 : placesOf Go.Proofs.Try.prog 4 = none := by kernel_rfl
theorem zc4 : zeroCellsD Go.Proofs.Try.prog 4 = some [.i (.s (Value.bool false))] := by kernel_rfl
theorem zn4 : (zeroOf Go.Proofs.Try.prog 4).map (·.cells.size) = some 1 := by kernel_rfl
theorem sz5 : szOf Go.Proofs.Try.prog 5 = some 1 := by kernel_rfl
theorem ag5 : aggOf Go.Proofs.Try.prog 5 = some false := by kernel_rfl
theorem by5 : bytesOfT Go.Proofs.Try.prog 5 = some 1 := by kernel_rfl
theorem un5 : undOf Go.Proofs.Try.prog 5 = some (TypeDesc.int IntKind.u8) := by kernel_rfl
theorem pl5 : placesOf Go.Proofs.Try.prog 5 = none := by kernel_rfl
theorem zc5 : zeroCellsD Go.Proofs.Try.prog 5 = some [.i (.s (Value.int IntKind.u8 0))] := by kernel_rfl
theorem zn5 : (zeroOf Go.Proofs.Try.prog 5).map (·.cells.size) = some 1 := by kernel_rfl
theorem sz6 : szOf Go.Proofs.Try.prog 6 = some 1 := by kernel_rfl
theorem ag6 : aggOf Go.Proofs.Try.prog 6 = some false := by kernel_rfl
theorem by6 : bytesOfT Go.Proofs.Try.prog 6 = some 1 := by kernel_rfl
theorem un6 : undOf Go.Proofs.Try.prog 6 = some (TypeDesc.int IntKind.u8) := by kernel_rfl
theorem pl6 : placesOf Go.Proofs.Try.prog 6 = none := by kernel_rfl
theorem zc6 : zeroCellsD Go.Proofs.Try.prog 6 = some [.i (.s (Value.int IntKind.u8 0))] := by kernel_rfl
theorem zn6 : (zeroOf Go.Proofs.Try.prog 6).map (·.cells.size) = some 1 := by kernel_rfl
theorem sz7 : szOf Go.Proofs.Try.prog 7 = some 4 := by kernel_rfl
theorem ag7 : aggOf Go.Proofs.Try.prog 7 = some true := by kernel_rfl
theorem by7 : bytesOfT Go.Proofs.Try.prog 7 = some 24 := by kernel_rfl
theorem fl7_0 : fldOf Go.Proofs.Try.prog 7 0 = some (0, 2) := by kernel_rfl
theorem fl7_1 : fldOf Go.Proofs.Try.prog 7 1 = some (1, 3) := by kernel_rfl
theorem fl7_2 : fldOf Go.Proofs.Try.prog 7 2 = some (2, 4) := by kernel_rfl
theorem fl7_3 : fldOf Go.Proofs.Try.prog 7 3 = some (3, 6) := by kernel_rfl
theorem pl7 : placesOf Go.Proofs.Try.prog 7 = some #[(0, 1), (1, 1), (2, 1), (3, 1)] := by kernel_rfl
theorem zc7 : zeroCellsD Go.Proofs.Try.prog 7 = some [.i (.s (Value.int IntKind.i64 0)), .i (.s (Value.int IntKind.i64 0)), .i (.s (Value.bool false)), .i (.s (Value.int IntKind.u8 0))] := by kernel_rfl
theorem zn7 : (zeroOf Go.Proofs.Try.prog 7).map (·.cells.size) = some 4 := by kernel_rfl
theorem sz8 : szOf Go.Proofs.Try.prog 8 = some 4 := by kernel_rfl
theorem ag8 : aggOf Go.Proofs.Try.prog 8 = some true := by kernel_rfl
theorem by8 : bytesOfT Go.Proofs.Try.prog 8 = some 24 := by kernel_rfl
theorem fl8_0 : fldOf Go.Proofs.Try.prog 8 0 = some (0, 2) := by kernel_rfl
theorem fl8_1 : fldOf Go.Proofs.Try.prog 8 1 = some (1, 3) := by kernel_rfl
theorem fl8_2 : fldOf Go.Proofs.Try.prog 8 2 = some (2, 4) := by kernel_rfl
theorem fl8_3 : fldOf Go.Proofs.Try.prog 8 3 = some (3, 6) := by kernel_rfl
theorem pl8 : placesOf Go.Proofs.Try.prog 8 = some #[(0, 1), (1, 1), (2, 1), (3, 1)] := by kernel_rfl
theorem zc8 : zeroCellsD Go.Proofs.Try.prog 8 = some [.i (.s (Value.int IntKind.i64 0)), .i (.s (Value.int IntKind.i64 0)), .i (.s (Value.bool false)), .i (.s (Value.int IntKind.u8 0))] := by kernel_rfl
theorem zn8 : (zeroOf Go.Proofs.Try.prog 8).map (·.cells.size) = some 4 := by kernel_rfl
theorem sz9 : szOf Go.Proofs.Try.prog 9 = some 1 := by kernel_rfl
theorem ag9 : aggOf Go.Proofs.Try.prog 9 = some false := by kernel_rfl
theorem by9 : bytesOfT Go.Proofs.Try.prog 9 = some 16 := by kernel_rfl
theorem un9 : undOf Go.Proofs.Try.prog 9 = some (TypeDesc.string) := by kernel_rfl
theorem pl9 : placesOf Go.Proofs.Try.prog 9 = none := by kernel_rfl
theorem zc9 : zeroCellsD Go.Proofs.Try.prog 9 = some [.i (.s (Value.string { data := #[] }))] := by kernel_rfl
theorem zn9 : (zeroOf Go.Proofs.Try.prog 9).map (·.cells.size) = some 1 := by kernel_rfl
theorem sz10 : szOf Go.Proofs.Try.prog 10 = some 1 := by kernel_rfl
theorem ag10 : aggOf Go.Proofs.Try.prog 10 = some false := by kernel_rfl
theorem by10 : bytesOfT Go.Proofs.Try.prog 10 = some 16 := by kernel_rfl
theorem un10 : undOf Go.Proofs.Try.prog 10 = some (TypeDesc.string) := by kernel_rfl
theorem pl10 : placesOf Go.Proofs.Try.prog 10 = none := by kernel_rfl
theorem zc10 : zeroCellsD Go.Proofs.Try.prog 10 = some [.i (.s (Value.string { data := #[] }))] := by kernel_rfl
theorem zn10 : (zeroOf Go.Proofs.Try.prog 10).map (·.cells.size) = some 1 := by kernel_rfl
theorem sz11 : szOf Go.Proofs.Try.prog 11 = some 1 := by kernel_rfl
theorem ag11 : aggOf Go.Proofs.Try.prog 11 = some false := by kernel_rfl
theorem by11 : bytesOfT Go.Proofs.Try.prog 11 = some 16 := by kernel_rfl
theorem un11 : undOf Go.Proofs.Try.prog 11 = some (TypeDesc.string) := by kernel_rfl
theorem pl11 : placesOf Go.Proofs.Try.prog 11 = none := by kernel_rfl
theorem zc11 : zeroCellsD Go.Proofs.Try.prog 11 = some [.i (.s (Value.string { data := #[] }))] := by kernel_rfl
theorem zn11 : (zeroOf Go.Proofs.Try.prog 11).map (·.cells.size) = some 1 := by kernel_rfl
theorem sz12 : szOf Go.Proofs.Try.prog 12 = some 1 := by kernel_rfl
theorem ag12 : aggOf Go.Proofs.Try.prog 12 = some false := by kernel_rfl
theorem by12 : bytesOfT Go.Proofs.Try.prog 12 = some 8 := by kernel_rfl
theorem un12 : undOf Go.Proofs.Try.prog 12 = some (TypeDesc.int IntKind.u64) := by kernel_rfl
theorem pl12 : placesOf Go.Proofs.Try.prog 12 = none := by kernel_rfl
theorem zc12 : zeroCellsD Go.Proofs.Try.prog 12 = some [.i (.s (Value.int IntKind.u64 0))] := by kernel_rfl
theorem zn12 : (zeroOf Go.Proofs.Try.prog 12).map (·.cells.size) = some 1 := by kernel_rfl
theorem sz13 : szOf Go.Proofs.Try.prog 13 = some 2 := by kernel_rfl
theorem ag13 : aggOf Go.Proofs.Try.prog 13 = some true := by kernel_rfl
theorem by13 : bytesOfT Go.Proofs.Try.prog 13 = some 24 := by kernel_rfl
theorem fl13_0 : fldOf Go.Proofs.Try.prog 13 0 = some (0, 9) := by kernel_rfl
theorem fl13_1 : fldOf Go.Proofs.Try.prog 13 1 = some (1, 12) := by kernel_rfl
theorem pl13 : placesOf Go.Proofs.Try.prog 13 = some #[(0, 1), (1, 1)] := by kernel_rfl
theorem zc13 : zeroCellsD Go.Proofs.Try.prog 13 = some [.i (.s (Value.string { data := #[] })), .i (.s (Value.int IntKind.u64 0))] := by kernel_rfl
theorem zn13 : (zeroOf Go.Proofs.Try.prog 13).map (·.cells.size) = some 2 := by kernel_rfl
theorem sz14 : szOf Go.Proofs.Try.prog 14 = some 2 := by kernel_rfl
theorem ag14 : aggOf Go.Proofs.Try.prog 14 = some true := by kernel_rfl
theorem by14 : bytesOfT Go.Proofs.Try.prog 14 = some 24 := by kernel_rfl
theorem fl14_0 : fldOf Go.Proofs.Try.prog 14 0 = some (0, 9) := by kernel_rfl
theorem fl14_1 : fldOf Go.Proofs.Try.prog 14 1 = some (1, 12) := by kernel_rfl
theorem pl14 : placesOf Go.Proofs.Try.prog 14 = some #[(0, 1), (1, 1)] := by kernel_rfl
theorem zc14 : zeroCellsD Go.Proofs.Try.prog 14 = some [.i (.s (Value.string { data := #[] })), .i (.s (Value.int IntKind.u64 0))] := by kernel_rfl
theorem zn14 : (zeroOf Go.Proofs.Try.prog 14).map (·.cells.size) = some 2 := by kernel_rfl
theorem sz15 : szOf Go.Proofs.Try.prog 15 = some 1 := by kernel_rfl
theorem ag15 : aggOf Go.Proofs.Try.prog 15 = some false := by kernel_rfl
theorem by15 : bytesOfT Go.Proofs.Try.prog 15 = some 8 := by kernel_rfl
theorem un15 : undOf Go.Proofs.Try.prog 15 = some (TypeDesc.pointer 122) := by kernel_rfl
theorem zc15 : zeroCellsD Go.Proofs.Try.prog 15 = some [.i (.s (Value.pointer none))] := by kernel_rfl
theorem zn15 : (zeroOf Go.Proofs.Try.prog 15).map (·.cells.size) = some 1 := by kernel_rfl
theorem sz16 : szOf Go.Proofs.Try.prog 16 = some 1 := by kernel_rfl
theorem ag16 : aggOf Go.Proofs.Try.prog 16 = some false := by kernel_rfl
theorem by16 : bytesOfT Go.Proofs.Try.prog 16 = some 8 := by kernel_rfl
theorem un16 : undOf Go.Proofs.Try.prog 16 = some (TypeDesc.pointer 125) := by kernel_rfl
theorem zc16 : zeroCellsD Go.Proofs.Try.prog 16 = some [.i (.s (Value.pointer none))] := by kernel_rfl
theorem zn16 : (zeroOf Go.Proofs.Try.prog 16).map (·.cells.size) = some 1 := by kernel_rfl
theorem sz17 : szOf Go.Proofs.Try.prog 17 = some 1 := by kernel_rfl
theorem ag17 : aggOf Go.Proofs.Try.prog 17 = some false := by kernel_rfl
theorem by17 : bytesOfT Go.Proofs.Try.prog 17 = some 8 := by kernel_rfl
theorem un17 : undOf Go.Proofs.Try.prog 17 = some (TypeDesc.pointer 134) := by kernel_rfl
theorem zc17 : zeroCellsD Go.Proofs.Try.prog 17 = some [.i (.s (Value.pointer none))] := by kernel_rfl
theorem zn17 : (zeroOf Go.Proofs.Try.prog 17).map (·.cells.size) = some 1 := by kernel_rfl
theorem sz18 : szOf Go.Proofs.Try.prog 18 = some 1 := by kernel_rfl
theorem ag18 : aggOf Go.Proofs.Try.prog 18 = some true := by kernel_rfl
theorem by18 : bytesOfT Go.Proofs.Try.prog 18 = some 8 := by kernel_rfl
theorem fl18_0 : fldOf Go.Proofs.Try.prog 18 0 = some (0, 17) := by kernel_rfl
theorem pl18 : placesOf Go.Proofs.Try.prog 18 = some #[(0, 1)] := by kernel_rfl
theorem zc18 : zeroCellsD Go.Proofs.Try.prog 18 = some [.i (.s (Value.pointer none))] := by kernel_rfl
theorem zn18 : (zeroOf Go.Proofs.Try.prog 18).map (·.cells.size) = some 1 := by kernel_rfl
theorem sz19 : szOf Go.Proofs.Try.prog 19 = some 1 := by kernel_rfl
theorem ag19 : aggOf Go.Proofs.Try.prog 19 = some true := by kernel_rfl
theorem by19 : bytesOfT Go.Proofs.Try.prog 19 = some 8 := by kernel_rfl
theorem fl19_0 : fldOf Go.Proofs.Try.prog 19 0 = some (0, 17) := by kernel_rfl
theorem pl19 : placesOf Go.Proofs.Try.prog 19 = some #[(0, 1)] := by kernel_rfl
theorem zc19 : zeroCellsD Go.Proofs.Try.prog 19 = some [.i (.s (Value.pointer none))] := by kernel_rfl
theorem zn19 : (zeroOf Go.Proofs.Try.prog 19).map (·.cells.size) = some 1 := by kernel_rfl
theorem sz20 : szOf Go.Proofs.Try.prog 20 = some 1 := by kernel_rfl
theorem ag20 : aggOf Go.Proofs.Try.prog 20 = some false := by kernel_rfl
theorem by20 : bytesOfT Go.Proofs.Try.prog 20 = some 16 := by kernel_rfl
theorem zc20 : zeroCellsD Go.Proofs.Try.prog 20 = some [.i (.s (Value.nilIface))] := by kernel_rfl
theorem zn20 : (zeroOf Go.Proofs.Try.prog 20).map (·.cells.size) = some 1 := by kernel_rfl
theorem sz21 : szOf Go.Proofs.Try.prog 21 = some 1 := by kernel_rfl
theorem ag21 : aggOf Go.Proofs.Try.prog 21 = some false := by kernel_rfl
theorem by21 : bytesOfT Go.Proofs.Try.prog 21 = some 4 := by kernel_rfl
theorem un21 : undOf Go.Proofs.Try.prog 21 = some (TypeDesc.int IntKind.i32) := by kernel_rfl
theorem pl21 : placesOf Go.Proofs.Try.prog 21 = none := by kernel_rfl
theorem zc21 : zeroCellsD Go.Proofs.Try.prog 21 = some [.i (.s (Value.int IntKind.i32 0))] := by kernel_rfl
theorem zn21 : (zeroOf Go.Proofs.Try.prog 21).map (·.cells.size) = some 1 := by kernel_rfl
theorem sz22 : szOf Go.Proofs.Try.prog 22 = some 1 := by kernel_rfl
theorem ag22 : aggOf Go.Proofs.Try.prog 22 = some false := by kernel_rfl
theorem by22 : bytesOfT Go.Proofs.Try.prog 22 = some 24 := by kernel_rfl
theorem un22 : undOf Go.Proofs.Try.prog 22 = some (TypeDesc.slice 52) := by kernel_rfl
theorem pl22 : placesOf Go.Proofs.Try.prog 22 = none := by kernel_rfl
theorem zc22 : zeroCellsD Go.Proofs.Try.prog 22 = some [.i (.s (Value.slice none 0 0))] := by kernel_rfl
theorem zn22 : (zeroOf Go.Proofs.Try.prog 22).map (·.cells.size) = some 1 := by kernel_rfl
theorem sz23 : szOf Go.Proofs.Try.prog 23 = some 1 := by kernel_rfl
theorem ag23 : aggOf Go.Proofs.Try.prog 23 = some false := by kernel_rfl
theorem by23 : bytesOfT Go.Proofs.Try.prog 23 = some 24 := by kernel_rfl
theorem un23 : undOf Go.Proofs.Try.prog 23 = some (TypeDesc.slice 5) := by kernel_rfl
theorem pl23 : placesOf Go.Proofs.Try.prog 23 = none := by kernel_rfl
theorem zc23 : zeroCellsD Go.Proofs.Try.prog 23 = some [.i (.s (Value.slice none 0 0))] := by kernel_rfl
theorem zn23 : (zeroOf Go.Proofs.Try.prog 23).map (·.cells.size) = some 1 := by kernel_rfl
theorem sz24 : szOf Go.Proofs.Try.prog 24 = some 1 := by kernel_rfl
theorem ag24 : aggOf Go.Proofs.Try.prog 24 = some false := by kernel_rfl
theorem by24 : bytesOfT Go.Proofs.Try.prog 24 = some 8 := by kernel_rfl
theorem zc24 : zeroCellsD Go.Proofs.Try.prog 24 = some [.i (.s (Value.nilFunc))] := by kernel_rfl
theorem zn24 : (zeroOf Go.Proofs.Try.prog 24).map (·.cells.size) = some 1 := by kernel_rfl
theorem sz25 : szOf Go.Proofs.Try.prog 25 = some 1 := by kernel_rfl
theorem ag25 : aggOf Go.Proofs.Try.prog 25 = some false := by kernel_rfl
theorem by25 : bytesOfT Go.Proofs.Try.prog 25 = some 24 := by kernel_rfl
theorem un25 : undOf Go.Proofs.Try.prog 25 = some (TypeDesc.slice 23) := by kernel_rfl
theorem pl25 : placesOf Go.Proofs.Try.prog 25 = none := by kernel_rfl
theorem zc25 : zeroCellsD Go.Proofs.Try.prog 25 = some [.i (.s (Value.slice none 0 0))] := by kernel_rfl
theorem zn25 : (zeroOf Go.Proofs.Try.prog 25).map (·.cells.size) = some 1 := by kernel_rfl
theorem sz26 : szOf Go.Proofs.Try.prog 26 = some 5 := by kernel_rfl
theorem ag26 : aggOf Go.Proofs.Try.prog 26 = some true := by kernel_rfl
theorem by26 : bytesOfT Go.Proofs.Try.prog 26 = some 88 := by kernel_rfl
theorem fl26_0 : fldOf Go.Proofs.Try.prog 26 0 = some (0, 3) := by kernel_rfl
theorem fl26_1 : fldOf Go.Proofs.Try.prog 26 1 = some (1, 3) := by kernel_rfl
theorem fl26_2 : fldOf Go.Proofs.Try.prog 26 2 = some (2, 23) := by kernel_rfl
theorem fl26_3 : fldOf Go.Proofs.Try.prog 26 3 = some (3, 23) := by kernel_rfl
theorem fl26_4 : fldOf Go.Proofs.Try.prog 26 4 = some (4, 25) := by kernel_rfl
theorem pl26 : placesOf Go.Proofs.Try.prog 26 = some #[(0, 1), (1, 1), (2, 1), (3, 1), (4, 1)] := by kernel_rfl
theorem zc26 : zeroCellsD Go.Proofs.Try.prog 26 = some [.i (.s (Value.int IntKind.i64 0)), .i (.s (Value.int IntKind.i64 0)), .i (.s (Value.slice none 0 0)), .i (.s (Value.slice none 0 0)), .i (.s (Value.slice none 0 0))] := by kernel_rfl
theorem zn26 : (zeroOf Go.Proofs.Try.prog 26).map (·.cells.size) = some 5 := by kernel_rfl
theorem sz27 : szOf Go.Proofs.Try.prog 27 = some 5 := by kernel_rfl
theorem ag27 : aggOf Go.Proofs.Try.prog 27 = some true := by kernel_rfl
theorem by27 : bytesOfT Go.Proofs.Try.prog 27 = some 88 := by kernel_rfl
theorem fl27_0 : fldOf Go.Proofs.Try.prog 27 0 = some (0, 3) := by kernel_rfl
theorem fl27_1 : fldOf Go.Proofs.Try.prog 27 1 = some (1, 3) := by kernel_rfl
theorem fl27_2 : fldOf Go.Proofs.Try.prog 27 2 = some (2, 23) := by kernel_rfl
theorem fl27_3 : fldOf Go.Proofs.Try.prog 27 3 = some (3, 23) := by kernel_rfl
theorem fl27_4 : fldOf Go.Proofs.Try.prog 27 4 = some (4, 25) := by kernel_rfl
theorem pl27 : placesOf Go.Proofs.Try.prog 27 = some #[(0, 1), (1, 1), (2, 1), (3, 1), (4, 1)] := by kernel_rfl
theorem zc27 : zeroCellsD Go.Proofs.Try.prog 27 = some [.i (.s (Value.int IntKind.i64 0)), .i (.s (Value.int IntKind.i64 0)), .i (.s (Value.slice none 0 0)), .i (.s (Value.slice none 0 0)), .i (.s (Value.slice none 0 0))] := by kernel_rfl
theorem zn27 : (zeroOf Go.Proofs.Try.prog 27).map (·.cells.size) = some 5 := by kernel_rfl
theorem sz28 : szOf Go.Proofs.Try.prog 28 = some 1 := by kernel_rfl
theorem ag28 : aggOf Go.Proofs.Try.prog 28 = some false := by kernel_rfl
theorem by28 : bytesOfT Go.Proofs.Try.prog 28 = some 8 := by kernel_rfl
theorem un28 : undOf Go.Proofs.Try.prog 28 = some (TypeDesc.int IntKind.i64) := by kernel_rfl
theorem pl28 : placesOf Go.Proofs.Try.prog 28 = none := by kernel_rfl
theorem zc28 : zeroCellsD Go.Proofs.Try.prog 28 = some [.i (.s (Value.int IntKind.i64 0))] := by kernel_rfl
theorem zn28 : (zeroOf Go.Proofs.Try.prog 28).map (·.cells.size) = some 1 := by kernel_rfl
theorem sz29 : szOf Go.Proofs.Try.prog 29 = some 1 := by kernel_rfl
theorem ag29 : aggOf Go.Proofs.Try.prog 29 = some false := by kernel_rfl
theorem by29 : bytesOfT Go.Proofs.Try.prog 29 = some 0 := by kernel_rfl
theorem sz30 : szOf Go.Proofs.Try.prog 30 = some 1 := by kernel_rfl
theorem ag30 : aggOf Go.Proofs.Try.prog 30 = some false := by kernel_rfl
theorem by30 : bytesOfT Go.Proofs.Try.prog 30 = some 8 := by kernel_rfl
theorem zc30 : zeroCellsD Go.Proofs.Try.prog 30 = some [.i (.s (Value.nilFunc))] := by kernel_rfl
theorem zn30 : (zeroOf Go.Proofs.Try.prog 30).map (·.cells.size) = some 1 := by kernel_rfl
theorem sz31 : szOf Go.Proofs.Try.prog 31 = some 1 := by kernel_rfl
theorem ag31 : aggOf Go.Proofs.Try.prog 31 = some false := by kernel_rfl
theorem by31 : bytesOfT Go.Proofs.Try.prog 31 = some 8 := by kernel_rfl
theorem zc31 : zeroCellsD Go.Proofs.Try.prog 31 = some [.i (.s (Value.nilFunc))] := by kernel_rfl
theorem zn31 : (zeroOf Go.Proofs.Try.prog 31).map (·.cells.size) = some 1 := by kernel_rfl
theorem sz32 : szOf Go.Proofs.Try.prog 32 = some 2 := by kernel_rfl
theorem ag32 : aggOf Go.Proofs.Try.prog 32 = some true := by kernel_rfl
theorem by32 : bytesOfT Go.Proofs.Try.prog 32 = some 16 := by kernel_rfl
theorem fl32_0 : fldOf Go.Proofs.Try.prog 32 0 = some (0, 28) := by kernel_rfl
theorem fl32_1 : fldOf Go.Proofs.Try.prog 32 1 = some (1, 3) := by kernel_rfl
theorem pl32 : placesOf Go.Proofs.Try.prog 32 = some #[(0, 1), (1, 1)] := by kernel_rfl
theorem zc32 : zeroCellsD Go.Proofs.Try.prog 32 = some [.i (.s (Value.int IntKind.i64 0)), .i (.s (Value.int IntKind.i64 0))] := by kernel_rfl
theorem zn32 : (zeroOf Go.Proofs.Try.prog 32).map (·.cells.size) = some 2 := by kernel_rfl
theorem sz33 : szOf Go.Proofs.Try.prog 33 = some 2 := by kernel_rfl
theorem ag33 : aggOf Go.Proofs.Try.prog 33 = some true := by kernel_rfl
theorem by33 : bytesOfT Go.Proofs.Try.prog 33 = some 16 := by kernel_rfl
theorem fl33_0 : fldOf Go.Proofs.Try.prog 33 0 = some (0, 28) := by kernel_rfl
theorem fl33_1 : fldOf Go.Proofs.Try.prog 33 1 = some (1, 3) := by kernel_rfl
theorem pl33 : placesOf Go.Proofs.Try.prog 33 = some #[(0, 1), (1, 1)] := by kernel_rfl
theorem zc33 : zeroCellsD Go.Proofs.Try.prog 33 = some [.i (.s (Value.int IntKind.i64 0)), .i (.s (Value.int IntKind.i64 0))] := by kernel_rfl
theorem zn33 : (zeroOf Go.Proofs.Try.prog 33).map (·.cells.size) = some 2 := by kernel_rfl
theorem sz34 : szOf Go.Proofs.Try.prog 34 = some 1 := by kernel_rfl
theorem ag34 : aggOf Go.Proofs.Try.prog 34 = some false := by kernel_rfl
theorem by34 : bytesOfT Go.Proofs.Try.prog 34 = some 0 := by kernel_rfl
theorem sz35 : szOf Go.Proofs.Try.prog 35 = some 1 := by kernel_rfl
theorem ag35 : aggOf Go.Proofs.Try.prog 35 = some false := by kernel_rfl
theorem by35 : bytesOfT Go.Proofs.Try.prog 35 = some 8 := by kernel_rfl
theorem zc35 : zeroCellsD Go.Proofs.Try.prog 35 = some [.i (.s (Value.nilFunc))] := by kernel_rfl
theorem zn35 : (zeroOf Go.Proofs.Try.prog 35).map (·.cells.size) = some 1 := by kernel_rfl
theorem sz36 : szOf Go.Proofs.Try.prog 36 = some 1 := by kernel_rfl
theorem ag36 : aggOf Go.Proofs.Try.prog 36 = some false := by kernel_rfl
theorem by36 : bytesOfT Go.Proofs.Try.prog 36 = some 0 := by kernel_rfl
theorem sz37 : szOf Go.Proofs.Try.prog 37 = some 1 := by kernel_rfl
theorem ag37 : aggOf Go.Proofs.Try.prog 37 = some false := by kernel_rfl
theorem by37 : bytesOfT Go.Proofs.Try.prog 37 = some 8 := by kernel_rfl
theorem zc37 : zeroCellsD Go.Proofs.Try.prog 37 = some [.i (.s (Value.nilFunc))] := by kernel_rfl
theorem zn37 : (zeroOf Go.Proofs.Try.prog 37).map (·.cells.size) = some 1 := by kernel_rfl
theorem sz38 : szOf Go.Proofs.Try.prog 38 = some 12 := by kernel_rfl
theorem ag38 : aggOf Go.Proofs.Try.prog 38 = some true := by kernel_rfl
theorem by38 : bytesOfT Go.Proofs.Try.prog 38 = some 184 := by kernel_rfl
theorem fl38_0 : fldOf Go.Proofs.Try.prog 38 0 = some (0, 4) := by kernel_rfl
theorem fl38_1 : fldOf Go.Proofs.Try.prog 38 1 = some (1, 4) := by kernel_rfl
theorem fl38_2 : fldOf Go.Proofs.Try.prog 38 2 = some (2, 27) := by kernel_rfl
theorem fl38_3 : fldOf Go.Proofs.Try.prog 38 3 = some (7, 27) := by kernel_rfl
theorem pl38 : placesOf Go.Proofs.Try.prog 38 = some #[(0, 1), (1, 1), (2, 5), (7, 5)] := by kernel_rfl
theorem zc38 : zeroCellsD Go.Proofs.Try.prog 38 = some [.i (.s (Value.bool false)), .i (.s (Value.bool false)), .i (.s (Value.int IntKind.i64 0)), .i (.s (Value.int IntKind.i64 0)), .i (.s (Value.slice none 0 0)), .i (.s (Value.slice none 0 0)), .i (.s (Value.slice none 0 0)), .i (.s (Value.int IntKind.i64 0)), .i (.s (Value.int IntKind.i64 0)), .i (.s (Value.slice none 0 0)), .i (.s (Value.slice none 0 0)), .i (.s (Value.slice none 0 0))] := by kernel_rfl
theorem zn38 : (zeroOf Go.Proofs.Try.prog 38).map (·.cells.size) = some 12 := by kernel_rfl
theorem sz39 : szOf Go.Proofs.Try.prog 39 = some 12 := by kernel_rfl
theorem ag39 : aggOf Go.Proofs.Try.prog 39 = some true := by kernel_rfl
theorem by39 : bytesOfT Go.Proofs.Try.prog 39 = some 184 := by kernel_rfl
theorem fl39_0 : fldOf Go.Proofs.Try.prog 39 0 = some (0, 4) := by kernel_rfl
theorem fl39_1 : fldOf Go.Proofs.Try.prog 39 1 = some (1, 4) := by kernel_rfl
theorem fl39_2 : fldOf Go.Proofs.Try.prog 39 2 = some (2, 27) := by kernel_rfl
theorem fl39_3 : fldOf Go.Proofs.Try.prog 39 3 = some (7, 27) := by kernel_rfl
theorem pl39 : placesOf Go.Proofs.Try.prog 39 = some #[(0, 1), (1, 1), (2, 5), (7, 5)] := by kernel_rfl
theorem zc39 : zeroCellsD Go.Proofs.Try.prog 39 = some [.i (.s (Value.bool false)), .i (.s (Value.bool false)), .i (.s (Value.int IntKind.i64 0)), .i (.s (Value.int IntKind.i64 0)), .i (.s (Value.slice none 0 0)), .i (.s (Value.slice none 0 0)), .i (.s (Value.slice none 0 0)), .i (.s (Value.int IntKind.i64 0)), .i (.s (Value.int IntKind.i64 0)), .i (.s (Value.slice none 0 0)), .i (.s (Value.slice none 0 0)), .i (.s (Value.slice none 0 0))] := by kernel_rfl
theorem zn39 : (zeroOf Go.Proofs.Try.prog 39).map (·.cells.size) = some 12 := by kernel_rfl
theorem sz40 : szOf Go.Proofs.Try.prog 40 = some 1 := by kernel_rfl
theorem ag40 : aggOf Go.Proofs.Try.prog 40 = some false := by kernel_rfl
theorem by40 : bytesOfT Go.Proofs.Try.prog 40 = some 0 := by kernel_rfl
theorem sz41 : szOf Go.Proofs.Try.prog 41 = some 1 := by kernel_rfl
theorem ag41 : aggOf Go.Proofs.Try.prog 41 = some false := by kernel_rfl
theorem by41 : bytesOfT Go.Proofs.Try.prog 41 = some 8 := by kernel_rfl
theorem zc41 : zeroCellsD Go.Proofs.Try.prog 41 = some [.i (.s (Value.nilFunc))] := by kernel_rfl
theorem zn41 : (zeroOf Go.Proofs.Try.prog 41).map (·.cells.size) = some 1 := by kernel_rfl
theorem sz42 : szOf Go.Proofs.Try.prog 42 = some 1 := by kernel_rfl
theorem ag42 : aggOf Go.Proofs.Try.prog 42 = some false := by kernel_rfl
theorem by42 : bytesOfT Go.Proofs.Try.prog 42 = some 8 := by kernel_rfl
theorem zc42 : zeroCellsD Go.Proofs.Try.prog 42 = some [.i (.s (Value.nilFunc))] := by kernel_rfl
theorem zn42 : (zeroOf Go.Proofs.Try.prog 42).map (·.cells.size) = some 1 := by kernel_rfl
theorem sz43 : szOf Go.Proofs.Try.prog 43 = some 1 := by kernel_rfl
theorem ag43 : aggOf Go.Proofs.Try.prog 43 = some false := by kernel_rfl
theorem by43 : bytesOfT Go.Proofs.Try.prog 43 = some 8 := by kernel_rfl
theorem zc43 : zeroCellsD Go.Proofs.Try.prog 43 = some [.i (.s (Value.nilFunc))] := by kernel_rfl
theorem zn43 : (zeroOf Go.Proofs.Try.prog 43).map (·.cells.size) = some 1 := by kernel_rfl
theorem sz44 : szOf Go.Proofs.Try.prog 44 = some 1 := by kernel_rfl
theorem ag44 : aggOf Go.Proofs.Try.prog 44 = some false := by kernel_rfl
theorem by44 : bytesOfT Go.Proofs.Try.prog 44 = some 8 := by kernel_rfl
theorem zc44 : zeroCellsD Go.Proofs.Try.prog 44 = some [.i (.s (Value.nilFunc))] := by kernel_rfl
theorem zn44 : (zeroOf Go.Proofs.Try.prog 44).map (·.cells.size) = some 1 := by kernel_rfl
theorem sz45 : szOf Go.Proofs.Try.prog 45 = some 1 := by kernel_rfl
theorem ag45 : aggOf Go.Proofs.Try.prog 45 = some false := by kernel_rfl
theorem by45 : bytesOfT Go.Proofs.Try.prog 45 = some 8 := by kernel_rfl
theorem zc45 : zeroCellsD Go.Proofs.Try.prog 45 = some [.i (.s (Value.nilFunc))] := by kernel_rfl
theorem zn45 : (zeroOf Go.Proofs.Try.prog 45).map (·.cells.size) = some 1 := by kernel_rfl
theorem sz46 : szOf Go.Proofs.Try.prog 46 = some 1 := by kernel_rfl
theorem ag46 : aggOf Go.Proofs.Try.prog 46 = some false := by kernel_rfl
theorem by46 : bytesOfT Go.Proofs.Try.prog 46 = some 8 := by kernel_rfl
theorem zc46 : zeroCellsD Go.Proofs.Try.prog 46 = some [.i (.s (Value.nilFunc))] := by kernel_rfl
theorem zn46 : (zeroOf Go.Proofs.Try.prog 46).map (·.cells.size) = some 1 := by kernel_rfl
theorem sz47 : szOf Go.Proofs.Try.prog 47 = some 1 := by kernel_rfl
theorem ag47 : aggOf Go.Proofs.Try.prog 47 = some false := by kernel_rfl
theorem by47 : bytesOfT Go.Proofs.Try.prog 47 = some 8 := by kernel_rfl
theorem zc47 : zeroCellsD Go.Proofs.Try.prog 47 = some [.i (.s (Value.nilFunc))] := by kernel_rfl
theorem zn47 : (zeroOf Go.Proofs.Try.prog 47).map (·.cells.size) = some 1 := by kernel_rfl
theorem sz48 : szOf Go.Proofs.Try.prog 48 = some 1 := by kernel_rfl
theorem ag48 : aggOf Go.Proofs.Try.prog 48 = some false := by kernel_rfl
theorem by48 : bytesOfT Go.Proofs.Try.prog 48 = some 0 := by kernel_rfl
theorem sz49 : szOf Go.Proofs.Try.prog 49 = some 1 := by kernel_rfl
theorem ag49 : aggOf Go.Proofs.Try.prog 49 = some false := by kernel_rfl
theorem by49 : bytesOfT Go.Proofs.Try.prog 49 = some 8 := by kernel_rfl
theorem zc49 : zeroCellsD Go.Proofs.Try.prog 49 = some [.i (.s (Value.nilFunc))] := by kernel_rfl
theorem zn49 : (zeroOf Go.Proofs.Try.prog 49).map (·.cells.size) = some 1 := by kernel_rfl
theorem sz50 : szOf Go.Proofs.Try.prog 50 = some 1 := by kernel_rfl
theorem ag50 : aggOf Go.Proofs.Try.prog 50 = some false := by kernel_rfl
theorem by50 : bytesOfT Go.Proofs.Try.prog 50 = some 8 := by kernel_rfl
theorem zc50 : zeroCellsD Go.Proofs.Try.prog 50 = some [.i (.s (Value.nilFunc))] := by kernel_rfl
theorem zn50 : (zeroOf Go.Proofs.Try.prog 50).map (·.cells.size) = some 1 := by kernel_rfl
theorem sz51 : szOf Go.Proofs.Try.prog 51 = some 2 := by kernel_rfl
theorem ag51 : aggOf Go.Proofs.Try.prog 51 = some true := by kernel_rfl
theorem by51 : bytesOfT Go.Proofs.Try.prog 51 = some 48 := by kernel_rfl
theorem fl51_0 : fldOf Go.Proofs.Try.prog 51 0 = some (0, 23) := by kernel_rfl
theorem fl51_1 : fldOf Go.Proofs.Try.prog 51 1 = some (1, 23) := by kernel_rfl
theorem pl51 : placesOf Go.Proofs.Try.prog 51 = some #[(0, 1), (1, 1)] := by kernel_rfl
theorem zc51 : zeroCellsD Go.Proofs.Try.prog 51 = some [.i (.s (Value.slice none 0 0)), .i (.s (Value.slice none 0 0))] := by kernel_rfl
theorem zn51 : (zeroOf Go.Proofs.Try.prog 51).map (·.cells.size) = some 2 := by kernel_rfl
theorem sz52 : szOf Go.Proofs.Try.prog 52 = some 2 := by kernel_rfl
theorem ag52 : aggOf Go.Proofs.Try.prog 52 = some true := by kernel_rfl
theorem by52 : bytesOfT Go.Proofs.Try.prog 52 = some 48 := by kernel_rfl
theorem fl52_0 : fldOf Go.Proofs.Try.prog 52 0 = some (0, 23) := by kernel_rfl
theorem fl52_1 : fldOf Go.Proofs.Try.prog 52 1 = some (1, 23) := by kernel_rfl
theorem pl52 : placesOf Go.Proofs.Try.prog 52 = some #[(0, 1), (1, 1)] := by kernel_rfl
theorem zc52 : zeroCellsD Go.Proofs.Try.prog 52 = some [.i (.s (Value.slice none 0 0)), .i (.s (Value.slice none 0 0))] := by kernel_rfl
theorem zn52 : (zeroOf Go.Proofs.Try.prog 52).map (·.cells.size) = some 2 := by kernel_rfl
theorem sz53 : szOf Go.Proofs.Try.prog 53 = some 1 := by kernel_rfl
theorem ag53 : aggOf Go.Proofs.Try.prog 53 = some false := by kernel_rfl
theorem by53 : bytesOfT Go.Proofs.Try.prog 53 = some 8 := by kernel_rfl
theorem zc53 : zeroCellsD Go.Proofs.Try.prog 53 = some [.i (.s (Value.nilFunc))] := by kernel_rfl
theorem zn53 : (zeroOf Go.Proofs.Try.prog 53).map (·.cells.size) = some 1 := by kernel_rfl
theorem sz54 : szOf Go.Proofs.Try.prog 54 = some 1 := by kernel_rfl
theorem ag54 : aggOf Go.Proofs.Try.prog 54 = some false := by kernel_rfl
theorem by54 : bytesOfT Go.Proofs.Try.prog 54 = some 8 := by kernel_rfl
theorem zc54 : zeroCellsD Go.Proofs.Try.prog 54 = some [.i (.s (Value.nilFunc))] := by kernel_rfl
theorem zn54 : (zeroOf Go.Proofs.Try.prog 54).map (·.cells.size) = some 1 := by kernel_rfl
theorem sz55 : szOf Go.Proofs.Try.prog 55 = some 1 := by kernel_rfl
theorem ag55 : aggOf Go.Proofs.Try.prog 55 = some false := by kernel_rfl
theorem by55 : bytesOfT Go.Proofs.Try.prog 55 = some 24 := by kernel_rfl
theorem un55 : undOf Go.Proofs.Try.prog 55 = some (TypeDesc.slice 57) := by kernel_rfl
theorem pl55 : placesOf Go.Proofs.Try.prog 55 = none := by kernel_rfl
theorem zc55 : zeroCellsD Go.Proofs.Try.prog 55 = some [.i (.s (Value.slice none 0 0))] := by kernel_rfl
theorem zn55 : (zeroOf Go.Proofs.Try.prog 55).map (·.cells.size) = some 1 := by kernel_rfl
theorem sz56 : szOf Go.Proofs.Try.prog 56 = some 3 := by kernel_rfl
theorem ag56 : aggOf Go.Proofs.Try.prog 56 = some true := by kernel_rfl
theorem by56 : bytesOfT Go.Proofs.Try.prog 56 = some 56 := by kernel_rfl
theorem fl56_0 : fldOf Go.Proofs.Try.prog 56 0 = some (0, 23) := by kernel_rfl
theorem fl56_1 : fldOf Go.Proofs.Try.prog 56 1 = some (1, 23) := by kernel_rfl
theorem fl56_2 : fldOf Go.Proofs.Try.prog 56 2 = some (2, 4) := by kernel_rfl
theorem pl56 : placesOf Go.Proofs.Try.prog 56 = some #[(0, 1), (1, 1), (2, 1)] := by kernel_rfl
theorem zc56 : zeroCellsD Go.Proofs.Try.prog 56 = some [.i (.s (Value.slice none 0 0)), .i (.s (Value.slice none 0 0)), .i (.s (Value.bool false))] := by kernel_rfl
theorem zn56 : (zeroOf Go.Proofs.Try.prog 56).map (·.cells.size) = some 3 := by kernel_rfl
theorem sz57 : szOf Go.Proofs.Try.prog 57 = some 3 := by kernel_rfl
theorem ag57 : aggOf Go.Proofs.Try.prog 57 = some true := by kernel_rfl
theorem by57 : bytesOfT Go.Proofs.Try.prog 57 = some 56 := by kernel_rfl
theorem fl57_0 : fldOf Go.Proofs.Try.prog 57 0 = some (0, 23) := by kernel_rfl
theorem fl57_1 : fldOf Go.Proofs.Try.prog 57 1 = some (1, 23) := by kernel_rfl
theorem fl57_2 : fldOf Go.Proofs.Try.prog 57 2 = some (2, 4) := by kernel_rfl
theorem pl57 : placesOf Go.Proofs.Try.prog 57 = some #[(0, 1), (1, 1), (2, 1)] := by kernel_rfl
theorem zc57 : zeroCellsD Go.Proofs.Try.prog 57 = some [.i (.s (Value.slice none 0 0)), .i (.s (Value.slice none 0 0)), .i (.s (Value.bool false))] := by kernel_rfl
theorem zn57 : (zeroOf Go.Proofs.Try.prog 57).map (·.cells.size) = some 3 := by kernel_rfl
theorem sz58 : szOf Go.Proofs.Try.prog 58 = some 1 := by kernel_rfl
theorem ag58 : aggOf Go.Proofs.Try.prog 58 = some false := by kernel_rfl
theorem by58 : bytesOfT Go.Proofs.Try.prog 58 = some 0 := by kernel_rfl
theorem sz59 : szOf Go.Proofs.Try.prog 59 = some 1 := by kernel_rfl
theorem ag59 : aggOf Go.Proofs.Try.prog 59 = some false := by kernel_rfl
theorem by59 : bytesOfT Go.Proofs.Try.prog 59 = some 8 := by kernel_rfl
theorem zc59 : zeroCellsD Go.Proofs.Try.prog 59 = some [.i (.s (Value.nilFunc))] := by kernel_rfl
theorem zn59 : (zeroOf Go.Proofs.Try.prog 59).map (·.cells.size) = some 1 := by kernel_rfl
theorem sz60 : szOf Go.Proofs.Try.prog 60 = some 1 := by kernel_rfl
theorem ag60 : aggOf Go.Proofs.Try.prog 60 = some false := by kernel_rfl
theorem by60 : bytesOfT Go.Proofs.Try.prog 60 = some 8 := by kernel_rfl
theorem zc60 : zeroCellsD Go.Proofs.Try.prog 60 = some [.i (.s (Value.nilFunc))] := by kernel_rfl
theorem zn60 : (zeroOf Go.Proofs.Try.prog 60).map (·.cells.size) = some 1 := by kernel_rfl
theorem sz61 : szOf Go.Proofs.Try.prog 61 = some 1 := by kernel_rfl
theorem ag61 : aggOf Go.Proofs.Try.prog 61 = some false := by kernel_rfl
theorem by61 : bytesOfT Go.Proofs.Try.prog 61 = some 8 := by kernel_rfl
theorem zc61 : zeroCellsD Go.Proofs.Try.prog 61 = some [.i (.s (Value.nilFunc))] := by kernel_rfl
theorem zn61 : (zeroOf Go.Proofs.Try.prog 61).map (·.cells.size) = some 1 := by kernel_rfl
theorem sz62 : szOf Go.Proofs.Try.prog 62 = some 1 := by kernel_rfl
theorem ag62 : aggOf Go.Proofs.Try.prog 62 = some false := by kernel_rfl
theorem by62 : bytesOfT Go.Proofs.Try.prog 62 = some 8 := by kernel_rfl
theorem zc62 : zeroCellsD Go.Proofs.Try.prog 62 = some [.i (.s (Value.nilFunc))] := by kernel_rfl
theorem zn62 : (zeroOf Go.Proofs.Try.prog 62).map (·.cells.size) = some 1 := by kernel_rfl
theorem sz63 : szOf Go.Proofs.Try.prog 63 = some 1 := by kernel_rfl
theorem ag63 : aggOf Go.Proofs.Try.prog 63 = some false := by kernel_rfl
theorem by63 : bytesOfT Go.Proofs.Try.prog 63 = some 8 := by kernel_rfl
theorem zc63 : zeroCellsD Go.Proofs.Try.prog 63 = some [.i (.s (Value.nilFunc))] := by kernel_rfl
theorem zn63 : (zeroOf Go.Proofs.Try.prog 63).map (·.cells.size) = some 1 := by kernel_rfl
theorem sz64 : szOf Go.Proofs.Try.prog 64 = some 1 := by kernel_rfl
theorem ag64 : aggOf Go.Proofs.Try.prog 64 = some false := by kernel_rfl
theorem by64 : bytesOfT Go.Proofs.Try.prog 64 = some 8 := by kernel_rfl
theorem zc64 : zeroCellsD Go.Proofs.Try.prog 64 = some [.i (.s (Value.nilFunc))] := by kernel_rfl
theorem zn64 : (zeroOf Go.Proofs.Try.prog 64).map (·.cells.size) = some 1 := by kernel_rfl
theorem sz65 : szOf Go.Proofs.Try.prog 65 = some 1 := by kernel_rfl
theorem ag65 : aggOf Go.Proofs.Try.prog 65 = some false := by kernel_rfl
theorem by65 : bytesOfT Go.Proofs.Try.prog 65 = some 8 := by kernel_rfl
theorem zc65 : zeroCellsD Go.Proofs.Try.prog 65 = some [.i (.s (Value.nilFunc))] := by kernel_rfl
theorem zn65 : (zeroOf Go.Proofs.Try.prog 65).map (·.cells.size) = some 1 := by kernel_rfl
theorem sz66 : szOf Go.Proofs.Try.prog 66 = some 1 := by kernel_rfl
theorem ag66 : aggOf Go.Proofs.Try.prog 66 = some false := by kernel_rfl
theorem by66 : bytesOfT Go.Proofs.Try.prog 66 = some 8 := by kernel_rfl
theorem zc66 : zeroCellsD Go.Proofs.Try.prog 66 = some [.i (.s (Value.nilFunc))] := by kernel_rfl
theorem zn66 : (zeroOf Go.Proofs.Try.prog 66).map (·.cells.size) = some 1 := by kernel_rfl
theorem sz67 : szOf Go.Proofs.Try.prog 67 = some 1 := by kernel_rfl
theorem ag67 : aggOf Go.Proofs.Try.prog 67 = some false := by kernel_rfl
theorem by67 : bytesOfT Go.Proofs.Try.prog 67 = some 8 := by kernel_rfl
theorem zc67 : zeroCellsD Go.Proofs.Try.prog 67 = some [.i (.s (Value.nilFunc))] := by kernel_rfl
theorem zn67 : (zeroOf Go.Proofs.Try.prog 67).map (·.cells.size) = some 1 := by kernel_rfl
theorem sz68 : szOf Go.Proofs.Try.prog 68 = some 1 := by kernel_rfl
theorem ag68 : aggOf Go.Proofs.Try.prog 68 = some false := by kernel_rfl
theorem by68 : bytesOfT Go.Proofs.Try.prog 68 = some 24 := by kernel_rfl
theorem un68 : undOf Go.Proofs.Try.prog 68 = some (TypeDesc.slice 27) := by kernel_rfl
theorem pl68 : placesOf Go.Proofs.Try.prog 68 = none := by kernel_rfl
theorem zc68 : zeroCellsD Go.Proofs.Try.prog 68 = some [.i (.s (Value.slice none 0 0))] := by kernel_rfl
theorem zn68 : (zeroOf Go.Proofs.Try.prog 68).map (·.cells.size) = some 1 := by kernel_rfl
theorem sz69 : szOf Go.Proofs.Try.prog 69 = some 1 := by kernel_rfl
theorem ag69 : aggOf Go.Proofs.Try.prog 69 = some false := by kernel_rfl
theorem by69 : bytesOfT Go.Proofs.Try.prog 69 = some 8 := by kernel_rfl
theorem zc69 : zeroCellsD Go.Proofs.Try.prog 69 = some [.i (.s (Value.nilFunc))] := by kernel_rfl
theorem zn69 : (zeroOf Go.Proofs.Try.prog 69).map (·.cells.size) = some 1 := by kernel_rfl
theorem sz70 : szOf Go.Proofs.Try.prog 70 = some 1 := by kernel_rfl
theorem ag70 : aggOf Go.Proofs.Try.prog 70 = some false := by kernel_rfl
theorem by70 : bytesOfT Go.Proofs.Try.prog 70 = some 8 := by kernel_rfl
theorem zc70 : zeroCellsD Go.Proofs.Try.prog 70 = some [.i (.s (Value.nilFunc))] := by kernel_rfl
theorem zn70 : (zeroOf Go.Proofs.Try.prog 70).map (·.cells.size) = some 1 := by kernel_rfl
theorem sz71 : szOf Go.Proofs.Try.prog 71 = some 1 := by kernel_rfl
theorem ag71 : aggOf Go.Proofs.Try.prog 71 = some false := by kernel_rfl
theorem by71 : bytesOfT Go.Proofs.Try.prog 71 = some 0 := by kernel_rfl
theorem sz72 : szOf Go.Proofs.Try.prog 72 = some 1 := by kernel_rfl
theorem ag72 : aggOf Go.Proofs.Try.prog 72 = some false := by kernel_rfl
theorem by72 : bytesOfT Go.Proofs.Try.prog 72 = some 8 := by kernel_rfl
theorem zc72 : zeroCellsD Go.Proofs.Try.prog 72 = some [.i (.s (Value.nilFunc))] := by kernel_rfl
theorem zn72 : (zeroOf Go.Proofs.Try.prog 72).map (·.cells.size) = some 1 := by kernel_rfl
theorem sz73 : szOf Go.Proofs.Try.prog 73 = some 1 := by kernel_rfl
theorem ag73 : aggOf Go.Proofs.Try.prog 73 = some false := by kernel_rfl
theorem by73 : bytesOfT Go.Proofs.Try.prog 73 = some 8 := by kernel_rfl
theorem zc73 : zeroCellsD Go.Proofs.Try.prog 73 = some [.i (.s (Value.nilFunc))] := by kernel_rfl
theorem zn73 : (zeroOf Go.Proofs.Try.prog 73).map (·.cells.size) = some 1 := by kernel_rfl
theorem sz74 : szOf Go.Proofs.Try.prog 74 = some 1 := by kernel_rfl
theorem ag74 : aggOf Go.Proofs.Try.prog 74 = some false := by kernel_rfl
theorem by74 : bytesOfT Go.Proofs.Try.prog 74 = some 8 := by kernel_rfl
theorem zc74 : zeroCellsD Go.Proofs.Try.prog 74 = some [.i (.s (Value.nilFunc))] := by kernel_rfl
theorem zn74 : (zeroOf Go.Proofs.Try.prog 74).map (·.cells.size) = some 1 := by kernel_rfl
theorem sz75 : szOf Go.Proofs.Try.prog 75 = some 1 := by kernel_rfl
theorem ag75 : aggOf Go.Proofs.Try.prog 75 = some false := by kernel_rfl
theorem by75 : bytesOfT Go.Proofs.Try.prog 75 = some 8 := by kernel_rfl
theorem zc75 : zeroCellsD Go.Proofs.Try.prog 75 = some [.i (.s (Value.nilFunc))] := by kernel_rfl
theorem zn75 : (zeroOf Go.Proofs.Try.prog 75).map (·.cells.size) = some 1 := by kernel_rfl
theorem sz76 : szOf Go.Proofs.Try.prog 76 = some 1 := by kernel_rfl
theorem ag76 : aggOf Go.Proofs.Try.prog 76 = some false := by kernel_rfl
theorem by76 : bytesOfT Go.Proofs.Try.prog 76 = some 8 := by kernel_rfl
theorem un76 : undOf Go.Proofs.Try.prog 76 = some (TypeDesc.pointer 27) := by kernel_rfl
theorem zc76 : zeroCellsD Go.Proofs.Try.prog 76 = some [.i (.s (Value.pointer none))] := by kernel_rfl
theorem zn76 : (zeroOf Go.Proofs.Try.prog 76).map (·.cells.size) = some 1 := by kernel_rfl
theorem sz77 : szOf Go.Proofs.Try.prog 77 = some 1 := by kernel_rfl
theorem ag77 : aggOf Go.Proofs.Try.prog 77 = some false := by kernel_rfl
theorem by77 : bytesOfT Go.Proofs.Try.prog 77 = some 8 := by kernel_rfl
theorem zc77 : zeroCellsD Go.Proofs.Try.prog 77 = some [.i (.s (Value.nilFunc))] := by kernel_rfl
theorem zn77 : (zeroOf Go.Proofs.Try.prog 77).map (·.cells.size) = some 1 := by kernel_rfl
theorem sz78 : szOf Go.Proofs.Try.prog 78 = some 1 := by kernel_rfl
theorem ag78 : aggOf Go.Proofs.Try.prog 78 = some false := by kernel_rfl
theorem by78 : bytesOfT Go.Proofs.Try.prog 78 = some 8 := by kernel_rfl
theorem zc78 : zeroCellsD Go.Proofs.Try.prog 78 = some [.i (.s (Value.nilFunc))] := by kernel_rfl
theorem zn78 : (zeroOf Go.Proofs.Try.prog 78).map (·.cells.size) = some 1 := by kernel_rfl
theorem sz79 : szOf Go.Proofs.Try.prog 79 = some 1 := by kernel_rfl
theorem ag79 : aggOf Go.Proofs.Try.prog 79 = some false := by kernel_rfl
theorem by79 : bytesOfT Go.Proofs.Try.prog 79 = some 8 := by kernel_rfl
theorem zc79 : zeroCellsD Go.Proofs.Try.prog 79 = some [.i (.s (Value.nilFunc))] := by kernel_rfl
theorem zn79 : (zeroOf Go.Proofs.Try.prog 79).map (·.cells.size) = some 1 := by kernel_rfl
theorem sz80 : szOf Go.Proofs.Try.prog 80 = some 1 := by kernel_rfl
theorem ag80 : aggOf Go.Proofs.Try.prog 80 = some false := by kernel_rfl
theorem by80 : bytesOfT Go.Proofs.Try.prog 80 = some 24 := by kernel_rfl
theorem un80 : undOf Go.Proofs.Try.prog 80 = some (TypeDesc.slice 83) := by kernel_rfl
theorem pl80 : placesOf Go.Proofs.Try.prog 80 = none := by kernel_rfl
theorem zc80 : zeroCellsD Go.Proofs.Try.prog 80 = some [.i (.s (Value.slice none 0 0))] := by kernel_rfl
theorem zn80 : (zeroOf Go.Proofs.Try.prog 80).map (·.cells.size) = some 1 := by kernel_rfl
theorem sz81 : szOf Go.Proofs.Try.prog 81 = some 1 := by kernel_rfl
theorem ag81 : aggOf Go.Proofs.Try.prog 81 = some false := by kernel_rfl
theorem by81 : bytesOfT Go.Proofs.Try.prog 81 = some 8 := by kernel_rfl
theorem zc81 : zeroCellsD Go.Proofs.Try.prog 81 = some [.i (.s (Value.nilFunc))] := by kernel_rfl
theorem zn81 : (zeroOf Go.Proofs.Try.prog 81).map (·.cells.size) = some 1 := by kernel_rfl
theorem sz82 : szOf Go.Proofs.Try.prog 82 = some 3 := by kernel_rfl
theorem ag82 : aggOf Go.Proofs.Try.prog 82 = some true := by kernel_rfl
theorem by82 : bytesOfT Go.Proofs.Try.prog 82 = some 24 := by kernel_rfl
theorem fl82_0 : fldOf Go.Proofs.Try.prog 82 0 = some (0, 4) := by kernel_rfl
theorem fl82_1 : fldOf Go.Proofs.Try.prog 82 1 = some (1, 3) := by kernel_rfl
theorem fl82_2 : fldOf Go.Proofs.Try.prog 82 2 = some (2, 3) := by kernel_rfl
theorem pl82 : placesOf Go.Proofs.Try.prog 82 = some #[(0, 1), (1, 1), (2, 1)] := by kernel_rfl
theorem zc82 : zeroCellsD Go.Proofs.Try.prog 82 = some [.i (.s (Value.bool false)), .i (.s (Value.int IntKind.i64 0)), .i (.s (Value.int IntKind.i64 0))] := by kernel_rfl
theorem zn82 : (zeroOf Go.Proofs.Try.prog 82).map (·.cells.size) = some 3 := by kernel_rfl
theorem sz83 : szOf Go.Proofs.Try.prog 83 = some 3 := by kernel_rfl
theorem ag83 : aggOf Go.Proofs.Try.prog 83 = some true := by kernel_rfl
theorem by83 : bytesOfT Go.Proofs.Try.prog 83 = some 24 := by kernel_rfl
theorem fl83_0 : fldOf Go.Proofs.Try.prog 83 0 = some (0, 4) := by kernel_rfl
theorem fl83_1 : fldOf Go.Proofs.Try.prog 83 1 = some (1, 3) := by kernel_rfl
theorem fl83_2 : fldOf Go.Proofs.Try.prog 83 2 = some (2, 3) := by kernel_rfl
theorem pl83 : placesOf Go.Proofs.Try.prog 83 = some #[(0, 1), (1, 1), (2, 1)] := by kernel_rfl
theorem zc83 : zeroCellsD Go.Proofs.Try.prog 83 = some [.i (.s (Value.bool false)), .i (.s (Value.int IntKind.i64 0)), .i (.s (Value.int IntKind.i64 0))] := by kernel_rfl
theorem zn83 : (zeroOf Go.Proofs.Try.prog 83).map (·.cells.size) = some 3 := by kernel_rfl
theorem sz84 : szOf Go.Proofs.Try.prog 84 = some 1 := by kernel_rfl
theorem ag84 : aggOf Go.Proofs.Try.prog 84 = some false := by kernel_rfl
theorem by84 : bytesOfT Go.Proofs.Try.prog 84 = some 8 := by kernel_rfl
theorem zc84 : zeroCellsD Go.Proofs.Try.prog 84 = some [.i (.s (Value.nilFunc))] := by kernel_rfl
theorem zn84 : (zeroOf Go.Proofs.Try.prog 84).map (·.cells.size) = some 1 := by kernel_rfl
theorem sz85 : szOf Go.Proofs.Try.prog 85 = some 1 := by kernel_rfl
theorem ag85 : aggOf Go.Proofs.Try.prog 85 = some false := by kernel_rfl
theorem by85 : bytesOfT Go.Proofs.Try.prog 85 = some 8 := by kernel_rfl
theorem zc85 : zeroCellsD Go.Proofs.Try.prog 85 = some [.i (.s (Value.nilFunc))] := by kernel_rfl
theorem zn85 : (zeroOf Go.Proofs.Try.prog 85).map (·.cells.size) = some 1 := by kernel_rfl
theorem sz86 : szOf Go.Proofs.Try.prog 86 = some 1 := by kernel_rfl
theorem ag86 : aggOf Go.Proofs.Try.prog 86 = some false := by kernel_rfl
theorem by86 : bytesOfT Go.Proofs.Try.prog 86 = some 8 := by kernel_rfl
theorem zc86 : zeroCellsD Go.Proofs.Try.prog 86 = some [.i (.s (Value.nilFunc))] := by kernel_rfl
theorem zn86 : (zeroOf Go.Proofs.Try.prog 86).map (·.cells.size) = some 1 := by kernel_rfl
theorem sz87 : szOf Go.Proofs.Try.prog 87 = some 1 := by kernel_rfl
theorem ag87 : aggOf Go.Proofs.Try.prog 87 = some false := by kernel_rfl
theorem by87 : bytesOfT Go.Proofs.Try.prog 87 = some 8 := by kernel_rfl
theorem zc87 : zeroCellsD Go.Proofs.Try.prog 87 = some [.i (.s (Value.nilFunc))] := by kernel_rfl
theorem zn87 : (zeroOf Go.Proofs.Try.prog 87).map (·.cells.size) = some 1 := by kernel_rfl
theorem sz88 : szOf Go.Proofs.Try.prog 88 = some 1 := by kernel_rfl
theorem ag88 : aggOf Go.Proofs.Try.prog 88 = some false := by kernel_rfl
theorem by88 : bytesOfT Go.Proofs.Try.prog 88 = some 8 := by kernel_rfl
theorem zc88 : zeroCellsD Go.Proofs.Try.prog 88 = some [.i (.s (Value.nilFunc))] := by kernel_rfl
theorem zn88 : (zeroOf Go.Proofs.Try.prog 88).map (·.cells.size) = some 1 := by kernel_rfl
theorem sz89 : szOf Go.Proofs.Try.prog 89 = some 1 := by kernel_rfl
theorem ag89 : aggOf Go.Proofs.Try.prog 89 = some false := by kernel_rfl
theorem by89 : bytesOfT Go.Proofs.Try.prog 89 = some 8 := by kernel_rfl
theorem zc89 : zeroCellsD Go.Proofs.Try.prog 89 = some [.i (.s (Value.nilFunc))] := by kernel_rfl
theorem zn89 : (zeroOf Go.Proofs.Try.prog 89).map (·.cells.size) = some 1 := by kernel_rfl
theorem sz90 : szOf Go.Proofs.Try.prog 90 = some 1 := by kernel_rfl
theorem ag90 : aggOf Go.Proofs.Try.prog 90 = some false := by kernel_rfl
theorem by90 : bytesOfT Go.Proofs.Try.prog 90 = some 24 := by kernel_rfl
theorem un90 : undOf Go.Proofs.Try.prog 90 = some (TypeDesc.slice 93) := by kernel_rfl
theorem pl90 : placesOf Go.Proofs.Try.prog 90 = none := by kernel_rfl
theorem zc90 : zeroCellsD Go.Proofs.Try.prog 90 = some [.i (.s (Value.slice none 0 0))] := by kernel_rfl
theorem zn90 : (zeroOf Go.Proofs.Try.prog 90).map (·.cells.size) = some 1 := by kernel_rfl
theorem sz91 : szOf Go.Proofs.Try.prog 91 = some 1 := by kernel_rfl
theorem ag91 : aggOf Go.Proofs.Try.prog 91 = some false := by kernel_rfl
theorem by91 : bytesOfT Go.Proofs.Try.prog 91 = some 8 := by kernel_rfl
theorem zc91 : zeroCellsD Go.Proofs.Try.prog 91 = some [.i (.s (Value.nilFunc))] := by kernel_rfl
theorem zn91 : (zeroOf Go.Proofs.Try.prog 91).map (·.cells.size) = some 1 := by kernel_rfl
theorem sz92 : szOf Go.Proofs.Try.prog 92 = some 1 := by kernel_rfl
theorem ag92 : aggOf Go.Proofs.Try.prog 92 = some false := by kernel_rfl
theorem by92 : bytesOfT Go.Proofs.Try.prog 92 = some 24 := by kernel_rfl
theorem un92 : undOf Go.Proofs.Try.prog 92 = some (TypeDesc.slice 94) := by kernel_rfl
theorem pl92 : placesOf Go.Proofs.Try.prog 92 = none := by kernel_rfl
theorem zc92 : zeroCellsD Go.Proofs.Try.prog 92 = some [.i (.s (Value.slice none 0 0))] := by kernel_rfl
theorem zn92 : (zeroOf Go.Proofs.Try.prog 92).map (·.cells.size) = some 1 := by kernel_rfl
theorem sz93 : szOf Go.Proofs.Try.prog 93 = some 1 := by kernel_rfl
theorem ag93 : aggOf Go.Proofs.Try.prog 93 = some false := by kernel_rfl
theorem by93 : bytesOfT Go.Proofs.Try.prog 93 = some 8 := by kernel_rfl
theorem un93 : undOf Go.Proofs.Try.prog 93 = some (TypeDesc.int IntKind.u64) := by kernel_rfl
theorem pl93 : placesOf Go.Proofs.Try.prog 93 = none := by kernel_rfl
theorem zc93 : zeroCellsD Go.Proofs.Try.prog 93 = some [.i (.s (Value.int IntKind.u64 0))] := by kernel_rfl
theorem zn93 : (zeroOf Go.Proofs.Try.prog 93).map (·.cells.size) = some 1 := by kernel_rfl
theorem sz94 : szOf Go.Proofs.Try.prog 94 = some 1 := by kernel_rfl
theorem ag94 : aggOf Go.Proofs.Try.prog 94 = some false := by kernel_rfl
theorem by94 : bytesOfT Go.Proofs.Try.prog 94 = some 4 := by kernel_rfl
theorem un94 : undOf Go.Proofs.Try.prog 94 = some (TypeDesc.int IntKind.u32) := by kernel_rfl
theorem pl94 : placesOf Go.Proofs.Try.prog 94 = none := by kernel_rfl
theorem zc94 : zeroCellsD Go.Proofs.Try.prog 94 = some [.i (.s (Value.int IntKind.u32 0))] := by kernel_rfl
theorem zn94 : (zeroOf Go.Proofs.Try.prog 94).map (·.cells.size) = some 1 := by kernel_rfl
theorem sz95 : szOf Go.Proofs.Try.prog 95 = some 1 := by kernel_rfl
theorem ag95 : aggOf Go.Proofs.Try.prog 95 = some false := by kernel_rfl
theorem by95 : bytesOfT Go.Proofs.Try.prog 95 = some 8 := by kernel_rfl
theorem zc95 : zeroCellsD Go.Proofs.Try.prog 95 = some [.i (.s (Value.nilFunc))] := by kernel_rfl
theorem zn95 : (zeroOf Go.Proofs.Try.prog 95).map (·.cells.size) = some 1 := by kernel_rfl
theorem sz96 : szOf Go.Proofs.Try.prog 96 = some 1 := by kernel_rfl
theorem ag96 : aggOf Go.Proofs.Try.prog 96 = some false := by kernel_rfl
theorem by96 : bytesOfT Go.Proofs.Try.prog 96 = some 8 := by kernel_rfl
theorem zc96 : zeroCellsD Go.Proofs.Try.prog 96 = some [.i (.s (Value.nilFunc))] := by kernel_rfl
theorem zn96 : (zeroOf Go.Proofs.Try.prog 96).map (·.cells.size) = some 1 := by kernel_rfl
theorem sz97 : szOf Go.Proofs.Try.prog 97 = some 1 := by kernel_rfl
theorem ag97 : aggOf Go.Proofs.Try.prog 97 = some false := by kernel_rfl
theorem by97 : bytesOfT Go.Proofs.Try.prog 97 = some 8 := by kernel_rfl
theorem un97 : undOf Go.Proofs.Try.prog 97 = some (TypeDesc.int IntKind.u64) := by kernel_rfl
theorem pl97 : placesOf Go.Proofs.Try.prog 97 = none := by kernel_rfl
theorem zc97 : zeroCellsD Go.Proofs.Try.prog 97 = some [.i (.s (Value.int IntKind.u64 0))] := by kernel_rfl
theorem zn97 : (zeroOf Go.Proofs.Try.prog 97).map (·.cells.size) = some 1 := by kernel_rfl
theorem sz98 : szOf Go.Proofs.Try.prog 98 = some 1 := by kernel_rfl
theorem ag98 : aggOf Go.Proofs.Try.prog 98 = some false := by kernel_rfl
theorem by98 : bytesOfT Go.Proofs.Try.prog 98 = some 8 := by kernel_rfl
theorem zc98 : zeroCellsD Go.Proofs.Try.prog 98 = some [.i (.s (Value.nilFunc))] := by kernel_rfl
theorem zn98 : (zeroOf Go.Proofs.Try.prog 98).map (·.cells.size) = some 1 := by kernel_rfl
theorem sz99 : szOf Go.Proofs.Try.prog 99 = some 1 := by kernel_rfl
theorem ag99 : aggOf Go.Proofs.Try.prog 99 = some false := by kernel_rfl
theorem by99 : bytesOfT Go.Proofs.Try.prog 99 = some 8 := by kernel_rfl
theorem zc99 : zeroCellsD Go.Proofs.Try.prog 99 = some [.i (.s (Value.nilFunc))] := by kernel_rfl
theorem zn99 : (zeroOf Go.Proofs.Try.prog 99).map (·.cells.size) = some 1 := by kernel_rfl
theorem sz100 : szOf Go.Proofs.Try.prog 100 = some 1 := by kernel_rfl
theorem ag100 : aggOf Go.Proofs.Try.prog 100 = some false := by kernel_rfl
theorem by100 : bytesOfT Go.Proofs.Try.prog 100 = some 8 := by kernel_rfl
theorem zc100 : zeroCellsD Go.Proofs.Try.prog 100 = some [.i (.s (Value.nilFunc))] := by kernel_rfl
theorem zn100 : (zeroOf Go.Proofs.Try.prog 100).map (·.cells.size) = some 1 := by kernel_rfl
theorem sz101 : szOf Go.Proofs.Try.prog 101 = some 1 := by kernel_rfl
theorem ag101 : aggOf Go.Proofs.Try.prog 101 = some false := by kernel_rfl
theorem by101 : bytesOfT Go.Proofs.Try.prog 101 = some 8 := by kernel_rfl
theorem zc101 : zeroCellsD Go.Proofs.Try.prog 101 = some [.i (.s (Value.nilFunc))] := by kernel_rfl
theorem zn101 : (zeroOf Go.Proofs.Try.prog 101).map (·.cells.size) = some 1 := by kernel_rfl
theorem sz102 : szOf Go.Proofs.Try.prog 102 = some 1 := by kernel_rfl
theorem ag102 : aggOf Go.Proofs.Try.prog 102 = some false := by kernel_rfl
theorem by102 : bytesOfT Go.Proofs.Try.prog 102 = some 8 := by kernel_rfl
theorem zc102 : zeroCellsD Go.Proofs.Try.prog 102 = some [.i (.s (Value.nilFunc))] := by kernel_rfl
theorem zn102 : (zeroOf Go.Proofs.Try.prog 102).map (·.cells.size) = some 1 := by kernel_rfl
theorem sz103 : szOf Go.Proofs.Try.prog 103 = some 1 := by kernel_rfl
theorem ag103 : aggOf Go.Proofs.Try.prog 103 = some false := by kernel_rfl
theorem by103 : bytesOfT Go.Proofs.Try.prog 103 = some 8 := by kernel_rfl
theorem zc103 : zeroCellsD Go.Proofs.Try.prog 103 = some [.i (.s (Value.nilFunc))] := by kernel_rfl
theorem zn103 : (zeroOf Go.Proofs.Try.prog 103).map (·.cells.size) = some 1 := by kernel_rfl
theorem sz104 : szOf Go.Proofs.Try.prog 104 = some 1 := by kernel_rfl
theorem ag104 : aggOf Go.Proofs.Try.prog 104 = some false := by kernel_rfl
theorem by104 : bytesOfT Go.Proofs.Try.prog 104 = some 8 := by kernel_rfl
theorem un104 : undOf Go.Proofs.Try.prog 104 = some (TypeDesc.pointer 112) := by kernel_rfl
theorem zc104 : zeroCellsD Go.Proofs.Try.prog 104 = some [.i (.s (Value.pointer none))] := by kernel_rfl
theorem zn104 : (zeroOf Go.Proofs.Try.prog 104).map (·.cells.size) = some 1 := by kernel_rfl
theorem sz105 : szOf Go.Proofs.Try.prog 105 = some 1 := by kernel_rfl
theorem ag105 : aggOf Go.Proofs.Try.prog 105 = some false := by kernel_rfl
theorem by105 : bytesOfT Go.Proofs.Try.prog 105 = some 8 := by kernel_rfl
theorem zc105 : zeroCellsD Go.Proofs.Try.prog 105 = some [.i (.s (Value.nilFunc))] := by kernel_rfl
theorem zn105 : (zeroOf Go.Proofs.Try.prog 105).map (·.cells.size) = some 1 := by kernel_rfl
theorem sz106 : szOf Go.Proofs.Try.prog 106 = some 1 := by kernel_rfl
theorem ag106 : aggOf Go.Proofs.Try.prog 106 = some false := by kernel_rfl
theorem by106 : bytesOfT Go.Proofs.Try.prog 106 = some 8 := by kernel_rfl
theorem zc106 : zeroCellsD Go.Proofs.Try.prog 106 = some [.i (.s (Value.nilFunc))] := by kernel_rfl
theorem zn106 : (zeroOf Go.Proofs.Try.prog 106).map (·.cells.size) = some 1 := by kernel_rfl
theorem sz107 : szOf Go.Proofs.Try.prog 107 = some 1 := by kernel_rfl
theorem ag107 : aggOf Go.Proofs.Try.prog 107 = some false := by kernel_rfl
theorem by107 : bytesOfT Go.Proofs.Try.prog 107 = some 8 := by kernel_rfl
theorem zc107 : zeroCellsD Go.Proofs.Try.prog 107 = some [.i (.s (Value.nilFunc))] := by kernel_rfl
theorem zn107 : (zeroOf Go.Proofs.Try.prog 107).map (·.cells.size) = some 1 := by kernel_rfl
theorem sz108 : szOf Go.Proofs.Try.prog 108 = some 1 := by kernel_rfl
theorem ag108 : aggOf Go.Proofs.Try.prog 108 = some false := by kernel_rfl
theorem by108 : bytesOfT Go.Proofs.Try.prog 108 = some 8 := by kernel_rfl
theorem zc108 : zeroCellsD Go.Proofs.Try.prog 108 = some [.i (.s (Value.nilFunc))] := by kernel_rfl
theorem zn108 : (zeroOf Go.Proofs.Try.prog 108).map (·.cells.size) = some 1 := by kernel_rfl
theorem sz109 : szOf Go.Proofs.Try.prog 109 = some 1 := by kernel_rfl
theorem ag109 : aggOf Go.Proofs.Try.prog 109 = some false := by kernel_rfl
theorem by109 : bytesOfT Go.Proofs.Try.prog 109 = some 8 := by kernel_rfl
theorem zc109 : zeroCellsD Go.Proofs.Try.prog 109 = some [.i (.s (Value.nilFunc))] := by kernel_rfl
theorem zn109 : (zeroOf Go.Proofs.Try.prog 109).map (·.cells.size) = some 1 := by kernel_rfl
theorem sz110 : szOf Go.Proofs.Try.prog 110 = some 8 := by kernel_rfl
theorem ag110 : aggOf Go.Proofs.Try.prog 110 = some true := by kernel_rfl
theorem by110 : bytesOfT Go.Proofs.Try.prog 110 = some 32 := by kernel_rfl
theorem un110 : undOf Go.Proofs.Try.prog 110 = some (TypeDesc.array 8 94) := by kernel_rfl
theorem pl110 : placesOf Go.Proofs.Try.prog 110 = none := by kernel_rfl
theorem zc110 : zeroCellsD Go.Proofs.Try.prog 110 = some [.i (.s (Value.int IntKind.u32 0)), .i (.s (Value.int IntKind.u32 0)), .i (.s (Value.int IntKind.u32 0)), .i (.s (Value.int IntKind.u32 0)), .i (.s (Value.int IntKind.u32 0)), .i (.s (Value.int IntKind.u32 0)), .i (.s (Value.int IntKind.u32 0)), .i (.s (Value.int IntKind.u32 0))] := by kernel_rfl
theorem zn110 : (zeroOf Go.Proofs.Try.prog 110).map (·.cells.size) = some 8 := by kernel_rfl
theorem sz111 : szOf Go.Proofs.Try.prog 111 = some 10 := by kernel_rfl
theorem ag111 : aggOf Go.Proofs.Try.prog 111 = some true := by kernel_rfl
theorem by111 : bytesOfT Go.Proofs.Try.prog 111 = some 64 := by kernel_rfl
theorem fl111_0 : fldOf Go.Proofs.Try.prog 111 0 = some (0, 110) := by kernel_rfl
theorem fl111_1 : fldOf Go.Proofs.Try.prog 111 1 = some (8, 23) := by kernel_rfl
theorem fl111_2 : fldOf Go.Proofs.Try.prog 111 2 = some (9, 93) := by kernel_rfl
theorem pl111 : placesOf Go.Proofs.Try.prog 111 = some #[(0, 8), (8, 1), (9, 1)] := by kernel_rfl
theorem zc111 : zeroCellsD Go.Proofs.Try.prog 111 = some [.i (.s (Value.int IntKind.u32 0)), .i (.s (Value.int IntKind.u32 0)), .i (.s (Value.int IntKind.u32 0)), .i (.s (Value.int IntKind.u32 0)), .i (.s (Value.int IntKind.u32 0)), .i (.s (Value.int IntKind.u32 0)), .i (.s (Value.int IntKind.u32 0)), .i (.s (Value.int IntKind.u32 0)), .i (.s (Value.slice none 0 0)), .i (.s (Value.int IntKind.u64 0))] := by kernel_rfl
theorem zn111 : (zeroOf Go.Proofs.Try.prog 111).map (·.cells.size) = some 10 := by kernel_rfl
theorem sz112 : szOf Go.Proofs.Try.prog 112 = some 10 := by kernel_rfl
theorem ag112 : aggOf Go.Proofs.Try.prog 112 = some true := by kernel_rfl
theorem by112 : bytesOfT Go.Proofs.Try.prog 112 = some 64 := by kernel_rfl
theorem fl112_0 : fldOf Go.Proofs.Try.prog 112 0 = some (0, 110) := by kernel_rfl
theorem fl112_1 : fldOf Go.Proofs.Try.prog 112 1 = some (8, 23) := by kernel_rfl
theorem fl112_2 : fldOf Go.Proofs.Try.prog 112 2 = some (9, 93) := by kernel_rfl
theorem pl112 : placesOf Go.Proofs.Try.prog 112 = some #[(0, 8), (8, 1), (9, 1)] := by kernel_rfl
theorem zc112 : zeroCellsD Go.Proofs.Try.prog 112 = some [.i (.s (Value.int IntKind.u32 0)), .i (.s (Value.int IntKind.u32 0)), .i (.s (Value.int IntKind.u32 0)), .i (.s (Value.int IntKind.u32 0)), .i (.s (Value.int IntKind.u32 0)), .i (.s (Value.int IntKind.u32 0)), .i (.s (Value.int IntKind.u32 0)), .i (.s (Value.int IntKind.u32 0)), .i (.s (Value.slice none 0 0)), .i (.s (Value.int IntKind.u64 0))] := by kernel_rfl
theorem zn112 : (zeroOf Go.Proofs.Try.prog 112).map (·.cells.size) = some 10 := by kernel_rfl
theorem sz113 : szOf Go.Proofs.Try.prog 113 = some 1 := by kernel_rfl
theorem ag113 : aggOf Go.Proofs.Try.prog 113 = some false := by kernel_rfl
theorem by113 : bytesOfT Go.Proofs.Try.prog 113 = some 0 := by kernel_rfl
theorem sz114 : szOf Go.Proofs.Try.prog 114 = some 1 := by kernel_rfl
theorem ag114 : aggOf Go.Proofs.Try.prog 114 = some false := by kernel_rfl
theorem by114 : bytesOfT Go.Proofs.Try.prog 114 = some 8 := by kernel_rfl
theorem zc114 : zeroCellsD Go.Proofs.Try.prog 114 = some [.i (.s (Value.nilFunc))] := by kernel_rfl
theorem zn114 : (zeroOf Go.Proofs.Try.prog 114).map (·.cells.size) = some 1 := by kernel_rfl
theorem sz115 : szOf Go.Proofs.Try.prog 115 = some 1 := by kernel_rfl
theorem ag115 : aggOf Go.Proofs.Try.prog 115 = some false := by kernel_rfl
theorem by115 : bytesOfT Go.Proofs.Try.prog 115 = some 8 := by kernel_rfl
theorem zc115 : zeroCellsD Go.Proofs.Try.prog 115 = some [.i (.s (Value.nilFunc))] := by kernel_rfl
theorem zn115 : (zeroOf Go.Proofs.Try.prog 115).map (·.cells.size) = some 1 := by kernel_rfl
theorem sz116 : szOf Go.Proofs.Try.prog 116 = some 64 := by kernel_rfl
theorem ag116 : aggOf Go.Proofs.Try.prog 116 = some true := by kernel_rfl
theorem by116 : bytesOfT Go.Proofs.Try.prog 116 = some 256 := by kernel_rfl
theorem un116 : undOf Go.Proofs.Try.prog 116 = some (TypeDesc.array 64 94) := by kernel_rfl
theorem pl116 : placesOf Go.Proofs.Try.prog 116 = none := by kernel_rfl
theorem zc116 : zeroCellsD Go.Proofs.Try.prog 116 = some [.i (.s (Value.int IntKind.u32 0)), .i (.s (Value.int IntKind.u32 0)), .i (.s (Value.int IntKind.u32 0)), .i (.s (Value.int IntKind.u32 0)), .i (.s (Value.int IntKind.u32 0)), .i (.s (Value.int IntKind.u32 0)), .i (.s (Value.int IntKind.u32 0)), .i (.s (Value.int IntKind.u32 0)), .i (.s (Value.int IntKind.u32 0)), .i (.s (Value.int IntKind.u32 0)), .i (.s (Value.int IntKind.u32 0)), .i (.s (Value.int IntKind.u32 0)), .i (.s (Value.int IntKind.u32 0)), .i (.s (Value.int IntKind.u32 0)), .i (.s (Value.int IntKind.u32 0)), .i (.s (Value.int IntKind.u32 0)), .i (.s (Value.int IntKind.u32 0)), .i (.s (Value.int IntKind.u32 0)), .i (.s (Value.int IntKind.u32 0)), .i (.s (Value.int IntKind.u32 0)), .i (.s (Value.int IntKind.u32 0)), .i (.s (Value.int IntKind.u32 0)), .i (.s (Value.int IntKind.u32 0)), .i (.s (Value.int IntKind.u32 0)), .i (.s (Value.int IntKind.u32 0)), .i (.s (Value.int IntKind.u32 0)), .i (.s (Value.int IntKind.u32 0)), .i (.s (Value.int IntKind.u32 0)), .i (.s (Value.int IntKind.u32 0)), .i (.s (Value.int IntKind.u32 0)), .i (.s (Value.int IntKind.u32 0)), .i (.s (Value.int IntKind.u32 0)), .i (.s (Value.int IntKind.u32 0)), .i (.s (Value.int IntKind.u32 0)), .i (.s (Value.int IntKind.u32 0)), .i (.s (Value.int IntKind.u32 0)), .i (.s (Value.int IntKind.u32 0)), .i (.s (Value.int IntKind.u32 0)), .i (.s (Value.int IntKind.u32 0)), .i (.s (Value.int IntKind.u32 0)), .i (.s (Value.int IntKind.u32 0)), .i (.s (Value.int IntKind.u32 0)), .i (.s (Value.int IntKind.u32 0)), .i (.s (Value.int IntKind.u32 0)), .i (.s (Value.int IntKind.u32 0)), .i (.s (Value.int IntKind.u32 0)), .i (.s (Value.int IntKind.u32 0)), .i (.s (Value.int IntKind.u32 0)), .i (.s (Value.int IntKind.u32 0)), .i (.s (Value.int IntKind.u32 0)), .i (.s (Value.int IntKind.u32 0)), .i (.s (Value.int IntKind.u32 0)), .i (.s (Value.int IntKind.u32 0)), .i (.s (Value.int IntKind.u32 0)), .i (.s (Value.int IntKind.u32 0)), .i (.s (Value.int IntKind.u32 0)), .i (.s (Value.int IntKind.u32 0)), .i (.s (Value.int IntKind.u32 0)), .i (.s (Value.int IntKind.u32 0)), .i (.s (Value.int IntKind.u32 0)), .i (.s (Value.int IntKind.u32 0)), .i (.s (Value.int IntKind.u32 0)), .i (.s (Value.int IntKind.u32 0)), .i (.s (Value.int IntKind.u32 0))] := by kernel_rfl
theorem zn116 : (zeroOf Go.Proofs.Try.prog 116).map (·.cells.size) = some 64 := by kernel_rfl
theorem sz117 : szOf Go.Proofs.Try.prog 117 = some 1 := by kernel_rfl
theorem ag117 : aggOf Go.Proofs.Try.prog 117 = some false := by kernel_rfl
theorem by117 : bytesOfT Go.Proofs.Try.prog 117 = some 8 := by kernel_rfl
theorem zc117 : zeroCellsD Go.Proofs.Try.prog 117 = some [.i (.s (Value.nilFunc))] := by kernel_rfl
theorem zn117 : (zeroOf Go.Proofs.Try.prog 117).map (·.cells.size) = some 1 := by kernel_rfl
theorem sz118 : szOf Go.Proofs.Try.prog 118 = some 1 := by kernel_rfl
theorem ag118 : aggOf Go.Proofs.Try.prog 118 = some false := by kernel_rfl
theorem by118 : bytesOfT Go.Proofs.Try.prog 118 = some 8 := by kernel_rfl
theorem zc118 : zeroCellsD Go.Proofs.Try.prog 118 = some [.i (.s (Value.nilFunc))] := by kernel_rfl
theorem zn118 : (zeroOf Go.Proofs.Try.prog 118).map (·.cells.size) = some 1 := by kernel_rfl
theorem sz119 : szOf Go.Proofs.Try.prog 119 = some 1 := by kernel_rfl
theorem ag119 : aggOf Go.Proofs.Try.prog 119 = some false := by kernel_rfl
theorem by119 : bytesOfT Go.Proofs.Try.prog 119 = some 8 := by kernel_rfl
theorem zc119 : zeroCellsD Go.Proofs.Try.prog 119 = some [.i (.s (Value.nilFunc))] := by kernel_rfl
theorem zn119 : (zeroOf Go.Proofs.Try.prog 119).map (·.cells.size) = some 1 := by kernel_rfl
theorem sz120 : szOf Go.Proofs.Try.prog 120 = some 1 := by kernel_rfl
theorem ag120 : aggOf Go.Proofs.Try.prog 120 = some false := by kernel_rfl
theorem by120 : bytesOfT Go.Proofs.Try.prog 120 = some 8 := by kernel_rfl
theorem zc120 : zeroCellsD Go.Proofs.Try.prog 120 = some [.i (.s (Value.nilFunc))] := by kernel_rfl
theorem zn120 : (zeroOf Go.Proofs.Try.prog 120).map (·.cells.size) = some 1 := by kernel_rfl
theorem sz121 : szOf Go.Proofs.Try.prog 121 = some 4 := by kernel_rfl
theorem ag121 : aggOf Go.Proofs.Try.prog 121 = some true := by kernel_rfl
theorem by121 : bytesOfT Go.Proofs.Try.prog 121 = some 40 := by kernel_rfl
theorem fl121_0 : fldOf Go.Proofs.Try.prog 121 0 = some (0, 17) := by kernel_rfl
theorem fl121_1 : fldOf Go.Proofs.Try.prog 121 1 = some (1, 17) := by kernel_rfl
theorem fl121_2 : fldOf Go.Proofs.Try.prog 121 2 = some (2, 17) := by kernel_rfl
theorem fl121_3 : fldOf Go.Proofs.Try.prog 121 3 = some (3, 9) := by kernel_rfl
theorem pl121 : placesOf Go.Proofs.Try.prog 121 = some #[(0, 1), (1, 1), (2, 1), (3, 1)] := by kernel_rfl
theorem zc121 : zeroCellsD Go.Proofs.Try.prog 121 = some [.i (.s (Value.pointer none)), .i (.s (Value.pointer none)), .i (.s (Value.pointer none)), .i (.s (Value.string { data := #[] }))] := by kernel_rfl
theorem zn121 : (zeroOf Go.Proofs.Try.prog 121).map (·.cells.size) = some 4 := by kernel_rfl
theorem sz122 : szOf Go.Proofs.Try.prog 122 = some 4 := by kernel_rfl
theorem ag122 : aggOf Go.Proofs.Try.prog 122 = some true := by kernel_rfl
theorem by122 : bytesOfT Go.Proofs.Try.prog 122 = some 40 := by kernel_rfl
theorem fl122_0 : fldOf Go.Proofs.Try.prog 122 0 = some (0, 17) := by kernel_rfl
theorem fl122_1 : fldOf Go.Proofs.Try.prog 122 1 = some (1, 17) := by kernel_rfl
theorem fl122_2 : fldOf Go.Proofs.Try.prog 122 2 = some (2, 17) := by kernel_rfl
theorem fl122_3 : fldOf Go.Proofs.Try.prog 122 3 = some (3, 9) := by kernel_rfl
theorem pl122 : placesOf Go.Proofs.Try.prog 122 = some #[(0, 1), (1, 1), (2, 1), (3, 1)] := by kernel_rfl
theorem zc122 : zeroCellsD Go.Proofs.Try.prog 122 = some [.i (.s (Value.pointer none)), .i (.s (Value.pointer none)), .i (.s (Value.pointer none)), .i (.s (Value.string { data := #[] }))] := by kernel_rfl
theorem zn122 : (zeroOf Go.Proofs.Try.prog 122).map (·.cells.size) = some 4 := by kernel_rfl
theorem sz123 : szOf Go.Proofs.Try.prog 123 = some 0 := by kernel_rfl
theorem ag123 : aggOf Go.Proofs.Try.prog 123 = some true := by kernel_rfl
theorem by123 : bytesOfT Go.Proofs.Try.prog 123 = some 0 := by kernel_rfl
theorem un123 : undOf Go.Proofs.Try.prog 123 = some (TypeDesc.array 0 16) := by kernel_rfl
theorem pl123 : placesOf Go.Proofs.Try.prog 123 = none := by kernel_rfl
theorem zc123 : zeroCellsD Go.Proofs.Try.prog 123 = some [] := by kernel_rfl
theorem zn123 : (zeroOf Go.Proofs.Try.prog 123).map (·.cells.size) = some 0 := by kernel_rfl
theorem sz124 : szOf Go.Proofs.Try.prog 124 = some 0 := by kernel_rfl
theorem ag124 : aggOf Go.Proofs.Try.prog 124 = some true := by kernel_rfl
theorem by124 : bytesOfT Go.Proofs.Try.prog 124 = some 0 := by kernel_rfl
theorem fl124_0 : fldOf Go.Proofs.Try.prog 124 0 = some (0, 123) := by kernel_rfl
theorem pl124 : placesOf Go.Proofs.Try.prog 124 = some #[(0, 0)] := by kernel_rfl
theorem zc124 : zeroCellsD Go.Proofs.Try.prog 124 = some [] := by kernel_rfl
theorem zn124 : (zeroOf Go.Proofs.Try.prog 124).map (·.cells.size) = some 0 := by kernel_rfl
theorem sz125 : szOf Go.Proofs.Try.prog 125 = some 0 := by kernel_rfl
theorem ag125 : aggOf Go.Proofs.Try.prog 125 = some true := by kernel_rfl
theorem by125 : bytesOfT Go.Proofs.Try.prog 125 = some 0 := by kernel_rfl
theorem fl125_0 : fldOf Go.Proofs.Try.prog 125 0 = some (0, 123) := by kernel_rfl
theorem pl125 : placesOf Go.Proofs.Try.prog 125 = some #[(0, 0)] := by kernel_rfl
theorem zc125 : zeroCellsD Go.Proofs.Try.prog 125 = some [] := by kernel_rfl
theorem zn125 : (zeroOf Go.Proofs.Try.prog 125).map (·.cells.size) = some 0 := by kernel_rfl
theorem sz126 : szOf Go.Proofs.Try.prog 126 = some 1 := by kernel_rfl
theorem ag126 : aggOf Go.Proofs.Try.prog 126 = some false := by kernel_rfl
theorem by126 : bytesOfT Go.Proofs.Try.prog 126 = some 8 := by kernel_rfl
theorem zc126 : zeroCellsD Go.Proofs.Try.prog 126 = some [.i (.s (Value.nilFunc))] := by kernel_rfl
theorem zn126 : (zeroOf Go.Proofs.Try.prog 126).map (·.cells.size) = some 1 := by kernel_rfl
theorem sz127 : szOf Go.Proofs.Try.prog 127 = some 1 := by kernel_rfl
theorem ag127 : aggOf Go.Proofs.Try.prog 127 = some false := by kernel_rfl
theorem by127 : bytesOfT Go.Proofs.Try.prog 127 = some 1 := by kernel_rfl
theorem un127 : undOf Go.Proofs.Try.prog 127 = some (TypeDesc.int IntKind.u8) := by kernel_rfl
theorem pl127 : placesOf Go.Proofs.Try.prog 127 = none := by kernel_rfl
theorem zc127 : zeroCellsD Go.Proofs.Try.prog 127 = some [.i (.s (Value.int IntKind.u8 0))] := by kernel_rfl
theorem zn127 : (zeroOf Go.Proofs.Try.prog 127).map (·.cells.size) = some 1 := by kernel_rfl
theorem sz128 : szOf Go.Proofs.Try.prog 128 = some 1 := by kernel_rfl
theorem ag128 : aggOf Go.Proofs.Try.prog 128 = some false := by kernel_rfl
theorem by128 : bytesOfT Go.Proofs.Try.prog 128 = some 1 := by kernel_rfl
theorem un128 : undOf Go.Proofs.Try.prog 128 = some (TypeDesc.int IntKind.u8) := by kernel_rfl
theorem pl128 : placesOf Go.Proofs.Try.prog 128 = none := by kernel_rfl
theorem zc128 : zeroCellsD Go.Proofs.Try.prog 128 = some [.i (.s (Value.int IntKind.u8 0))] := by kernel_rfl
theorem zn128 : (zeroOf Go.Proofs.Try.prog 128).map (·.cells.size) = some 1 := by kernel_rfl
theorem sz129 : szOf Go.Proofs.Try.prog 129 = some 1 := by kernel_rfl
theorem ag129 : aggOf Go.Proofs.Try.prog 129 = some false := by kernel_rfl
theorem by129 : bytesOfT Go.Proofs.Try.prog 129 = some 8 := by kernel_rfl
theorem zc129 : zeroCellsD Go.Proofs.Try.prog 129 = some [.i (.s (Value.nilFunc))] := by kernel_rfl
theorem zn129 : (zeroOf Go.Proofs.Try.prog 129).map (·.cells.size) = some 1 := by kernel_rfl
theorem sz130 : szOf Go.Proofs.Try.prog 130 = some 1 := by kernel_rfl
theorem ag130 : aggOf Go.Proofs.Try.prog 130 = some false := by kernel_rfl
theorem by130 : bytesOfT Go.Proofs.Try.prog 130 = some 8 := by kernel_rfl
theorem un130 : undOf Go.Proofs.Try.prog 130 = some (TypeDesc.pointer 5) := by kernel_rfl
theorem zc130 : zeroCellsD Go.Proofs.Try.prog 130 = some [.i (.s (Value.pointer none))] := by kernel_rfl
theorem zn130 : (zeroOf Go.Proofs.Try.prog 130).map (·.cells.size) = some 1 := by kernel_rfl
theorem sz131 : szOf Go.Proofs.Try.prog 131 = some 1 := by kernel_rfl
theorem ag131 : aggOf Go.Proofs.Try.prog 131 = some false := by kernel_rfl
theorem by131 : bytesOfT Go.Proofs.Try.prog 131 = some 4 := by kernel_rfl
theorem un131 : undOf Go.Proofs.Try.prog 131 = some (TypeDesc.int IntKind.i32) := by kernel_rfl
theorem pl131 : placesOf Go.Proofs.Try.prog 131 = none := by kernel_rfl
theorem zc131 : zeroCellsD Go.Proofs.Try.prog 131 = some [.i (.s (Value.int IntKind.i32 0))] := by kernel_rfl
theorem zn131 : (zeroOf Go.Proofs.Try.prog 131).map (·.cells.size) = some 1 := by kernel_rfl
theorem sz132 : szOf Go.Proofs.Try.prog 132 = some 1 := by kernel_rfl
theorem ag132 : aggOf Go.Proofs.Try.prog 132 = some false := by kernel_rfl
theorem by132 : bytesOfT Go.Proofs.Try.prog 132 = some 4 := by kernel_rfl
theorem un132 : undOf Go.Proofs.Try.prog 132 = some (TypeDesc.int IntKind.i32) := by kernel_rfl
theorem pl132 : placesOf Go.Proofs.Try.prog 132 = none := by kernel_rfl
theorem zc132 : zeroCellsD Go.Proofs.Try.prog 132 = some [.i (.s (Value.int IntKind.i32 0))] := by kernel_rfl
theorem zn132 : (zeroOf Go.Proofs.Try.prog 132).map (·.cells.size) = some 1 := by kernel_rfl
theorem sz133 : szOf Go.Proofs.Try.prog 133 = some 11 := by kernel_rfl
theorem ag133 : aggOf Go.Proofs.Try.prog 133 = some true := by kernel_rfl
theorem by133 : bytesOfT Go.Proofs.Try.prog 133 = some 48 := by kernel_rfl
theorem fl133_0 : fldOf Go.Proofs.Try.prog 133 0 = some (0, 12) := by kernel_rfl
theorem fl133_1 : fldOf Go.Proofs.Try.prog 133 1 = some (1, 12) := by kernel_rfl
theorem fl133_2 : fldOf Go.Proofs.Try.prog 133 2 = some (2, 94) := by kernel_rfl
theorem fl133_3 : fldOf Go.Proofs.Try.prog 133 3 = some (3, 127) := by kernel_rfl
theorem fl133_4 : fldOf Go.Proofs.Try.prog 133 4 = some (4, 5) := by kernel_rfl
theorem fl133_5 : fldOf Go.Proofs.Try.prog 133 5 = some (5, 5) := by kernel_rfl
theorem fl133_6 : fldOf Go.Proofs.Try.prog 133 6 = some (6, 128) := by kernel_rfl
theorem fl133_7 : fldOf Go.Proofs.Try.prog 133 7 = some (7, 129) := by kernel_rfl
theorem fl133_8 : fldOf Go.Proofs.Try.prog 133 8 = some (8, 130) := by kernel_rfl
theorem fl133_9 : fldOf Go.Proofs.Try.prog 133 9 = some (9, 131) := by kernel_rfl
theorem fl133_10 : fldOf Go.Proofs.Try.prog 133 10 = some (10, 132) := by kernel_rfl
theorem pl133 : placesOf Go.Proofs.Try.prog 133 = some #[(0, 1), (1, 1), (2, 1), (3, 1), (4, 1), (5, 1), (6, 1), (7, 1), (8, 1), (9, 1), (10, 1)] := by kernel_rfl
theorem zc133 : zeroCellsD Go.Proofs.Try.prog 133 = some [.i (.s (Value.int IntKind.u64 0)), .i (.s (Value.int IntKind.u64 0)), .i (.s (Value.int IntKind.u32 0)), .i (.s (Value.int IntKind.u8 0)), .i (.s (Value.int IntKind.u8 0)), .i (.s (Value.int IntKind.u8 0)), .i (.s (Value.int IntKind.u8 0)), .i (.s (Value.nilFunc)), .i (.s (Value.pointer none)), .i (.s (Value.int IntKind.i32 0)), .i (.s (Value.int IntKind.i32 0))] := by kernel_rfl
theorem zn133 : (zeroOf Go.Proofs.Try.prog 133).map (·.cells.size) = some 11 := by kernel_rfl
theorem sz134 : szOf Go.Proofs.Try.prog 134 = some 11 := by kernel_rfl
theorem ag134 : aggOf Go.Proofs.Try.prog 134 = some true := by kernel_rfl
theorem by134 : bytesOfT Go.Proofs.Try.prog 134 = some 48 := by kernel_rfl
theorem fl134_0 : fldOf Go.Proofs.Try.prog 134 0 = some (0, 12) := by kernel_rfl
theorem fl134_1 : fldOf Go.Proofs.Try.prog 134 1 = some (1, 12) := by kernel_rfl
theorem fl134_2 : fldOf Go.Proofs.Try.prog 134 2 = some (2, 94) := by kernel_rfl
theorem fl134_3 : fldOf Go.Proofs.Try.prog 134 3 = some (3, 127) := by kernel_rfl
theorem fl134_4 : fldOf Go.Proofs.Try.prog 134 4 = some (4, 5) := by kernel_rfl
theorem fl134_5 : fldOf Go.Proofs.Try.prog 134 5 = some (5, 5) := by kernel_rfl
theorem fl134_6 : fldOf Go.Proofs.Try.prog 134 6 = some (6, 128) := by kernel_rfl
theorem fl134_7 : fldOf Go.Proofs.Try.prog 134 7 = some (7, 129) := by kernel_rfl
theorem fl134_8 : fldOf Go.Proofs.Try.prog 134 8 = some (8, 130) := by kernel_rfl
theorem fl134_9 : fldOf Go.Proofs.Try.prog 134 9 = some (9, 131) := by kernel_rfl
theorem fl134_10 : fldOf Go.Proofs.Try.prog 134 10 = some (10, 132) := by kernel_rfl
theorem pl134 : placesOf Go.Proofs.Try.prog 134 = some #[(0, 1), (1, 1), (2, 1), (3, 1), (4, 1), (5, 1), (6, 1), (7, 1), (8, 1), (9, 1), (10, 1)] := by kernel_rfl
theorem zc134 : zeroCellsD Go.Proofs.Try.prog 134 = some [.i (.s (Value.int IntKind.u64 0)), .i (.s (Value.int IntKind.u64 0)), .i (.s (Value.int IntKind.u32 0)), .i (.s (Value.int IntKind.u8 0)), .i (.s (Value.int IntKind.u8 0)), .i (.s (Value.int IntKind.u8 0)), .i (.s (Value.int IntKind.u8 0)), .i (.s (Value.nilFunc)), .i (.s (Value.pointer none)), .i (.s (Value.int IntKind.i32 0)), .i (.s (Value.int IntKind.i32 0))] := by kernel_rfl
theorem zn134 : (zeroOf Go.Proofs.Try.prog 134).map (·.cells.size) = some 11 := by kernel_rfl
theorem sz135 : szOf Go.Proofs.Try.prog 135 = some 1 := by kernel_rfl
theorem ag135 : aggOf Go.Proofs.Try.prog 135 = some false := by kernel_rfl
theorem by135 : bytesOfT Go.Proofs.Try.prog 135 = some 8 := by kernel_rfl
theorem zc135 : zeroCellsD Go.Proofs.Try.prog 135 = some [.i (.s (Value.pointer none))] := by kernel_rfl
theorem zn135 : (zeroOf Go.Proofs.Try.prog 135).map (·.cells.size) = some 1 := by kernel_rfl
theorem sh2 : TySh Go.Proofs.Try.prog 2 [.int .i64] := .int Go.Proofs.Try.underlying2
theorem sh3 : TySh Go.Proofs.Try.prog 3 [.int .i64] := .int Go.Proofs.Try.underlying3
theorem sh4 : TySh Go.Proofs.Try.prog 4 [.bool] := .bool Go.Proofs.Try.underlying4
theorem sh5 : TySh Go.Proofs.Try.prog 5 [.int .u8] := .int Go.Proofs.Try.underlying5
theorem sh6 : TySh Go.Proofs.Try.prog 6 [.int .u8] := .int Go.Proofs.Try.underlying6
theorem sh7 : TySh Go.Proofs.Try.prog 7 [.int .i64, .int .i64, .bool, .int .u8] := struct_of [[.int .i64], [.int .i64], [.bool], [.int .u8]] _ Go.Proofs.Try.underlying7 rfl (by kernel_rfl) (And.intro sh2 (And.intro (by kernel_rfl) (And.intro rfl (And.intro sh3 (And.intro (by kernel_rfl) (And.intro rfl (And.intro sh4 (And.intro (by kernel_rfl) (And.intro rfl (And.intro sh6 (And.intro (by kernel_rfl) (And.intro rfl (trivial)))))))))))))
theorem sh8 : TySh Go.Proofs.Try.prog 8 [.int .i64, .int .i64, .bool, .int .u8] := struct_of [[.int .i64], [.int .i64], [.bool], [.int .u8]] _ Go.Proofs.Try.underlying8 rfl (by kernel_rfl) (And.intro sh2 (And.intro (by kernel_rfl) (And.intro rfl (And.intro sh3 (And.intro (by kernel_rfl) (And.intro rfl (And.intro sh4 (And.intro (by kernel_rfl) (And.intro rfl (And.intro sh6 (And.intro (by kernel_rfl) (And.intro rfl (trivial)))))))))))))
theorem sh9 : TySh Go.Proofs.Try.prog 9 [.str] := .str Go.Proofs.Try.underlying9
theorem sh10 : TySh Go.Proofs.Try.prog 10 [.str] := .str Go.Proofs.Try.underlying10
theorem sh11 : TySh Go.Proofs.Try.prog 11 [.str] := .str Go.Proofs.Try.underlying11
theorem sh12 : TySh Go.Proofs.Try.prog 12 [.int .u64] := .int Go.Proofs.Try.underlying12
theorem sh13 : TySh Go.Proofs.Try.prog 13 [.str, .int .u64] := struct_of [[.str], [.int .u64]] _ Go.Proofs.Try.underlying13 rfl (by kernel_rfl) (And.intro sh9 (And.intro (by kernel_rfl) (And.intro rfl (And.intro sh12 (And.intro (by kernel_rfl) (And.intro rfl (trivial)))))))
theorem sh14 : TySh Go.Proofs.Try.prog 14 [.str, .int .u64] := struct_of [[.str], [.int .u64]] _ Go.Proofs.Try.underlying14 rfl (by kernel_rfl) (And.intro sh9 (And.intro (by kernel_rfl) (And.intro rfl (And.intro sh12 (And.intro (by kernel_rfl) (And.intro rfl (trivial)))))))
theorem sh21 : TySh Go.Proofs.Try.prog 21 [.int .i32] := .int Go.Proofs.Try.underlying21
theorem sh23 : TySh Go.Proofs.Try.prog 23 [.sl [.int .u8]] := .sl Go.Proofs.Try.underlying23 sh5 (by kernel_rfl) (by decide)
theorem sh52 : TySh Go.Proofs.Try.prog 52 [.sl [.int .u8], .sl [.int .u8]] := struct_of [[.sl [.int .u8]], [.sl [.int .u8]]] _ Go.Proofs.Try.underlying52 rfl (by kernel_rfl) (And.intro sh23 (And.intro (by kernel_rfl) (And.intro rfl (And.intro sh23 (And.intro (by kernel_rfl) (And.intro rfl (trivial)))))))
theorem sh22 : TySh Go.Proofs.Try.prog 22 [.sl [.sl [.int .u8], .sl [.int .u8]]] := .sl Go.Proofs.Try.underlying22 sh52 (by kernel_rfl) (by decide)
theorem sh25 : TySh Go.Proofs.Try.prog 25 [.sl [.sl [.int .u8]]] := .sl Go.Proofs.Try.underlying25 sh23 (by kernel_rfl) (by decide)
theorem sh26 : TySh Go.Proofs.Try.prog 26 [.int .i64, .int .i64, .sl [.int .u8], .sl [.int .u8], .sl [.sl [.int .u8]]] := struct_of [[.int .i64], [.int .i64], [.sl [.int .u8]], [.sl [.int .u8]], [.sl [.sl [.int .u8]]]] _ Go.Proofs.Try.underlying26 rfl (by kernel_rfl) (And.intro sh3 (And.intro (by kernel_rfl) (And.intro rfl (And.intro sh3 (And.intro (by kernel_rfl) (And.intro rfl (And.intro sh23 (And.intro (by kernel_rfl) (And.intro rfl (And.intro sh23 (And.intro (by kernel_rfl) (And.intro rfl (And.intro sh25 (And.intro (by kernel_rfl) (And.intro rfl (trivial))))))))))))))))
theorem sh27 : TySh Go.Proofs.Try.prog 27 [.int .i64, .int .i64, .sl [.int .u8], .sl [.int .u8], .sl [.sl [.int .u8]]] := struct_of [[.int .i64], [.int .i64], [.sl [.int .u8]], [.sl [.int .u8]], [.sl [.sl [.int .u8]]]] _ Go.Proofs.Try.underlying27 rfl (by kernel_rfl) (And.intro sh3 (And.intro (by kernel_rfl) (And.intro rfl (And.intro sh3 (And.intro (by kernel_rfl) (And.intro rfl (And.intro sh23 (And.intro (by kernel_rfl) (And.intro rfl (And.intro sh23 (And.intro (by kernel_rfl) (And.intro rfl (And.intro sh25 (And.intro (by kernel_rfl) (And.intro rfl (trivial))))))))))))))))
theorem sh28 : TySh Go.Proofs.Try.prog 28 [.int .i64] := .int Go.Proofs.Try.underlying28
theorem sh32 : TySh Go.Proofs.Try.prog 32 [.int .i64, .int .i64] := struct_of [[.int .i64], [.int .i64]] _ Go.Proofs.Try.underlying32 rfl (by kernel_rfl) (And.intro sh28 (And.intro (by kernel_rfl) (And.intro rfl (And.intro sh3 (And.intro (by kernel_rfl) (And.intro rfl (trivial)))))))
theorem sh33 : TySh Go.Proofs.Try.prog 33 [.int .i64, .int .i64] := struct_of [[.int .i64], [.int .i64]] _ Go.Proofs.Try.underlying33 rfl (by kernel_rfl) (And.intro sh28 (And.intro (by kernel_rfl) (And.intro rfl (And.intro sh3 (And.intro (by kernel_rfl) (And.intro rfl (trivial)))))))
theorem sh38 : TySh Go.Proofs.Try.prog 38 [.bool, .bool, .int .i64, .int .i64, .sl [.int .u8], .sl [.int .u8], .sl [.sl [.int .u8]], .int .i64, .int .i64, .sl [.int .u8], .sl [.int .u8], .sl [.sl [.int .u8]]] := struct_of [[.bool], [.bool], [.int .i64, .int .i64, .sl [.int .u8], .sl [.int .u8], .sl [.sl [.int .u8]]], [.int .i64, .int .i64, .sl [.int .u8], .sl [.int .u8], .sl [.sl [.int .u8]]]] _ Go.Proofs.Try.underlying38 rfl (by kernel_rfl) (And.intro sh4 (And.intro (by kernel_rfl) (And.intro rfl (And.intro sh4 (And.intro (by kernel_rfl) (And.intro rfl (And.intro sh27 (And.intro (by kernel_rfl) (And.intro rfl (And.intro sh27 (And.intro (by kernel_rfl) (And.intro rfl (trivial)))))))))))))
theorem sh39 : TySh Go.Proofs.Try.prog 39 [.bool, .bool, .int .i64, .int .i64, .sl [.int .u8], .sl [.int .u8], .sl [.sl [.int .u8]], .int .i64, .int .i64, .sl [.int .u8], .sl [.int .u8], .sl [.sl [.int .u8]]] := struct_of [[.bool], [.bool], [.int .i64, .int .i64, .sl [.int .u8], .sl [.int .u8], .sl [.sl [.int .u8]]], [.int .i64, .int .i64, .sl [.int .u8], .sl [.int .u8], .sl [.sl [.int .u8]]]] _ Go.Proofs.Try.underlying39 rfl (by kernel_rfl) (And.intro sh4 (And.intro (by kernel_rfl) (And.intro rfl (And.intro sh4 (And.intro (by kernel_rfl) (And.intro rfl (And.intro sh27 (And.intro (by kernel_rfl) (And.intro rfl (And.intro sh27 (And.intro (by kernel_rfl) (And.intro rfl (trivial)))))))))))))
theorem sh51 : TySh Go.Proofs.Try.prog 51 [.sl [.int .u8], .sl [.int .u8]] := struct_of [[.sl [.int .u8]], [.sl [.int .u8]]] _ Go.Proofs.Try.underlying51 rfl (by kernel_rfl) (And.intro sh23 (And.intro (by kernel_rfl) (And.intro rfl (And.intro sh23 (And.intro (by kernel_rfl) (And.intro rfl (trivial)))))))
theorem sh57 : TySh Go.Proofs.Try.prog 57 [.sl [.int .u8], .sl [.int .u8], .bool] := struct_of [[.sl [.int .u8]], [.sl [.int .u8]], [.bool]] _ Go.Proofs.Try.underlying57 rfl (by kernel_rfl) (And.intro sh23 (And.intro (by kernel_rfl) (And.intro rfl (And.intro sh23 (And.intro (by kernel_rfl) (And.intro rfl (And.intro sh4 (And.intro (by kernel_rfl) (And.intro rfl (trivial))))))))))
theorem sh55 : TySh Go.Proofs.Try.prog 55 [.sl [.sl [.int .u8], .sl [.int .u8], .bool]] := .sl Go.Proofs.Try.underlying55 sh57 (by kernel_rfl) (by decide)
theorem sh56 : TySh Go.Proofs.Try.prog 56 [.sl [.int .u8], .sl [.int .u8], .bool] := struct_of [[.sl [.int .u8]], [.sl [.int .u8]], [.bool]] _ Go.Proofs.Try.underlying56 rfl (by kernel_rfl) (And.intro sh23 (And.intro (by kernel_rfl) (And.intro rfl (And.intro sh23 (And.intro (by kernel_rfl) (And.intro rfl (And.intro sh4 (And.intro (by kernel_rfl) (And.intro rfl (trivial))))))))))
theorem sh68 : TySh Go.Proofs.Try.prog 68 [.sl [.int .i64, .int .i64, .sl [.int .u8], .sl [.int .u8], .sl [.sl [.int .u8]]]] := .sl Go.Proofs.Try.underlying68 sh27 (by kernel_rfl) (by decide)
theorem sh83 : TySh Go.Proofs.Try.prog 83 [.bool, .int .i64, .int .i64] := struct_of [[.bool], [.int .i64], [.int .i64]] _ Go.Proofs.Try.underlying83 rfl (by kernel_rfl) (And.intro sh4 (And.intro (by kernel_rfl) (And.intro rfl (And.intro sh3 (And.intro (by kernel_rfl) (And.intro rfl (And.intro sh3 (And.intro (by kernel_rfl) (And.intro rfl (trivial))))))))))
theorem sh80 : TySh Go.Proofs.Try.prog 80 [.sl [.bool, .int .i64, .int .i64]] := .sl Go.Proofs.Try.underlying80 sh83 (by kernel_rfl) (by decide)
theorem sh82 : TySh Go.Proofs.Try.prog 82 [.bool, .int .i64, .int .i64] := struct_of [[.bool], [.int .i64], [.int .i64]] _ Go.Proofs.Try.underlying82 rfl (by kernel_rfl) (And.intro sh4 (And.intro (by kernel_rfl) (And.intro rfl (And.intro sh3 (And.intro (by kernel_rfl) (And.intro rfl (And.intro sh3 (And.intro (by kernel_rfl) (And.intro rfl (trivial))))))))))
theorem sh93 : TySh Go.Proofs.Try.prog 93 [.int .u64] := .int Go.Proofs.Try.underlying93
theorem sh90 : TySh Go.Proofs.Try.prog 90 [.sl [.int .u64]] := .sl Go.Proofs.Try.underlying90 sh93 (by kernel_rfl) (by decide)
theorem sh94 : TySh Go.Proofs.Try.prog 94 [.int .u32] := .int Go.Proofs.Try.underlying94
theorem sh92 : TySh Go.Proofs.Try.prog 92 [.sl [.int .u32]] := .sl Go.Proofs.Try.underlying92 sh94 (by kernel_rfl) (by decide)
theorem sh97 : TySh Go.Proofs.Try.prog 97 [.int .u64] := .int Go.Proofs.Try.underlying97
theorem sh127 : TySh Go.Proofs.Try.prog 127 [.int .u8] := .int Go.Proofs.Try.underlying127
theorem sh128 : TySh Go.Proofs.Try.prog 128 [.int .u8] := .int Go.Proofs.Try.underlying128
theorem sh131 : TySh Go.Proofs.Try.prog 131 [.int .i32] := .int Go.Proofs.Try.underlying131
theorem sh132 : TySh Go.Proofs.Try.prog 132 [.int .i32] := .int Go.Proofs.Try.underlying132
theorem us32 : undOf Go.Proofs.Try.prog 32 = some (TypeDesc.struct #[{ name := "Err", type := 28, offset := 0, embedded := false, tag := "", pkgPath := "", byteOffset := 0 }, { name := "At", type := 3, offset := 1, embedded := false, tag := "", pkgPath := "", byteOffset := 8 }]) := by kernel_rfl
theorem us33 : undOf Go.Proofs.Try.prog 33 = some (TypeDesc.struct #[{ name := "Err", type := 28, offset := 0, embedded := false, tag := "", pkgPath := "", byteOffset := 0 }, { name := "At", type := 3, offset := 1, embedded := false, tag := "", pkgPath := "", byteOffset := 8 }]) := by kernel_rfl
theorem us82 : undOf Go.Proofs.Try.prog 82 = some (TypeDesc.struct #[{ name := "Right", type := 4, offset := 0, embedded := false, tag := "", pkgPath := "", byteOffset := 0 }, { name := "From", type := 3, offset := 1, embedded := false, tag := "", pkgPath := "", byteOffset := 8 }, { name := "N", type := 3, offset := 2, embedded := false, tag := "", pkgPath := "", byteOffset := 16 }]) := by kernel_rfl
theorem us83 : undOf Go.Proofs.Try.prog 83 = some (TypeDesc.struct #[{ name := "Right", type := 4, offset := 0, embedded := false, tag := "", pkgPath := "", byteOffset := 0 }, { name := "From", type := 3, offset := 1, embedded := false, tag := "", pkgPath := "", byteOffset := 8 }, { name := "N", type := 3, offset := 2, embedded := false, tag := "", pkgPath := "", byteOffset := 16 }]) := by kernel_rfl
theorem eg32 : Program.eqGuardType Go.Proofs.Try.prog (Program.depth Go.Proofs.Try.prog) 32 = false := by kernel_rfl
theorem eqs32 {a0 : Int} {a1 : Int} {b0 : Int} {b1 : Int} : eqOf Go.Proofs.Try.prog 32 (.agg #[.int .i64 a0, .int .i64 a1]) (.agg #[.int .i64 b0, .int .i64 b1]) = some (decide (a0 = b0) && (decide (a1 = b1) && true)) := (pv_equal_struct us32 (by kernel_rfl)).trans (pv_fields_cons (a := (.int .i64 a0)) (b := (.int .i64 b0)) (by decide) (by kernel_rfl) (by kernel_rfl) (pv_eq_int un28) (pv_fields_cons (a := (.int .i64 a1)) (b := (.int .i64 b1)) (by decide) (by kernel_rfl) (by kernel_rfl) (pv_eq_int un3) (pv_fields_nil)))
theorem eg33 : Program.eqGuardType Go.Proofs.Try.prog (Program.depth Go.Proofs.Try.prog) 33 = false := by kernel_rfl
theorem eqs33 {a0 : Int} {a1 : Int} {b0 : Int} {b1 : Int} : eqOf Go.Proofs.Try.prog 33 (.agg #[.int .i64 a0, .int .i64 a1]) (.agg #[.int .i64 b0, .int .i64 b1]) = some (decide (a0 = b0) && (decide (a1 = b1) && true)) := (pv_equal_struct us33 (by kernel_rfl)).trans (pv_fields_cons (a := (.int .i64 a0)) (b := (.int .i64 b0)) (by decide) (by kernel_rfl) (by kernel_rfl) (pv_eq_int un28) (pv_fields_cons (a := (.int .i64 a1)) (b := (.int .i64 b1)) (by decide) (by kernel_rfl) (by kernel_rfl) (pv_eq_int un3) (pv_fields_nil)))
theorem eg82 : Program.eqGuardType Go.Proofs.Try.prog (Program.depth Go.Proofs.Try.prog) 82 = false := by kernel_rfl
theorem eqs82 {a0 : Bool} {a1 : Int} {a2 : Int} {b0 : Bool} {b1 : Int} {b2 : Int} : eqOf Go.Proofs.Try.prog 82 (.agg #[.bool a0, .int .i64 a1, .int .i64 a2]) (.agg #[.bool b0, .int .i64 b1, .int .i64 b2]) = some ((a0 == b0) && (decide (a1 = b1) && (decide (a2 = b2) && true))) := (pv_equal_struct us82 (by kernel_rfl)).trans (pv_fields_cons (a := (.bool a0)) (b := (.bool b0)) (by decide) (by kernel_rfl) (by kernel_rfl) (pv_eq_bool un4) (pv_fields_cons (a := (.int .i64 a1)) (b := (.int .i64 b1)) (by decide) (by kernel_rfl) (by kernel_rfl) (pv_eq_int un3) (pv_fields_cons (a := (.int .i64 a2)) (b := (.int .i64 b2)) (by decide) (by kernel_rfl) (by kernel_rfl) (pv_eq_int un3) (pv_fields_nil))))
theorem eg83 : Program.eqGuardType Go.Proofs.Try.prog (Program.depth Go.Proofs.Try.prog) 83 = false := by kernel_rfl
theorem eqs83 {a0 : Bool} {a1 : Int} {a2 : Int} {b0 : Bool} {b1 : Int} {b2 : Int} : eqOf Go.Proofs.Try.prog 83 (.agg #[.bool a0, .int .i64 a1, .int .i64 a2]) (.agg #[.bool b0, .int .i64 b1, .int .i64 b2]) = some ((a0 == b0) && (decide (a1 = b1) && (decide (a2 = b2) && true))) := (pv_equal_struct us83 (by kernel_rfl)).trans (pv_fields_cons (a := (.bool a0)) (b := (.bool b0)) (by decide) (by kernel_rfl) (by kernel_rfl) (pv_eq_bool un4) (pv_fields_cons (a := (.int .i64 a1)) (b := (.int .i64 b1)) (by decide) (by kernel_rfl) (by kernel_rfl) (pv_eq_int un3) (pv_fields_cons (a := (.int .i64 a2)) (b := (.int .i64 b2)) (by decide) (by kernel_rfl) (by kernel_rfl) (pv_eq_int un3) (pv_fields_nil))))
theorem T0 : (type_of% @sz0) ∧ (type_of% @ag0) ∧ (type_of% @by0) := ⟨@sz0, @ag0, @by0⟩
theorem T1 : (type_of% @sz1) ∧ (type_of% @ag1) ∧ (type_of% @by1) ∧ (type_of% @zc1) ∧ (type_of% @zn1) := ⟨@sz1, @ag1, @by1, @zc1, @zn1⟩
theorem T2 : (type_of% @sz2) ∧ (type_of% @ag2) ∧ (type_of% @by2) ∧ (type_of% @un2) ∧ (type_of% @pl2) ∧ (type_of% @zc2) ∧ (type_of% @zn2) := ⟨@sz2, @ag2, @by2, @un2, @pl2, @zc2, @zn2⟩
theorem T3 : (type_of% @sz3) ∧ (type_of% @ag3) ∧ (type_of% @by3) ∧ (type_of% @un3) ∧ (type_of% @pl3) ∧ (type_of% @zc3) ∧ (type_of% @zn3) := ⟨@sz3, @ag3, @by3, @un3, @pl3, @zc3, @zn3⟩
theorem T4 : (type_of% @sz4) ∧ (type_of% @ag4) ∧ (type_of% @by4) ∧ (type_of% @un4) ∧ (type_of% @pl4) ∧ (type_of% @zc4) ∧ (type_of% @zn4) := ⟨@sz4, @ag4, @by4, @un4, @pl4, @zc4, @zn4⟩
theorem T5 : (type_of% @sz5) ∧ (type_of% @ag5) ∧ (type_of% @by5) ∧ (type_of% @un5) ∧ (type_of% @pl5) ∧ (type_of% @zc5) ∧ (type_of% @zn5) := ⟨@sz5, @ag5, @by5, @un5, @pl5, @zc5, @zn5⟩
theorem T6 : (type_of% @sz6) ∧ (type_of% @ag6) ∧ (type_of% @by6) ∧ (type_of% @un6) ∧ (type_of% @pl6) ∧ (type_of% @zc6) ∧ (type_of% @zn6) := ⟨@sz6, @ag6, @by6, @un6, @pl6, @zc6, @zn6⟩
theorem T7 : (type_of% @sz7) ∧ (type_of% @ag7) ∧ (type_of% @by7) ∧ (type_of% @fl7_0) ∧ (type_of% @fl7_1) ∧ (type_of% @fl7_2) ∧ (type_of% @fl7_3) ∧ (type_of% @pl7) ∧ (type_of% @zc7) ∧ (type_of% @zn7) := ⟨@sz7, @ag7, @by7, @fl7_0, @fl7_1, @fl7_2, @fl7_3, @pl7, @zc7, @zn7⟩
theorem T8 : (type_of% @sz8) ∧ (type_of% @ag8) ∧ (type_of% @by8) ∧ (type_of% @fl8_0) ∧ (type_of% @fl8_1) ∧ (type_of% @fl8_2) ∧ (type_of% @fl8_3) ∧ (type_of% @pl8) ∧ (type_of% @zc8) ∧ (type_of% @zn8) := ⟨@sz8, @ag8, @by8, @fl8_0, @fl8_1, @fl8_2, @fl8_3, @pl8, @zc8, @zn8⟩
theorem T9 : (type_of% @sz9) ∧ (type_of% @ag9) ∧ (type_of% @by9) ∧ (type_of% @un9) ∧ (type_of% @pl9) ∧ (type_of% @zc9) ∧ (type_of% @zn9) := ⟨@sz9, @ag9, @by9, @un9, @pl9, @zc9, @zn9⟩
theorem T10 : (type_of% @sz10) ∧ (type_of% @ag10) ∧ (type_of% @by10) ∧ (type_of% @un10) ∧ (type_of% @pl10) ∧ (type_of% @zc10) ∧ (type_of% @zn10) := ⟨@sz10, @ag10, @by10, @un10, @pl10, @zc10, @zn10⟩
theorem T11 : (type_of% @sz11) ∧ (type_of% @ag11) ∧ (type_of% @by11) ∧ (type_of% @un11) ∧ (type_of% @pl11) ∧ (type_of% @zc11) ∧ (type_of% @zn11) := ⟨@sz11, @ag11, @by11, @un11, @pl11, @zc11, @zn11⟩
theorem T12 : (type_of% @sz12) ∧ (type_of% @ag12) ∧ (type_of% @by12) ∧ (type_of% @un12) ∧ (type_of% @pl12) ∧ (type_of% @zc12) ∧ (type_of% @zn12) := ⟨@sz12, @ag12, @by12, @un12, @pl12, @zc12, @zn12⟩
theorem T13 : (type_of% @sz13) ∧ (type_of% @ag13) ∧ (type_of% @by13) ∧ (type_of% @fl13_0) ∧ (type_of% @fl13_1) ∧ (type_of% @pl13) ∧ (type_of% @zc13) ∧ (type_of% @zn13) := ⟨@sz13, @ag13, @by13, @fl13_0, @fl13_1, @pl13, @zc13, @zn13⟩
theorem T14 : (type_of% @sz14) ∧ (type_of% @ag14) ∧ (type_of% @by14) ∧ (type_of% @fl14_0) ∧ (type_of% @fl14_1) ∧ (type_of% @pl14) ∧ (type_of% @zc14) ∧ (type_of% @zn14) := ⟨@sz14, @ag14, @by14, @fl14_0, @fl14_1, @pl14, @zc14, @zn14⟩
theorem T15 : (type_of% @sz15) ∧ (type_of% @ag15) ∧ (type_of% @by15) ∧ (type_of% @un15) ∧ (type_of% @zc15) ∧ (type_of% @zn15) := ⟨@sz15, @ag15, @by15, @un15, @zc15, @zn15⟩
theorem T16 : (type_of% @sz16) ∧ (type_of% @ag16) ∧ (type_of% @by16) ∧ (type_of% @un16) ∧ (type_of% @zc16) ∧ (type_of% @zn16) := ⟨@sz16, @ag16, @by16, @un16, @zc16, @zn16⟩
theorem T17 : (type_of% @sz17) ∧ (type_of% @ag17) ∧ (type_of% @by17) ∧ (type_of% @un17) ∧ (type_of% @zc17) ∧ (type_of% @zn17) := ⟨@sz17, @ag17, @by17, @un17, @zc17, @zn17⟩
theorem T18 : (type_of% @sz18) ∧ (type_of% @ag18) ∧ (type_of% @by18) ∧ (type_of% @fl18_0) ∧ (type_of% @pl18) ∧ (type_of% @zc18) ∧ (type_of% @zn18) := ⟨@sz18, @ag18, @by18, @fl18_0, @pl18, @zc18, @zn18⟩
theorem T19 : (type_of% @sz19) ∧ (type_of% @ag19) ∧ (type_of% @by19) ∧ (type_of% @fl19_0) ∧ (type_of% @pl19) ∧ (type_of% @zc19) ∧ (type_of% @zn19) := ⟨@sz19, @ag19, @by19, @fl19_0, @pl19, @zc19, @zn19⟩
theorem T20 : (type_of% @sz20) ∧ (type_of% @ag20) ∧ (type_of% @by20) ∧ (type_of% @zc20) ∧ (type_of% @zn20) := ⟨@sz20, @ag20, @by20, @zc20, @zn20⟩
theorem T21 : (type_of% @sz21) ∧ (type_of% @ag21) ∧ (type_of% @by21) ∧ (type_of% @un21) ∧ (type_of% @pl21) ∧ (type_of% @zc21) ∧ (type_of% @zn21) := ⟨@sz21, @ag21, @by21, @un21, @pl21, @zc21, @zn21⟩
theorem T22 : (type_of% @sz22) ∧ (type_of% @ag22) ∧ (type_of% @by22) ∧ (type_of% @un22) ∧ (type_of% @pl22) ∧ (type_of% @zc22) ∧ (type_of% @zn22) := ⟨@sz22, @ag22, @by22, @un22, @pl22, @zc22, @zn22⟩
theorem T23 : (type_of% @sz23) ∧ (type_of% @ag23) ∧ (type_of% @by23) ∧ (type_of% @un23) ∧ (type_of% @pl23) ∧ (type_of% @zc23) ∧ (type_of% @zn23) := ⟨@sz23, @ag23, @by23, @un23, @pl23, @zc23, @zn23⟩
theorem T24 : (type_of% @sz24) ∧ (type_of% @ag24) ∧ (type_of% @by24) ∧ (type_of% @zc24) ∧ (type_of% @zn24) := ⟨@sz24, @ag24, @by24, @zc24, @zn24⟩
theorem T25 : (type_of% @sz25) ∧ (type_of% @ag25) ∧ (type_of% @by25) ∧ (type_of% @un25) ∧ (type_of% @pl25) ∧ (type_of% @zc25) ∧ (type_of% @zn25) := ⟨@sz25, @ag25, @by25, @un25, @pl25, @zc25, @zn25⟩
theorem T26 : (type_of% @sz26) ∧ (type_of% @ag26) ∧ (type_of% @by26) ∧ (type_of% @fl26_0) ∧ (type_of% @fl26_1) ∧ (type_of% @fl26_2) ∧ (type_of% @fl26_3) ∧ (type_of% @fl26_4) ∧ (type_of% @pl26) ∧ (type_of% @zc26) ∧ (type_of% @zn26) := ⟨@sz26, @ag26, @by26, @fl26_0, @fl26_1, @fl26_2, @fl26_3, @fl26_4, @pl26, @zc26, @zn26⟩
theorem T27 : (type_of% @sz27) ∧ (type_of% @ag27) ∧ (type_of% @by27) ∧ (type_of% @fl27_0) ∧ (type_of% @fl27_1) ∧ (type_of% @fl27_2) ∧ (type_of% @fl27_3) ∧ (type_of% @fl27_4) ∧ (type_of% @pl27) ∧ (type_of% @zc27) ∧ (type_of% @zn27) := ⟨@sz27, @ag27, @by27, @fl27_0, @fl27_1, @fl27_2, @fl27_3, @fl27_4, @pl27, @zc27, @zn27⟩
theorem T28 : (type_of% @sz28) ∧ (type_of% @ag28) ∧ (type_of% @by28) ∧ (type_of% @un28) ∧ (type_of% @pl28) ∧ (type_of% @zc28) ∧ (type_of% @zn28) := ⟨@sz28, @ag28, @by28, @un28, @pl28, @zc28, @zn28⟩
theorem T29 : (type_of% @sz29) ∧ (type_of% @ag29) ∧ (type_of% @by29) := ⟨@sz29, @ag29, @by29⟩
theorem T30 : (type_of% @sz30) ∧ (type_of% @ag30) ∧ (type_of% @by30) ∧ (type_of% @zc30) ∧ (type_of% @zn30) := ⟨@sz30, @ag30, @by30, @zc30, @zn30⟩
theorem T31 : (type_of% @sz31) ∧ (type_of% @ag31) ∧ (type_of% @by31) ∧ (type_of% @zc31) ∧ (type_of% @zn31) := ⟨@sz31, @ag31, @by31, @zc31, @zn31⟩
theorem T32 : (type_of% @sz32) ∧ (type_of% @ag32) ∧ (type_of% @by32) ∧ (type_of% @fl32_0) ∧ (type_of% @fl32_1) ∧ (type_of% @pl32) ∧ (type_of% @zc32) ∧ (type_of% @zn32) ∧ (type_of% @eg32) ∧ (type_of% @eqs32) := ⟨@sz32, @ag32, @by32, @fl32_0, @fl32_1, @pl32, @zc32, @zn32, @eg32, @eqs32⟩
theorem T33 : (type_of% @sz33) ∧ (type_of% @ag33) ∧ (type_of% @by33) ∧ (type_of% @fl33_0) ∧ (type_of% @fl33_1) ∧ (type_of% @pl33) ∧ (type_of% @zc33) ∧ (type_of% @zn33) ∧ (type_of% @eg33) ∧ (type_of% @eqs33) := ⟨@sz33, @ag33, @by33, @fl33_0, @fl33_1, @pl33, @zc33, @zn33, @eg33, @eqs33⟩
theorem T34 : (type_of% @sz34) ∧ (type_of% @ag34) ∧ (type_of% @by34) := ⟨@sz34, @ag34, @by34⟩
theorem T35 : (type_of% @sz35) ∧ (type_of% @ag35) ∧ (type_of% @by35) ∧ (type_of% @zc35) ∧ (type_of% @zn35) := ⟨@sz35, @ag35, @by35, @zc35, @zn35⟩
theorem T36 : (type_of% @sz36) ∧ (type_of% @ag36) ∧ (type_of% @by36) := ⟨@sz36, @ag36, @by36⟩
theorem T37 : (type_of% @sz37) ∧ (type_of% @ag37) ∧ (type_of% @by37) ∧ (type_of% @zc37) ∧ (type_of% @zn37) := ⟨@sz37, @ag37, @by37, @zc37, @zn37⟩
theorem T38 : (type_of% @sz38) ∧ (type_of% @ag38) ∧ (type_of% @by38) ∧ (type_of% @fl38_0) ∧ (type_of% @fl38_1) ∧ (type_of% @fl38_2) ∧ (type_of% @fl38_3) ∧ (type_of% @pl38) ∧ (type_of% @zc38) ∧ (type_of% @zn38) := ⟨@sz38, @ag38, @by38, @fl38_0, @fl38_1, @fl38_2, @fl38_3, @pl38, @zc38, @zn38⟩
theorem T39 : (type_of% @sz39) ∧ (type_of% @ag39) ∧ (type_of% @by39) ∧ (type_of% @fl39_0) ∧ (type_of% @fl39_1) ∧ (type_of% @fl39_2) ∧ (type_of% @fl39_3) ∧ (type_of% @pl39) ∧ (type_of% @zc39) ∧ (type_of% @zn39) := ⟨@sz39, @ag39, @by39, @fl39_0, @fl39_1, @fl39_2, @fl39_3, @pl39, @zc39, @zn39⟩
theorem T40 : (type_of% @sz40) ∧ (type_of% @ag40) ∧ (type_of% @by40) := ⟨@sz40, @ag40, @by40⟩
theorem T41 : (type_of% @sz41) ∧ (type_of% @ag41) ∧ (type_of% @by41) ∧ (type_of% @zc41) ∧ (type_of% @zn41) := ⟨@sz41, @ag41, @by41, @zc41, @zn41⟩
theorem T42 : (type_of% @sz42) ∧ (type_of% @ag42) ∧ (type_of% @by42) ∧ (type_of% @zc42) ∧ (type_of% @zn42) := ⟨@sz42, @ag42, @by42, @zc42, @zn42⟩
theorem T43 : (type_of% @sz43) ∧ (type_of% @ag43) ∧ (type_of% @by43) ∧ (type_of% @zc43) ∧ (type_of% @zn43) := ⟨@sz43, @ag43, @by43, @zc43, @zn43⟩
theorem T44 : (type_of% @sz44) ∧ (type_of% @ag44) ∧ (type_of% @by44) ∧ (type_of% @zc44) ∧ (type_of% @zn44) := ⟨@sz44, @ag44, @by44, @zc44, @zn44⟩
theorem T45 : (type_of% @sz45) ∧ (type_of% @ag45) ∧ (type_of% @by45) ∧ (type_of% @zc45) ∧ (type_of% @zn45) := ⟨@sz45, @ag45, @by45, @zc45, @zn45⟩
theorem T46 : (type_of% @sz46) ∧ (type_of% @ag46) ∧ (type_of% @by46) ∧ (type_of% @zc46) ∧ (type_of% @zn46) := ⟨@sz46, @ag46, @by46, @zc46, @zn46⟩
theorem T47 : (type_of% @sz47) ∧ (type_of% @ag47) ∧ (type_of% @by47) ∧ (type_of% @zc47) ∧ (type_of% @zn47) := ⟨@sz47, @ag47, @by47, @zc47, @zn47⟩
theorem T48 : (type_of% @sz48) ∧ (type_of% @ag48) ∧ (type_of% @by48) := ⟨@sz48, @ag48, @by48⟩
theorem T49 : (type_of% @sz49) ∧ (type_of% @ag49) ∧ (type_of% @by49) ∧ (type_of% @zc49) ∧ (type_of% @zn49) := ⟨@sz49, @ag49, @by49, @zc49, @zn49⟩
theorem T50 : (type_of% @sz50) ∧ (type_of% @ag50) ∧ (type_of% @by50) ∧ (type_of% @zc50) ∧ (type_of% @zn50) := ⟨@sz50, @ag50, @by50, @zc50, @zn50⟩
theorem T51 : (type_of% @sz51) ∧ (type_of% @ag51) ∧ (type_of% @by51) ∧ (type_of% @fl51_0) ∧ (type_of% @fl51_1) ∧ (type_of% @pl51) ∧ (type_of% @zc51) ∧ (type_of% @zn51) := ⟨@sz51, @ag51, @by51, @fl51_0, @fl51_1, @pl51, @zc51, @zn51⟩
theorem T52 : (type_of% @sz52) ∧ (type_of% @ag52) ∧ (type_of% @by52) ∧ (type_of% @fl52_0) ∧ (type_of% @fl52_1) ∧ (type_of% @pl52) ∧ (type_of% @zc52) ∧ (type_of% @zn52) := ⟨@sz52, @ag52, @by52, @fl52_0, @fl52_1, @pl52, @zc52, @zn52⟩
theorem T53 : (type_of% @sz53) ∧ (type_of% @ag53) ∧ (type_of% @by53) ∧ (type_of% @zc53) ∧ (type_of% @zn53) := ⟨@sz53, @ag53, @by53, @zc53, @zn53⟩
theorem T54 : (type_of% @sz54) ∧ (type_of% @ag54) ∧ (type_of% @by54) ∧ (type_of% @zc54) ∧ (type_of% @zn54) := ⟨@sz54, @ag54, @by54, @zc54, @zn54⟩
theorem T55 : (type_of% @sz55) ∧ (type_of% @ag55) ∧ (type_of% @by55) ∧ (type_of% @un55) ∧ (type_of% @pl55) ∧ (type_of% @zc55) ∧ (type_of% @zn55) := ⟨@sz55, @ag55, @by55, @un55, @pl55, @zc55, @zn55⟩
theorem T56 : (type_of% @sz56) ∧ (type_of% @ag56) ∧ (type_of% @by56) ∧ (type_of% @fl56_0) ∧ (type_of% @fl56_1) ∧ (type_of% @fl56_2) ∧ (type_of% @pl56) ∧ (type_of% @zc56) ∧ (type_of% @zn56) := ⟨@sz56, @ag56, @by56, @fl56_0, @fl56_1, @fl56_2, @pl56, @zc56, @zn56⟩
theorem T57 : (type_of% @sz57) ∧ (type_of% @ag57) ∧ (type_of% @by57) ∧ (type_of% @fl57_0) ∧ (type_of% @fl57_1) ∧ (type_of% @fl57_2) ∧ (type_of% @pl57) ∧ (type_of% @zc57) ∧ (type_of% @zn57) := ⟨@sz57, @ag57, @by57, @fl57_0, @fl57_1, @fl57_2, @pl57, @zc57, @zn57⟩
theorem T58 : (type_of% @sz58) ∧ (type_of% @ag58) ∧ (type_of% @by58) := ⟨@sz58, @ag58, @by58⟩
theorem T59 : (type_of% @sz59) ∧ (type_of% @ag59) ∧ (type_of% @by59) ∧ (type_of% @zc59) ∧ (type_of% @zn59) := ⟨@sz59, @ag59, @by59, @zc59, @zn59⟩
theorem T60 : (type_of% @sz60) ∧ (type_of% @ag60) ∧ (type_of% @by60) ∧ (type_of% @zc60) ∧ (type_of% @zn60) := ⟨@sz60, @ag60, @by60, @zc60, @zn60⟩
theorem T61 : (type_of% @sz61) ∧ (type_of% @ag61) ∧ (type_of% @by61) ∧ (type_of% @zc61) ∧ (type_of% @zn61) := ⟨@sz61, @ag61, @by61, @zc61, @zn61⟩
theorem T62 : (type_of% @sz62) ∧ (type_of% @ag62) ∧ (type_of% @by62) ∧ (type_of% @zc62) ∧ (type_of% @zn62) := ⟨@sz62, @ag62, @by62, @zc62, @zn62⟩
theorem T63 : (type_of% @sz63) ∧ (type_of% @ag63) ∧ (type_of% @by63) ∧ (type_of% @zc63) ∧ (type_of% @zn63) := ⟨@sz63, @ag63, @by63, @zc63, @zn63⟩
theorem T64 : (type_of% @sz64) ∧ (type_of% @ag64) ∧ (type_of% @by64) ∧ (type_of% @zc64) ∧ (type_of% @zn64) := ⟨@sz64, @ag64, @by64, @zc64, @zn64⟩
theorem T65 : (type_of% @sz65) ∧ (type_of% @ag65) ∧ (type_of% @by65) ∧ (type_of% @zc65) ∧ (type_of% @zn65) := ⟨@sz65, @ag65, @by65, @zc65, @zn65⟩
theorem T66 : (type_of% @sz66) ∧ (type_of% @ag66) ∧ (type_of% @by66) ∧ (type_of% @zc66) ∧ (type_of% @zn66) := ⟨@sz66, @ag66, @by66, @zc66, @zn66⟩
theorem T67 : (type_of% @sz67) ∧ (type_of% @ag67) ∧ (type_of% @by67) ∧ (type_of% @zc67) ∧ (type_of% @zn67) := ⟨@sz67, @ag67, @by67, @zc67, @zn67⟩
theorem T68 : (type_of% @sz68) ∧ (type_of% @ag68) ∧ (type_of% @by68) ∧ (type_of% @un68) ∧ (type_of% @pl68) ∧ (type_of% @zc68) ∧ (type_of% @zn68) := ⟨@sz68, @ag68, @by68, @un68, @pl68, @zc68, @zn68⟩
theorem T69 : (type_of% @sz69) ∧ (type_of% @ag69) ∧ (type_of% @by69) ∧ (type_of% @zc69) ∧ (type_of% @zn69) := ⟨@sz69, @ag69, @by69, @zc69, @zn69⟩
theorem T70 : (type_of% @sz70) ∧ (type_of% @ag70) ∧ (type_of% @by70) ∧ (type_of% @zc70) ∧ (type_of% @zn70) := ⟨@sz70, @ag70, @by70, @zc70, @zn70⟩
theorem T71 : (type_of% @sz71) ∧ (type_of% @ag71) ∧ (type_of% @by71) := ⟨@sz71, @ag71, @by71⟩
theorem T72 : (type_of% @sz72) ∧ (type_of% @ag72) ∧ (type_of% @by72) ∧ (type_of% @zc72) ∧ (type_of% @zn72) := ⟨@sz72, @ag72, @by72, @zc72, @zn72⟩
theorem T73 : (type_of% @sz73) ∧ (type_of% @ag73) ∧ (type_of% @by73) ∧ (type_of% @zc73) ∧ (type_of% @zn73) := ⟨@sz73, @ag73, @by73, @zc73, @zn73⟩
theorem T74 : (type_of% @sz74) ∧ (type_of% @ag74) ∧ (type_of% @by74) ∧ (type_of% @zc74) ∧ (type_of% @zn74) := ⟨@sz74, @ag74, @by74, @zc74, @zn74⟩
theorem T75 : (type_of% @sz75) ∧ (type_of% @ag75) ∧ (type_of% @by75) ∧ (type_of% @zc75) ∧ (type_of% @zn75) := ⟨@sz75, @ag75, @by75, @zc75, @zn75⟩
theorem T76 : (type_of% @sz76) ∧ (type_of% @ag76) ∧ (type_of% @by76) ∧ (type_of% @un76) ∧ (type_of% @zc76) ∧ (type_of% @zn76) := ⟨@sz76, @ag76, @by76, @un76, @zc76, @zn76⟩
theorem T77 : (type_of% @sz77) ∧ (type_of% @ag77) ∧ (type_of% @by77) ∧ (type_of% @zc77) ∧ (type_of% @zn77) := ⟨@sz77, @ag77, @by77, @zc77, @zn77⟩
theorem T78 : (type_of% @sz78) ∧ (type_of% @ag78) ∧ (type_of% @by78) ∧ (type_of% @zc78) ∧ (type_of% @zn78) := ⟨@sz78, @ag78, @by78, @zc78, @zn78⟩
theorem T79 : (type_of% @sz79) ∧ (type_of% @ag79) ∧ (type_of% @by79) ∧ (type_of% @zc79) ∧ (type_of% @zn79) := ⟨@sz79, @ag79, @by79, @zc79, @zn79⟩
theorem T80 : (type_of% @sz80) ∧ (type_of% @ag80) ∧ (type_of% @by80) ∧ (type_of% @un80) ∧ (type_of% @pl80) ∧ (type_of% @zc80) ∧ (type_of% @zn80) := ⟨@sz80, @ag80, @by80, @un80, @pl80, @zc80, @zn80⟩
theorem T81 : (type_of% @sz81) ∧ (type_of% @ag81) ∧ (type_of% @by81) ∧ (type_of% @zc81) ∧ (type_of% @zn81) := ⟨@sz81, @ag81, @by81, @zc81, @zn81⟩
theorem T82 : (type_of% @sz82) ∧ (type_of% @ag82) ∧ (type_of% @by82) ∧ (type_of% @fl82_0) ∧ (type_of% @fl82_1) ∧ (type_of% @fl82_2) ∧ (type_of% @pl82) ∧ (type_of% @zc82) ∧ (type_of% @zn82) ∧ (type_of% @eg82) ∧ (type_of% @eqs82) := ⟨@sz82, @ag82, @by82, @fl82_0, @fl82_1, @fl82_2, @pl82, @zc82, @zn82, @eg82, @eqs82⟩
theorem T83 : (type_of% @sz83) ∧ (type_of% @ag83) ∧ (type_of% @by83) ∧ (type_of% @fl83_0) ∧ (type_of% @fl83_1) ∧ (type_of% @fl83_2) ∧ (type_of% @pl83) ∧ (type_of% @zc83) ∧ (type_of% @zn83) ∧ (type_of% @eg83) ∧ (type_of% @eqs83) := ⟨@sz83, @ag83, @by83, @fl83_0, @fl83_1, @fl83_2, @pl83, @zc83, @zn83, @eg83, @eqs83⟩
theorem T84 : (type_of% @sz84) ∧ (type_of% @ag84) ∧ (type_of% @by84) ∧ (type_of% @zc84) ∧ (type_of% @zn84) := ⟨@sz84, @ag84, @by84, @zc84, @zn84⟩
theorem T85 : (type_of% @sz85) ∧ (type_of% @ag85) ∧ (type_of% @by85) ∧ (type_of% @zc85) ∧ (type_of% @zn85) := ⟨@sz85, @ag85, @by85, @zc85, @zn85⟩
theorem T86 : (type_of% @sz86) ∧ (type_of% @ag86) ∧ (type_of% @by86) ∧ (type_of% @zc86) ∧ (type_of% @zn86) := ⟨@sz86, @ag86, @by86, @zc86, @zn86⟩
theorem T87 : (type_of% @sz87) ∧ (type_of% @ag87) ∧ (type_of% @by87) ∧ (type_of% @zc87) ∧ (type_of% @zn87) := ⟨@sz87, @ag87, @by87, @zc87, @zn87⟩
theorem T88 : (type_of% @sz88) ∧ (type_of% @ag88) ∧ (type_of% @by88) ∧ (type_of% @zc88) ∧ (type_of% @zn88) := ⟨@sz88, @ag88, @by88, @zc88, @zn88⟩
theorem T89 : (type_of% @sz89) ∧ (type_of% @ag89) ∧ (type_of% @by89) ∧ (type_of% @zc89) ∧ (type_of% @zn89) := ⟨@sz89, @ag89, @by89, @zc89, @zn89⟩
theorem T90 : (type_of% @sz90) ∧ (type_of% @ag90) ∧ (type_of% @by90) ∧ (type_of% @un90) ∧ (type_of% @pl90) ∧ (type_of% @zc90) ∧ (type_of% @zn90) := ⟨@sz90, @ag90, @by90, @un90, @pl90, @zc90, @zn90⟩
theorem T91 : (type_of% @sz91) ∧ (type_of% @ag91) ∧ (type_of% @by91) ∧ (type_of% @zc91) ∧ (type_of% @zn91) := ⟨@sz91, @ag91, @by91, @zc91, @zn91⟩
theorem T92 : (type_of% @sz92) ∧ (type_of% @ag92) ∧ (type_of% @by92) ∧ (type_of% @un92) ∧ (type_of% @pl92) ∧ (type_of% @zc92) ∧ (type_of% @zn92) := ⟨@sz92, @ag92, @by92, @un92, @pl92, @zc92, @zn92⟩
theorem T93 : (type_of% @sz93) ∧ (type_of% @ag93) ∧ (type_of% @by93) ∧ (type_of% @un93) ∧ (type_of% @pl93) ∧ (type_of% @zc93) ∧ (type_of% @zn93) := ⟨@sz93, @ag93, @by93, @un93, @pl93, @zc93, @zn93⟩
theorem T94 : (type_of% @sz94) ∧ (type_of% @ag94) ∧ (type_of% @by94) ∧ (type_of% @un94) ∧ (type_of% @pl94) ∧ (type_of% @zc94) ∧ (type_of% @zn94) := ⟨@sz94, @ag94, @by94, @un94, @pl94, @zc94, @zn94⟩
theorem T95 : (type_of% @sz95) ∧ (type_of% @ag95) ∧ (type_of% @by95) ∧ (type_of% @zc95) ∧ (type_of% @zn95) := ⟨@sz95, @ag95, @by95, @zc95, @zn95⟩
theorem T96 : (type_of% @sz96) ∧ (type_of% @ag96) ∧ (type_of% @by96) ∧ (type_of% @zc96) ∧ (type_of% @zn96) := ⟨@sz96, @ag96, @by96, @zc96, @zn96⟩
theorem T97 : (type_of% @sz97) ∧ (type_of% @ag97) ∧ (type_of% @by97) ∧ (type_of% @un97) ∧ (type_of% @pl97) ∧ (type_of% @zc97) ∧ (type_of% @zn97) := ⟨@sz97, @ag97, @by97, @un97, @pl97, @zc97, @zn97⟩
theorem T98 : (type_of% @sz98) ∧ (type_of% @ag98) ∧ (type_of% @by98) ∧ (type_of% @zc98) ∧ (type_of% @zn98) := ⟨@sz98, @ag98, @by98, @zc98, @zn98⟩
theorem T99 : (type_of% @sz99) ∧ (type_of% @ag99) ∧ (type_of% @by99) ∧ (type_of% @zc99) ∧ (type_of% @zn99) := ⟨@sz99, @ag99, @by99, @zc99, @zn99⟩
theorem T100 : (type_of% @sz100) ∧ (type_of% @ag100) ∧ (type_of% @by100) ∧ (type_of% @zc100) ∧ (type_of% @zn100) := ⟨@sz100, @ag100, @by100, @zc100, @zn100⟩
theorem T101 : (type_of% @sz101) ∧ (type_of% @ag101) ∧ (type_of% @by101) ∧ (type_of% @zc101) ∧ (type_of% @zn101) := ⟨@sz101, @ag101, @by101, @zc101, @zn101⟩
theorem T102 : (type_of% @sz102) ∧ (type_of% @ag102) ∧ (type_of% @by102) ∧ (type_of% @zc102) ∧ (type_of% @zn102) := ⟨@sz102, @ag102, @by102, @zc102, @zn102⟩
theorem T103 : (type_of% @sz103) ∧ (type_of% @ag103) ∧ (type_of% @by103) ∧ (type_of% @zc103) ∧ (type_of% @zn103) := ⟨@sz103, @ag103, @by103, @zc103, @zn103⟩
theorem T104 : (type_of% @sz104) ∧ (type_of% @ag104) ∧ (type_of% @by104) ∧ (type_of% @un104) ∧ (type_of% @zc104) ∧ (type_of% @zn104) := ⟨@sz104, @ag104, @by104, @un104, @zc104, @zn104⟩
theorem T105 : (type_of% @sz105) ∧ (type_of% @ag105) ∧ (type_of% @by105) ∧ (type_of% @zc105) ∧ (type_of% @zn105) := ⟨@sz105, @ag105, @by105, @zc105, @zn105⟩
theorem T106 : (type_of% @sz106) ∧ (type_of% @ag106) ∧ (type_of% @by106) ∧ (type_of% @zc106) ∧ (type_of% @zn106) := ⟨@sz106, @ag106, @by106, @zc106, @zn106⟩
theorem T107 : (type_of% @sz107) ∧ (type_of% @ag107) ∧ (type_of% @by107) ∧ (type_of% @zc107) ∧ (type_of% @zn107) := ⟨@sz107, @ag107, @by107, @zc107, @zn107⟩
theorem T108 : (type_of% @sz108) ∧ (type_of% @ag108) ∧ (type_of% @by108) ∧ (type_of% @zc108) ∧ (type_of% @zn108) := ⟨@sz108, @ag108, @by108, @zc108, @zn108⟩
theorem T109 : (type_of% @sz109) ∧ (type_of% @ag109) ∧ (type_of% @by109) ∧ (type_of% @zc109) ∧ (type_of% @zn109) := ⟨@sz109, @ag109, @by109, @zc109, @zn109⟩
theorem T110 : (type_of% @sz110) ∧ (type_of% @ag110) ∧ (type_of% @by110) ∧ (type_of% @un110) ∧ (type_of% @pl110) ∧ (type_of% @zc110) ∧ (type_of% @zn110) := ⟨@sz110, @ag110, @by110, @un110, @pl110, @zc110, @zn110⟩
theorem T111 : (type_of% @sz111) ∧ (type_of% @ag111) ∧ (type_of% @by111) ∧ (type_of% @fl111_0) ∧ (type_of% @fl111_1) ∧ (type_of% @fl111_2) ∧ (type_of% @pl111) ∧ (type_of% @zc111) ∧ (type_of% @zn111) := ⟨@sz111, @ag111, @by111, @fl111_0, @fl111_1, @fl111_2, @pl111, @zc111, @zn111⟩
theorem T112 : (type_of% @sz112) ∧ (type_of% @ag112) ∧ (type_of% @by112) ∧ (type_of% @fl112_0) ∧ (type_of% @fl112_1) ∧ (type_of% @fl112_2) ∧ (type_of% @pl112) ∧ (type_of% @zc112) ∧ (type_of% @zn112) := ⟨@sz112, @ag112, @by112, @fl112_0, @fl112_1, @fl112_2, @pl112, @zc112, @zn112⟩
theorem T113 : (type_of% @sz113) ∧ (type_of% @ag113) ∧ (type_of% @by113) := ⟨@sz113, @ag113, @by113⟩
theorem T114 : (type_of% @sz114) ∧ (type_of% @ag114) ∧ (type_of% @by114) ∧ (type_of% @zc114) ∧ (type_of% @zn114) := ⟨@sz114, @ag114, @by114, @zc114, @zn114⟩
theorem T115 : (type_of% @sz115) ∧ (type_of% @ag115) ∧ (type_of% @by115) ∧ (type_of% @zc115) ∧ (type_of% @zn115) := ⟨@sz115, @ag115, @by115, @zc115, @zn115⟩
theorem T116 : (type_of% @sz116) ∧ (type_of% @ag116) ∧ (type_of% @by116) ∧ (type_of% @un116) ∧ (type_of% @pl116) ∧ (type_of% @zc116) ∧ (type_of% @zn116) := ⟨@sz116, @ag116, @by116, @un116, @pl116, @zc116, @zn116⟩
theorem T117 : (type_of% @sz117) ∧ (type_of% @ag117) ∧ (type_of% @by117) ∧ (type_of% @zc117) ∧ (type_of% @zn117) := ⟨@sz117, @ag117, @by117, @zc117, @zn117⟩
theorem T118 : (type_of% @sz118) ∧ (type_of% @ag118) ∧ (type_of% @by118) ∧ (type_of% @zc118) ∧ (type_of% @zn118) := ⟨@sz118, @ag118, @by118, @zc118, @zn118⟩
theorem T119 : (type_of% @sz119) ∧ (type_of% @ag119) ∧ (type_of% @by119) ∧ (type_of% @zc119) ∧ (type_of% @zn119) := ⟨@sz119, @ag119, @by119, @zc119, @zn119⟩
theorem T120 : (type_of% @sz120) ∧ (type_of% @ag120) ∧ (type_of% @by120) ∧ (type_of% @zc120) ∧ (type_of% @zn120) := ⟨@sz120, @ag120, @by120, @zc120, @zn120⟩
theorem T121 : (type_of% @sz121) ∧ (type_of% @ag121) ∧ (type_of% @by121) ∧ (type_of% @fl121_0) ∧ (type_of% @fl121_1) ∧ (type_of% @fl121_2) ∧ (type_of% @fl121_3) ∧ (type_of% @pl121) ∧ (type_of% @zc121) ∧ (type_of% @zn121) := ⟨@sz121, @ag121, @by121, @fl121_0, @fl121_1, @fl121_2, @fl121_3, @pl121, @zc121, @zn121⟩
theorem T122 : (type_of% @sz122) ∧ (type_of% @ag122) ∧ (type_of% @by122) ∧ (type_of% @fl122_0) ∧ (type_of% @fl122_1) ∧ (type_of% @fl122_2) ∧ (type_of% @fl122_3) ∧ (type_of% @pl122) ∧ (type_of% @zc122) ∧ (type_of% @zn122) := ⟨@sz122, @ag122, @by122, @fl122_0, @fl122_1, @fl122_2, @fl122_3, @pl122, @zc122, @zn122⟩
theorem T123 : (type_of% @sz123) ∧ (type_of% @ag123) ∧ (type_of% @by123) ∧ (type_of% @un123) ∧ (type_of% @pl123) ∧ (type_of% @zc123) ∧ (type_of% @zn123) := ⟨@sz123, @ag123, @by123, @un123, @pl123, @zc123, @zn123⟩
theorem T124 : (type_of% @sz124) ∧ (type_of% @ag124) ∧ (type_of% @by124) ∧ (type_of% @fl124_0) ∧ (type_of% @pl124) ∧ (type_of% @zc124) ∧ (type_of% @zn124) := ⟨@sz124, @ag124, @by124, @fl124_0, @pl124, @zc124, @zn124⟩
theorem T125 : (type_of% @sz125) ∧ (type_of% @ag125) ∧ (type_of% @by125) ∧ (type_of% @fl125_0) ∧ (type_of% @pl125) ∧ (type_of% @zc125) ∧ (type_of% @zn125) := ⟨@sz125, @ag125, @by125, @fl125_0, @pl125, @zc125, @zn125⟩
theorem T126 : (type_of% @sz126) ∧ (type_of% @ag126) ∧ (type_of% @by126) ∧ (type_of% @zc126) ∧ (type_of% @zn126) := ⟨@sz126, @ag126, @by126, @zc126, @zn126⟩
theorem T127 : (type_of% @sz127) ∧ (type_of% @ag127) ∧ (type_of% @by127) ∧ (type_of% @un127) ∧ (type_of% @pl127) ∧ (type_of% @zc127) ∧ (type_of% @zn127) := ⟨@sz127, @ag127, @by127, @un127, @pl127, @zc127, @zn127⟩
theorem T128 : (type_of% @sz128) ∧ (type_of% @ag128) ∧ (type_of% @by128) ∧ (type_of% @un128) ∧ (type_of% @pl128) ∧ (type_of% @zc128) ∧ (type_of% @zn128) := ⟨@sz128, @ag128, @by128, @un128, @pl128, @zc128, @zn128⟩
theorem T129 : (type_of% @sz129) ∧ (type_of% @ag129) ∧ (type_of% @by129) ∧ (type_of% @zc129) ∧ (type_of% @zn129) := ⟨@sz129, @ag129, @by129, @zc129, @zn129⟩
theorem T130 : (type_of% @sz130) ∧ (type_of% @ag130) ∧ (type_of% @by130) ∧ (type_of% @un130) ∧ (type_of% @zc130) ∧ (type_of% @zn130) := ⟨@sz130, @ag130, @by130, @un130, @zc130, @zn130⟩
theorem T131 : (type_of% @sz131) ∧ (type_of% @ag131) ∧ (type_of% @by131) ∧ (type_of% @un131) ∧ (type_of% @pl131) ∧ (type_of% @zc131) ∧ (type_of% @zn131) := ⟨@sz131, @ag131, @by131, @un131, @pl131, @zc131, @zn131⟩
theorem T132 : (type_of% @sz132) ∧ (type_of% @ag132) ∧ (type_of% @by132) ∧ (type_of% @un132) ∧ (type_of% @pl132) ∧ (type_of% @zc132) ∧ (type_of% @zn132) := ⟨@sz132, @ag132, @by132, @un132, @pl132, @zc132, @zn132⟩
theorem T133 : (type_of% @sz133) ∧ (type_of% @ag133) ∧ (type_of% @by133) ∧ (type_of% @fl133_0) ∧ (type_of% @fl133_1) ∧ (type_of% @fl133_2) ∧ (type_of% @fl133_3) ∧ (type_of% @fl133_4) ∧ (type_of% @fl133_5) ∧ (type_of% @fl133_6) ∧ (type_of% @fl133_7) ∧ (type_of% @fl133_8) ∧ (type_of% @fl133_9) ∧ (type_of% @fl133_10) ∧ (type_of% @pl133) ∧ (type_of% @zc133) ∧ (type_of% @zn133) := ⟨@sz133, @ag133, @by133, @fl133_0, @fl133_1, @fl133_2, @fl133_3, @fl133_4, @fl133_5, @fl133_6, @fl133_7, @fl133_8, @fl133_9, @fl133_10, @pl133, @zc133, @zn133⟩
theorem T134 : (type_of% @sz134) ∧ (type_of% @ag134) ∧ (type_of% @by134) ∧ (type_of% @fl134_0) ∧ (type_of% @fl134_1) ∧ (type_of% @fl134_2) ∧ (type_of% @fl134_3) ∧ (type_of% @fl134_4) ∧ (type_of% @fl134_5) ∧ (type_of% @fl134_6) ∧ (type_of% @fl134_7) ∧ (type_of% @fl134_8) ∧ (type_of% @fl134_9) ∧ (type_of% @fl134_10) ∧ (type_of% @pl134) ∧ (type_of% @zc134) ∧ (type_of% @zn134) := ⟨@sz134, @ag134, @by134, @fl134_0, @fl134_1, @fl134_2, @fl134_3, @fl134_4, @fl134_5, @fl134_6, @fl134_7, @fl134_8, @fl134_9, @fl134_10, @pl134, @zc134, @zn134⟩
theorem T135 : (type_of% @sz135) ∧ (type_of% @ag135) ∧ (type_of% @by135) ∧ (type_of% @zc135) ∧ (type_of% @zn135) := ⟨@sz135, @ag135, @by135, @zc135, @zn135⟩
end Go.Proofs.Ythbnhbmakapglaa.Ty
