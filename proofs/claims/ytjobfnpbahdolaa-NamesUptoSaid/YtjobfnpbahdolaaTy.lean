/- What the abstract walk asks of the types of this seat. Written by a program. -/
import Derived.Test.YtjobfnpbahdolaaAbsEv
set_option linter.all false
namespace Go.Proofs.Ytjobfnpbahdolaa.Ty
open Go Go.Abs Go.Proofs
theorem mixed : (Go.Proofs.Try.prog).follows .mixedOrders = true := by kernel_rfl
theorem sz0 : szOf Go.Proofs.Try.prog 0 = some 1 := by kernel_rfl
theorem ag0 : aggOf Go.Proofs.Try.prog 0 = some false := by kernel_rfl
theorem by0 : bytesOfT Go.Proofs.Try.prog 0 = some 0 := by kernel_rfl
theorem sz1 : szOf Go.Proofs.Try.prog 1 = some 1 := by kernel_rfl
theorem ag1 : aggOf Go.Proofs.Try.prog 1 = some false := by kernel_rfl
theorem by1 : bytesOfT Go.Proofs.Try.prog 1 = some 8 := by kernel_rfl
theorem zc1 : zeroCellsD Go.Proofs.Try.prog 1 = some [.i (.s (Value.nilFunc))] := by kernel_rfl
theorem zn1 : (zeroOf Go.Proofs.Try.prog 1).map (·.cells.size) = some 1 := by kernel_rfl
theorem sz2 : szOf Go.Proofs.Try.prog 2 = some 1 := by kernel_rfl
theorem ag2 : aggOf Go.Proofs.Try.prog 2 = some false := by kernel_rfl
theorem by2 : bytesOfT Go.Proofs.Try.prog 2 = some 8 := by kernel_rfl
theorem un2 : undOf Go.Proofs.Try.prog 2 = some (TypeDesc.int IntKind.i64) := by kernel_rfl
theorem pl2 : placesOf Go.Proofs.Try.prog 2 = none := by kernel_rfl
theorem zc2 : zeroCellsD Go.Proofs.Try.prog 2 = some [.i (.s (Value.int IntKind.i64 0))] := by kernel_rfl
theorem zn2 : (zeroOf Go.Proofs.Try.prog 2).map (·.cells.size) = some 1 := by kernel_rfl
theorem sz3 : szOf Go.Proofs.Try.prog 3 = some 1 := by kernel_rfl
theorem ag3 : aggOf Go.Proofs.Try.prog 3 = some false := by kernel_rfl
theorem by3 : bytesOfT Go.Proofs.Try.prog 3 = some 8 := by kernel_rfl
theorem un3 : undOf Go.Proofs.Try.prog 3 = some (TypeDesc.int IntKind.i64) := by kernel_rfl
theorem pl3 : placesOf Go.Proofs.Try.prog 3 = none := by kernel_rfl
theorem zc3 : zeroCellsD Go.Proofs.Try.prog 3 = some [.i (.s (Value.int IntKind.i64 0))] := by kernel_rfl
theorem zn3 : (zeroOf Go.Proofs.Try.prog 3).map (·.cells.size) = some 1 := by kernel_rfl
theorem sz4 : szOf Go.Proofs.Try.prog 4 = some 1 := by kernel_rfl
theorem ag4 : aggOf Go.Proofs.Try.prog 4 = some false := by kernel_rfl
theorem by4 : bytesOfT Go.Proofs.Try.prog 4 = some 1 := by kernel_rfl
theorem un4 : undOf Go.Proofs.Try.prog 4 = some (TypeDesc.bool) := by kernel_rfl
theorem pl4 : placesOf Go.Proofs.Try.prog 4 = none := by kernel_rfl
theorem zc4 : zeroCellsD Go.Proofs.Try.prog 4 = some [.i (.s (Value.bool false))] := by kernel_rfl
theorem zn4 : (zeroOf Go.Proofs.Try.prog 4).map (·.cells.size) = some 1 := by kernel_rfl
theorem sz5 : szOf Go.Proofs.Try.prog 5 = some 1 := by kernel_rfl
theorem ag5 : aggOf Go.Proofs.Try.prog 5 = some false := by kernel_rfl
theorem by5 : bytesOfT Go.Proofs.Try.prog 5 = some 1 := by kernel_rfl
theorem un5 : undOf Go.Proofs.Try.prog 5 = some (TypeDesc.int IntKind.u8) := by kernel_rfl
theorem pl5 : placesOf Go.Proofs.Try.prog 5 = none := by kernel_rfl
theorem zc5 : zeroCellsD Go.Proofs.Try.prog 5 = some [.i (.s (Value.int IntKind.u8 0))] := by kernel_rfl
theorem zn5 : (zeroOf Go.Proofs.Try.prog 5).map (·.cells.size) = some 1 := by kernel_rfl
theorem sz6 : szOf Go.Proofs.Try.prog 6 = some 1 := by kernel_rfl
theorem ag6 : aggOf Go.Proofs.Try.prog 6 = some false := by kernel_rfl
theorem by6 : bytesOfT Go.Proofs.Try.prog 6 = some 1 := by kernel_rfl
theorem un6 : undOf Go.Proofs.Try.prog 6 = some (TypeDesc.int IntKind.u8) := by kernel_rfl
theorem pl6 : placesOf Go.Proofs.Try.prog 6 = none := by kernel_rfl
theorem zc6 : zeroCellsD Go.Proofs.Try.prog 6 = some [.i (.s (Value.int IntKind.u8 0))] := by kernel_rfl
theorem zn6 : (zeroOf Go.Proofs.Try.prog 6).map (·.cells.size) = some 1 := by kernel_rfl
theorem sz7 : szOf Go.Proofs.Try.prog 7 = some 4 := by kernel_rfl
theorem ag7 : aggOf Go.Proofs.Try.prog 7 = some true := by kernel_rfl
theorem by7 : bytesOfT Go.Proofs.Try.prog 7 = some 24 := by kernel_rfl
theorem fl7_0 : fldOf Go.Proofs.Try.prog 7 0 = some (0, 2) := by kernel_rfl
theorem fl7_1 : fldOf Go.Proofs.Try.prog 7 1 = some (1, 3) := by kernel_rfl
theorem fl7_2 : fldOf Go.Proofs.Try.prog 7 2 = some (2, 4) := by kernel_rfl
theorem fl7_3 : fldOf Go.Proofs.Try.prog 7 3 = some (3, 6) := by kernel_rfl
theorem pl7 : placesOf Go.Proofs.Try.prog 7 = some #[(0, 1), (1, 1), (2, 1), (3, 1)] := by kernel_rfl
theorem zc7 : zeroCellsD Go.Proofs.Try.prog 7 = some [.i (.s (Value.int IntKind.i64 0)), .i (.s (Value.int IntKind.i64 0)), .i (.s (Value.bool false)), .i (.s (Value.int IntKind.u8 0))] := by kernel_rfl
theorem zn7 : (zeroOf Go.Proofs.Try.prog 7).map (·.cells.size) = some 4 := by kernel_rfl
theorem sz8 : szOf Go.Proofs.Try.prog 8 = some 4 := by kernel_rfl
theorem ag8 : aggOf Go.Proofs.Try.prog 8 = some true := by kernel_rfl
theorem by8 : bytesOfT Go.Proofs.Try.prog 8 = some 24 := by kernel_rfl
theorem fl8_0 : fldOf Go.Proofs.Try.prog 8 0 = some (0, 2) := by kernel_rfl
theorem fl8_1 : fldOf Go.Proofs.Try.prog 8 1 = some (1, 3) := by kernel_rfl
theorem fl8_2 : fldOf Go.Proofs.Try.prog 8 2 = some (2, 4) := by kernel_rfl
theorem fl8_3 : fldOf Go.Proofs.Try.prog 8 3 = some (3, 6) := by kernel_rfl
theorem pl8 : placesOf Go.Proofs.Try.prog 8 = some #[(0, 1), (1, 1), (2, 1), (3, 1)] := by kernel_rfl
theorem zc8 : zeroCellsD Go.Proofs.Try.prog 8 = some [.i (.s (Value.int IntKind.i64 0)), .i (.s (Value.int IntKind.i64 0)), .i (.s (Value.bool false)), .i (.s (Value.int IntKind.u8 0))] := by kernel_rfl
theorem zn8 : (zeroOf Go.Proofs.Try.prog 8).map (·.cells.size) = some 4 := by kernel_rfl
theorem sz9 : szOf Go.Proofs.Try.prog 9 = some 1 := by kernel_rfl
theorem ag9 : aggOf Go.Proofs.Try.prog 9 = some false := by kernel_rfl
theorem by9 : bytesOfT Go.Proofs.Try.prog 9 = some 16 := by kernel_rfl
theorem un9 : undOf Go.Proofs.Try.prog 9 = some (TypeDesc.string) := by kernel_rfl
theorem pl9 : placesOf Go.Proofs.Try.prog 9 = none := by kernel_rfl
theorem zc9 : zeroCellsD Go.Proofs.Try.prog 9 = some [.i (.s (Value.string { data := #[] }))] := by kernel_rfl
theorem zn9 : (zeroOf Go.Proofs.Try.prog 9).map (·.cells.size) = some 1 := by kernel_rfl
theorem sz10 : szOf Go.Proofs.Try.prog 10 = some 1 := by kernel_rfl
theorem ag10 : aggOf Go.Proofs.Try.prog 10 = some false := by kernel_rfl
theorem by10 : bytesOfT Go.Proofs.Try.prog 10 = some 16 := by kernel_rfl
theorem un10 : undOf Go.Proofs.Try.prog 10 = some (TypeDesc.string) := by kernel_rfl
theorem pl10 : placesOf Go.Proofs.Try.prog 10 = none := by kernel_rfl
theorem zc10 : zeroCellsD Go.Proofs.Try.prog 10 = some [.i (.s (Value.string { data := #[] }))] := by kernel_rfl
theorem zn10 : (zeroOf Go.Proofs.Try.prog 10).map (·.cells.size) = some 1 := by kernel_rfl
theorem sz11 : szOf Go.Proofs.Try.prog 11 = some 1 := by kernel_rfl
theorem ag11 : aggOf Go.Proofs.Try.prog 11 = some false := by kernel_rfl
theorem by11 : bytesOfT Go.Proofs.Try.prog 11 = some 16 := by kernel_rfl
theorem un11 : undOf Go.Proofs.Try.prog 11 = some (TypeDesc.string) := by kernel_rfl
theorem pl11 : placesOf Go.Proofs.Try.prog 11 = none := by kernel_rfl
theorem zc11 : zeroCellsD Go.Proofs.Try.prog 11 = some [.i (.s (Value.string { data := #[] }))] := by kernel_rfl
theorem zn11 : (zeroOf Go.Proofs.Try.prog 11).map (·.cells.size) = some 1 := by kernel_rfl
theorem sz12 : szOf Go.Proofs.Try.prog 12 = some 1 := by kernel_rfl
theorem ag12 : aggOf Go.Proofs.Try.prog 12 = some false := by kernel_rfl
theorem by12 : bytesOfT Go.Proofs.Try.prog 12 = some 8 := by kernel_rfl
theorem un12 : undOf Go.Proofs.Try.prog 12 = some (TypeDesc.int IntKind.u64) := by kernel_rfl
theorem pl12 : placesOf Go.Proofs.Try.prog 12 = none := by kernel_rfl
theorem zc12 : zeroCellsD Go.Proofs.Try.prog 12 = some [.i (.s (Value.int IntKind.u64 0))] := by kernel_rfl
theorem zn12 : (zeroOf Go.Proofs.Try.prog 12).map (·.cells.size) = some 1 := by kernel_rfl
theorem sz13 : szOf Go.Proofs.Try.prog 13 = some 2 := by kernel_rfl
theorem ag13 : aggOf Go.Proofs.Try.prog 13 = some true := by kernel_rfl
theorem by13 : bytesOfT Go.Proofs.Try.prog 13 = some 24 := by kernel_rfl
theorem fl13_0 : fldOf Go.Proofs.Try.prog 13 0 = some (0, 9) := by kernel_rfl
theorem fl13_1 : fldOf Go.Proofs.Try.prog 13 1 = some (1, 12) := by kernel_rfl
theorem pl13 : placesOf Go.Proofs.Try.prog 13 = some #[(0, 1), (1, 1)] := by kernel_rfl
theorem zc13 : zeroCellsD Go.Proofs.Try.prog 13 = some [.i (.s (Value.string { data := #[] })), .i (.s (Value.int IntKind.u64 0))] := by kernel_rfl
theorem zn13 : (zeroOf Go.Proofs.Try.prog 13).map (·.cells.size) = some 2 := by kernel_rfl
theorem sz14 : szOf Go.Proofs.Try.prog 14 = some 2 := by kernel_rfl
theorem ag14 : aggOf Go.Proofs.Try.prog 14 = some true := by kernel_rfl
theorem by14 : bytesOfT Go.Proofs.Try.prog 14 = some 24 := by kernel_rfl
theorem fl14_0 : fldOf Go.Proofs.Try.prog 14 0 = some (0, 9) := by kernel_rfl
theorem fl14_1 : fldOf Go.Proofs.Try.prog 14 1 = some (1, 12) := by kernel_rfl
theorem pl14 : placesOf Go.Proofs.Try.prog 14 = some #[(0, 1), (1, 1)] := by kernel_rfl
theorem zc14 : zeroCellsD Go.Proofs.Try.prog 14 = some [.i (.s (Value.string { data := #[] })), .i (.s (Value.int IntKind.u64 0))] := by kernel_rfl
theorem zn14 : (zeroOf Go.Proofs.Try.prog 14).map (·.cells.size) = some 2 := by kernel_rfl
theorem sz15 : szOf Go.Proofs.Try.prog 15 = some 1 := by kernel_rfl
theorem ag15 : aggOf Go.Proofs.Try.prog 15 = some false := by kernel_rfl
theorem by15 : bytesOfT Go.Proofs.Try.prog 15 = some 8 := by kernel_rfl
theorem un15 : undOf Go.Proofs.Try.prog 15 = some (TypeDesc.pointer 28) := by kernel_rfl
theorem zc15 : zeroCellsD Go.Proofs.Try.prog 15 = some [.i (.s (Value.pointer none))] := by kernel_rfl
theorem zn15 : (zeroOf Go.Proofs.Try.prog 15).map (·.cells.size) = some 1 := by kernel_rfl
theorem sz16 : szOf Go.Proofs.Try.prog 16 = some 1 := by kernel_rfl
theorem ag16 : aggOf Go.Proofs.Try.prog 16 = some false := by kernel_rfl
theorem by16 : bytesOfT Go.Proofs.Try.prog 16 = some 8 := by kernel_rfl
theorem un16 : undOf Go.Proofs.Try.prog 16 = some (TypeDesc.pointer 31) := by kernel_rfl
theorem zc16 : zeroCellsD Go.Proofs.Try.prog 16 = some [.i (.s (Value.pointer none))] := by kernel_rfl
theorem zn16 : (zeroOf Go.Proofs.Try.prog 16).map (·.cells.size) = some 1 := by kernel_rfl
theorem sz17 : szOf Go.Proofs.Try.prog 17 = some 1 := by kernel_rfl
theorem ag17 : aggOf Go.Proofs.Try.prog 17 = some false := by kernel_rfl
theorem by17 : bytesOfT Go.Proofs.Try.prog 17 = some 8 := by kernel_rfl
theorem un17 : undOf Go.Proofs.Try.prog 17 = some (TypeDesc.pointer 41) := by kernel_rfl
theorem zc17 : zeroCellsD Go.Proofs.Try.prog 17 = some [.i (.s (Value.pointer none))] := by kernel_rfl
theorem zn17 : (zeroOf Go.Proofs.Try.prog 17).map (·.cells.size) = some 1 := by kernel_rfl
theorem sz18 : szOf Go.Proofs.Try.prog 18 = some 1 := by kernel_rfl
theorem ag18 : aggOf Go.Proofs.Try.prog 18 = some true := by kernel_rfl
theorem by18 : bytesOfT Go.Proofs.Try.prog 18 = some 8 := by kernel_rfl
theorem fl18_0 : fldOf Go.Proofs.Try.prog 18 0 = some (0, 17) := by kernel_rfl
theorem pl18 : placesOf Go.Proofs.Try.prog 18 = some #[(0, 1)] := by kernel_rfl
theorem zc18 : zeroCellsD Go.Proofs.Try.prog 18 = some [.i (.s (Value.pointer none))] := by kernel_rfl
theorem zn18 : (zeroOf Go.Proofs.Try.prog 18).map (·.cells.size) = some 1 := by kernel_rfl
theorem sz19 : szOf Go.Proofs.Try.prog 19 = some 1 := by kernel_rfl
theorem ag19 : aggOf Go.Proofs.Try.prog 19 = some true := by kernel_rfl
theorem by19 : bytesOfT Go.Proofs.Try.prog 19 = some 8 := by kernel_rfl
theorem fl19_0 : fldOf Go.Proofs.Try.prog 19 0 = some (0, 17) := by kernel_rfl
theorem pl19 : placesOf Go.Proofs.Try.prog 19 = some #[(0, 1)] := by kernel_rfl
theorem zc19 : zeroCellsD Go.Proofs.Try.prog 19 = some [.i (.s (Value.pointer none))] := by kernel_rfl
theorem zn19 : (zeroOf Go.Proofs.Try.prog 19).map (·.cells.size) = some 1 := by kernel_rfl
theorem sz20 : szOf Go.Proofs.Try.prog 20 = some 1 := by kernel_rfl
theorem ag20 : aggOf Go.Proofs.Try.prog 20 = some false := by kernel_rfl
theorem by20 : bytesOfT Go.Proofs.Try.prog 20 = some 16 := by kernel_rfl
theorem zc20 : zeroCellsD Go.Proofs.Try.prog 20 = some [.i (.s (Value.nilIface))] := by kernel_rfl
theorem zn20 : (zeroOf Go.Proofs.Try.prog 20).map (·.cells.size) = some 1 := by kernel_rfl
theorem sz21 : szOf Go.Proofs.Try.prog 21 = some 1 := by kernel_rfl
theorem ag21 : aggOf Go.Proofs.Try.prog 21 = some false := by kernel_rfl
theorem by21 : bytesOfT Go.Proofs.Try.prog 21 = some 4 := by kernel_rfl
theorem un21 : undOf Go.Proofs.Try.prog 21 = some (TypeDesc.int IntKind.i32) := by kernel_rfl
theorem pl21 : placesOf Go.Proofs.Try.prog 21 = none := by kernel_rfl
theorem zc21 : zeroCellsD Go.Proofs.Try.prog 21 = some [.i (.s (Value.int IntKind.i32 0))] := by kernel_rfl
theorem zn21 : (zeroOf Go.Proofs.Try.prog 21).map (·.cells.size) = some 1 := by kernel_rfl
theorem sz22 : szOf Go.Proofs.Try.prog 22 = some 1 := by kernel_rfl
theorem ag22 : aggOf Go.Proofs.Try.prog 22 = some false := by kernel_rfl
theorem by22 : bytesOfT Go.Proofs.Try.prog 22 = some 8 := by kernel_rfl
theorem un22 : undOf Go.Proofs.Try.prog 22 = some (TypeDesc.int IntKind.i64) := by kernel_rfl
theorem pl22 : placesOf Go.Proofs.Try.prog 22 = none := by kernel_rfl
theorem zc22 : zeroCellsD Go.Proofs.Try.prog 22 = some [.i (.s (Value.int IntKind.i64 0))] := by kernel_rfl
theorem zn22 : (zeroOf Go.Proofs.Try.prog 22).map (·.cells.size) = some 1 := by kernel_rfl
theorem sz23 : szOf Go.Proofs.Try.prog 23 = some 1 := by kernel_rfl
theorem ag23 : aggOf Go.Proofs.Try.prog 23 = some false := by kernel_rfl
theorem by23 : bytesOfT Go.Proofs.Try.prog 23 = some 24 := by kernel_rfl
theorem un23 : undOf Go.Proofs.Try.prog 23 = some (TypeDesc.slice 22) := by kernel_rfl
theorem pl23 : placesOf Go.Proofs.Try.prog 23 = none := by kernel_rfl
theorem zc23 : zeroCellsD Go.Proofs.Try.prog 23 = some [.i (.s (Value.slice none 0 0))] := by kernel_rfl
theorem zn23 : (zeroOf Go.Proofs.Try.prog 23).map (·.cells.size) = some 1 := by kernel_rfl
theorem sz24 : szOf Go.Proofs.Try.prog 24 = some 1 := by kernel_rfl
theorem ag24 : aggOf Go.Proofs.Try.prog 24 = some false := by kernel_rfl
theorem by24 : bytesOfT Go.Proofs.Try.prog 24 = some 24 := by kernel_rfl
theorem un24 : undOf Go.Proofs.Try.prog 24 = some (TypeDesc.slice 3) := by kernel_rfl
theorem pl24 : placesOf Go.Proofs.Try.prog 24 = none := by kernel_rfl
theorem zc24 : zeroCellsD Go.Proofs.Try.prog 24 = some [.i (.s (Value.slice none 0 0))] := by kernel_rfl
theorem zn24 : (zeroOf Go.Proofs.Try.prog 24).map (·.cells.size) = some 1 := by kernel_rfl
theorem sz25 : szOf Go.Proofs.Try.prog 25 = some 1 := by kernel_rfl
theorem ag25 : aggOf Go.Proofs.Try.prog 25 = some false := by kernel_rfl
theorem by25 : bytesOfT Go.Proofs.Try.prog 25 = some 8 := by kernel_rfl
theorem zc25 : zeroCellsD Go.Proofs.Try.prog 25 = some [.i (.s (Value.nilFunc))] := by kernel_rfl
theorem zn25 : (zeroOf Go.Proofs.Try.prog 25).map (·.cells.size) = some 1 := by kernel_rfl
theorem sz26 : szOf Go.Proofs.Try.prog 26 = some 1 := by kernel_rfl
theorem ag26 : aggOf Go.Proofs.Try.prog 26 = some false := by kernel_rfl
theorem by26 : bytesOfT Go.Proofs.Try.prog 26 = some 8 := by kernel_rfl
theorem zc26 : zeroCellsD Go.Proofs.Try.prog 26 = some [.i (.s (Value.nilFunc))] := by kernel_rfl
theorem zn26 : (zeroOf Go.Proofs.Try.prog 26).map (·.cells.size) = some 1 := by kernel_rfl
theorem sz27 : szOf Go.Proofs.Try.prog 27 = some 4 := by kernel_rfl
theorem ag27 : aggOf Go.Proofs.Try.prog 27 = some true := by kernel_rfl
theorem by27 : bytesOfT Go.Proofs.Try.prog 27 = some 40 := by kernel_rfl
theorem fl27_0 : fldOf Go.Proofs.Try.prog 27 0 = some (0, 17) := by kernel_rfl
theorem fl27_1 : fldOf Go.Proofs.Try.prog 27 1 = some (1, 17) := by kernel_rfl
theorem fl27_2 : fldOf Go.Proofs.Try.prog 27 2 = some (2, 17) := by kernel_rfl
theorem fl27_3 : fldOf Go.Proofs.Try.prog 27 3 = some (3, 9) := by kernel_rfl
theorem pl27 : placesOf Go.Proofs.Try.prog 27 = some #[(0, 1), (1, 1), (2, 1), (3, 1)] := by kernel_rfl
theorem zc27 : zeroCellsD Go.Proofs.Try.prog 27 = some [.i (.s (Value.pointer none)), .i (.s (Value.pointer none)), .i (.s (Value.pointer none)), .i (.s (Value.string { data := #[] }))] := by kernel_rfl
theorem zn27 : (zeroOf Go.Proofs.Try.prog 27).map (·.cells.size) = some 4 := by kernel_rfl
theorem sz28 : szOf Go.Proofs.Try.prog 28 = some 4 := by kernel_rfl
theorem ag28 : aggOf Go.Proofs.Try.prog 28 = some true := by kernel_rfl
theorem by28 : bytesOfT Go.Proofs.Try.prog 28 = some 40 := by kernel_rfl
theorem fl28_0 : fldOf Go.Proofs.Try.prog 28 0 = some (0, 17) := by kernel_rfl
theorem fl28_1 : fldOf Go.Proofs.Try.prog 28 1 = some (1, 17) := by kernel_rfl
theorem fl28_2 : fldOf Go.Proofs.Try.prog 28 2 = some (2, 17) := by kernel_rfl
theorem fl28_3 : fldOf Go.Proofs.Try.prog 28 3 = some (3, 9) := by kernel_rfl
theorem pl28 : placesOf Go.Proofs.Try.prog 28 = some #[(0, 1), (1, 1), (2, 1), (3, 1)] := by kernel_rfl
theorem zc28 : zeroCellsD Go.Proofs.Try.prog 28 = some [.i (.s (Value.pointer none)), .i (.s (Value.pointer none)), .i (.s (Value.pointer none)), .i (.s (Value.string { data := #[] }))] := by kernel_rfl
theorem zn28 : (zeroOf Go.Proofs.Try.prog 28).map (·.cells.size) = some 4 := by kernel_rfl
theorem sz29 : szOf Go.Proofs.Try.prog 29 = some 0 := by kernel_rfl
theorem ag29 : aggOf Go.Proofs.Try.prog 29 = some true := by kernel_rfl
theorem by29 : bytesOfT Go.Proofs.Try.prog 29 = some 0 := by kernel_rfl
theorem un29 : undOf Go.Proofs.Try.prog 29 = some (TypeDesc.array 0 16) := by kernel_rfl
theorem pl29 : placesOf Go.Proofs.Try.prog 29 = none := by kernel_rfl
theorem zc29 : zeroCellsD Go.Proofs.Try.prog 29 = some [] := by kernel_rfl
theorem zn29 : (zeroOf Go.Proofs.Try.prog 29).map (·.cells.size) = some 0 := by kernel_rfl
theorem sz30 : szOf Go.Proofs.Try.prog 30 = some 0 := by kernel_rfl
theorem ag30 : aggOf Go.Proofs.Try.prog 30 = some true := by kernel_rfl
theorem by30 : bytesOfT Go.Proofs.Try.prog 30 = some 0 := by kernel_rfl
theorem fl30_0 : fldOf Go.Proofs.Try.prog 30 0 = some (0, 29) := by kernel_rfl
theorem pl30 : placesOf Go.Proofs.Try.prog 30 = some #[(0, 0)] := by kernel_rfl
theorem zc30 : zeroCellsD Go.Proofs.Try.prog 30 = some [] := by kernel_rfl
theorem zn30 : (zeroOf Go.Proofs.Try.prog 30).map (·.cells.size) = some 0 := by kernel_rfl
theorem sz31 : szOf Go.Proofs.Try.prog 31 = some 0 := by kernel_rfl
theorem ag31 : aggOf Go.Proofs.Try.prog 31 = some true := by kernel_rfl
theorem by31 : bytesOfT Go.Proofs.Try.prog 31 = some 0 := by kernel_rfl
theorem fl31_0 : fldOf Go.Proofs.Try.prog 31 0 = some (0, 29) := by kernel_rfl
theorem pl31 : placesOf Go.Proofs.Try.prog 31 = some #[(0, 0)] := by kernel_rfl
theorem zc31 : zeroCellsD Go.Proofs.Try.prog 31 = some [] := by kernel_rfl
theorem zn31 : (zeroOf Go.Proofs.Try.prog 31).map (·.cells.size) = some 0 := by kernel_rfl
theorem sz32 : szOf Go.Proofs.Try.prog 32 = some 1 := by kernel_rfl
theorem ag32 : aggOf Go.Proofs.Try.prog 32 = some false := by kernel_rfl
theorem by32 : bytesOfT Go.Proofs.Try.prog 32 = some 8 := by kernel_rfl
theorem zc32 : zeroCellsD Go.Proofs.Try.prog 32 = some [.i (.s (Value.nilFunc))] := by kernel_rfl
theorem zn32 : (zeroOf Go.Proofs.Try.prog 32).map (·.cells.size) = some 1 := by kernel_rfl
theorem sz33 : szOf Go.Proofs.Try.prog 33 = some 1 := by kernel_rfl
theorem ag33 : aggOf Go.Proofs.Try.prog 33 = some false := by kernel_rfl
theorem by33 : bytesOfT Go.Proofs.Try.prog 33 = some 4 := by kernel_rfl
theorem un33 : undOf Go.Proofs.Try.prog 33 = some (TypeDesc.int IntKind.u32) := by kernel_rfl
theorem pl33 : placesOf Go.Proofs.Try.prog 33 = none := by kernel_rfl
theorem zc33 : zeroCellsD Go.Proofs.Try.prog 33 = some [.i (.s (Value.int IntKind.u32 0))] := by kernel_rfl
theorem zn33 : (zeroOf Go.Proofs.Try.prog 33).map (·.cells.size) = some 1 := by kernel_rfl
theorem sz34 : szOf Go.Proofs.Try.prog 34 = some 1 := by kernel_rfl
theorem ag34 : aggOf Go.Proofs.Try.prog 34 = some false := by kernel_rfl
theorem by34 : bytesOfT Go.Proofs.Try.prog 34 = some 1 := by kernel_rfl
theorem un34 : undOf Go.Proofs.Try.prog 34 = some (TypeDesc.int IntKind.u8) := by kernel_rfl
theorem pl34 : placesOf Go.Proofs.Try.prog 34 = none := by kernel_rfl
theorem zc34 : zeroCellsD Go.Proofs.Try.prog 34 = some [.i (.s (Value.int IntKind.u8 0))] := by kernel_rfl
theorem zn34 : (zeroOf Go.Proofs.Try.prog 34).map (·.cells.size) = some 1 := by kernel_rfl
theorem sz35 : szOf Go.Proofs.Try.prog 35 = some 1 := by kernel_rfl
theorem ag35 : aggOf Go.Proofs.Try.prog 35 = some false := by kernel_rfl
theorem by35 : bytesOfT Go.Proofs.Try.prog 35 = some 1 := by kernel_rfl
theorem un35 : undOf Go.Proofs.Try.prog 35 = some (TypeDesc.int IntKind.u8) := by kernel_rfl
theorem pl35 : placesOf Go.Proofs.Try.prog 35 = none := by kernel_rfl
theorem zc35 : zeroCellsD Go.Proofs.Try.prog 35 = some [.i (.s (Value.int IntKind.u8 0))] := by kernel_rfl
theorem zn35 : (zeroOf Go.Proofs.Try.prog 35).map (·.cells.size) = some 1 := by kernel_rfl
theorem sz36 : szOf Go.Proofs.Try.prog 36 = some 1 := by kernel_rfl
theorem ag36 : aggOf Go.Proofs.Try.prog 36 = some false := by kernel_rfl
theorem by36 : bytesOfT Go.Proofs.Try.prog 36 = some 8 := by kernel_rfl
theorem zc36 : zeroCellsD Go.Proofs.Try.prog 36 = some [.i (.s (Value.nilFunc))] := by kernel_rfl
theorem zn36 : (zeroOf Go.Proofs.Try.prog 36).map (·.cells.size) = some 1 := by kernel_rfl
theorem sz37 : szOf Go.Proofs.Try.prog 37 = some 1 := by kernel_rfl
theorem ag37 : aggOf Go.Proofs.Try.prog 37 = some false := by kernel_rfl
theorem by37 : bytesOfT Go.Proofs.Try.prog 37 = some 8 := by kernel_rfl
theorem un37 : undOf Go.Proofs.Try.prog 37 = some (TypeDesc.pointer 5) := by kernel_rfl
theorem zc37 : zeroCellsD Go.Proofs.Try.prog 37 = some [.i (.s (Value.pointer none))] := by kernel_rfl
theorem zn37 : (zeroOf Go.Proofs.Try.prog 37).map (·.cells.size) = some 1 := by kernel_rfl
theorem sz38 : szOf Go.Proofs.Try.prog 38 = some 1 := by kernel_rfl
theorem ag38 : aggOf Go.Proofs.Try.prog 38 = some false := by kernel_rfl
theorem by38 : bytesOfT Go.Proofs.Try.prog 38 = some 4 := by kernel_rfl
theorem un38 : undOf Go.Proofs.Try.prog 38 = some (TypeDesc.int IntKind.i32) := by kernel_rfl
theorem pl38 : placesOf Go.Proofs.Try.prog 38 = none := by kernel_rfl
theorem zc38 : zeroCellsD Go.Proofs.Try.prog 38 = some [.i (.s (Value.int IntKind.i32 0))] := by kernel_rfl
theorem zn38 : (zeroOf Go.Proofs.Try.prog 38).map (·.cells.size) = some 1 := by kernel_rfl
theorem sz39 : szOf Go.Proofs.Try.prog 39 = some 1 := by kernel_rfl
theorem ag39 : aggOf Go.Proofs.Try.prog 39 = some false := by kernel_rfl
theorem by39 : bytesOfT Go.Proofs.Try.prog 39 = some 4 := by kernel_rfl
theorem un39 : undOf Go.Proofs.Try.prog 39 = some (TypeDesc.int IntKind.i32) := by kernel_rfl
theorem pl39 : placesOf Go.Proofs.Try.prog 39 = none := by kernel_rfl
theorem zc39 : zeroCellsD Go.Proofs.Try.prog 39 = some [.i (.s (Value.int IntKind.i32 0))] := by kernel_rfl
theorem zn39 : (zeroOf Go.Proofs.Try.prog 39).map (·.cells.size) = some 1 := by kernel_rfl
theorem sz40 : szOf Go.Proofs.Try.prog 40 = some 11 := by kernel_rfl
theorem ag40 : aggOf Go.Proofs.Try.prog 40 = some true := by kernel_rfl
theorem by40 : bytesOfT Go.Proofs.Try.prog 40 = some 48 := by kernel_rfl
theorem fl40_0 : fldOf Go.Proofs.Try.prog 40 0 = some (0, 12) := by kernel_rfl
theorem fl40_1 : fldOf Go.Proofs.Try.prog 40 1 = some (1, 12) := by kernel_rfl
theorem fl40_2 : fldOf Go.Proofs.Try.prog 40 2 = some (2, 33) := by kernel_rfl
theorem fl40_3 : fldOf Go.Proofs.Try.prog 40 3 = some (3, 34) := by kernel_rfl
theorem fl40_4 : fldOf Go.Proofs.Try.prog 40 4 = some (4, 5) := by kernel_rfl
theorem fl40_5 : fldOf Go.Proofs.Try.prog 40 5 = some (5, 5) := by kernel_rfl
theorem fl40_6 : fldOf Go.Proofs.Try.prog 40 6 = some (6, 35) := by kernel_rfl
theorem fl40_7 : fldOf Go.Proofs.Try.prog 40 7 = some (7, 36) := by kernel_rfl
theorem fl40_8 : fldOf Go.Proofs.Try.prog 40 8 = some (8, 37) := by kernel_rfl
theorem fl40_9 : fldOf Go.Proofs.Try.prog 40 9 = some (9, 38) := by kernel_rfl
theorem fl40_10 : fldOf Go.Proofs.Try.prog 40 10 = some (10, 39) := by kernel_rfl
theorem pl40 : placesOf Go.Proofs.Try.prog 40 = some #[(0, 1), (1, 1), (2, 1), (3, 1), (4, 1), (5, 1), (6, 1), (7, 1), (8, 1), (9, 1), (10, 1)] := by kernel_rfl
theorem zc40 : zeroCellsD Go.Proofs.Try.prog 40 = some [.i (.s (Value.int IntKind.u64 0)), .i (.s (Value.int IntKind.u64 0)), .i (.s (Value.int IntKind.u32 0)), .i (.s (Value.int IntKind.u8 0)), .i (.s (Value.int IntKind.u8 0)), .i (.s (Value.int IntKind.u8 0)), .i (.s (Value.int IntKind.u8 0)), .i (.s (Value.nilFunc)), .i (.s (Value.pointer none)), .i (.s (Value.int IntKind.i32 0)), .i (.s (Value.int IntKind.i32 0))] := by kernel_rfl
theorem zn40 : (zeroOf Go.Proofs.Try.prog 40).map (·.cells.size) = some 11 := by kernel_rfl
theorem sz41 : szOf Go.Proofs.Try.prog 41 = some 11 := by kernel_rfl
theorem ag41 : aggOf Go.Proofs.Try.prog 41 = some true := by kernel_rfl
theorem by41 : bytesOfT Go.Proofs.Try.prog 41 = some 48 := by kernel_rfl
theorem fl41_0 : fldOf Go.Proofs.Try.prog 41 0 = some (0, 12) := by kernel_rfl
theorem fl41_1 : fldOf Go.Proofs.Try.prog 41 1 = some (1, 12) := by kernel_rfl
theorem fl41_2 : fldOf Go.Proofs.Try.prog 41 2 = some (2, 33) := by kernel_rfl
theorem fl41_3 : fldOf Go.Proofs.Try.prog 41 3 = some (3, 34) := by kernel_rfl
theorem fl41_4 : fldOf Go.Proofs.Try.prog 41 4 = some (4, 5) := by kernel_rfl
theorem fl41_5 : fldOf Go.Proofs.Try.prog 41 5 = some (5, 5) := by kernel_rfl
theorem fl41_6 : fldOf Go.Proofs.Try.prog 41 6 = some (6, 35) := by kernel_rfl
theorem fl41_7 : fldOf Go.Proofs.Try.prog 41 7 = some (7, 36) := by kernel_rfl
theorem fl41_8 : fldOf Go.Proofs.Try.prog 41 8 = some (8, 37) := by kernel_rfl
theorem fl41_9 : fldOf Go.Proofs.Try.prog 41 9 = some (9, 38) := by kernel_rfl
theorem fl41_10 : fldOf Go.Proofs.Try.prog 41 10 = some (10, 39) := by kernel_rfl
theorem pl41 : placesOf Go.Proofs.Try.prog 41 = some #[(0, 1), (1, 1), (2, 1), (3, 1), (4, 1), (5, 1), (6, 1), (7, 1), (8, 1), (9, 1), (10, 1)] := by kernel_rfl
theorem zc41 : zeroCellsD Go.Proofs.Try.prog 41 = some [.i (.s (Value.int IntKind.u64 0)), .i (.s (Value.int IntKind.u64 0)), .i (.s (Value.int IntKind.u32 0)), .i (.s (Value.int IntKind.u8 0)), .i (.s (Value.int IntKind.u8 0)), .i (.s (Value.int IntKind.u8 0)), .i (.s (Value.int IntKind.u8 0)), .i (.s (Value.nilFunc)), .i (.s (Value.pointer none)), .i (.s (Value.int IntKind.i32 0)), .i (.s (Value.int IntKind.i32 0))] := by kernel_rfl
theorem zn41 : (zeroOf Go.Proofs.Try.prog 41).map (·.cells.size) = some 11 := by kernel_rfl
theorem sz42 : szOf Go.Proofs.Try.prog 42 = some 1 := by kernel_rfl
theorem ag42 : aggOf Go.Proofs.Try.prog 42 = some false := by kernel_rfl
theorem by42 : bytesOfT Go.Proofs.Try.prog 42 = some 8 := by kernel_rfl
theorem zc42 : zeroCellsD Go.Proofs.Try.prog 42 = some [.i (.s (Value.pointer none))] := by kernel_rfl
theorem zn42 : (zeroOf Go.Proofs.Try.prog 42).map (·.cells.size) = some 1 := by kernel_rfl
theorem sh2 : TySh Go.Proofs.Try.prog 2 [.int .i64] := .int Go.Proofs.Try.underlying2
theorem sh3 : TySh Go.Proofs.Try.prog 3 [.int .i64] := .int Go.Proofs.Try.underlying3
theorem sh4 : TySh Go.Proofs.Try.prog 4 [.bool] := .bool Go.Proofs.Try.underlying4
theorem sh5 : TySh Go.Proofs.Try.prog 5 [.int .u8] := .int Go.Proofs.Try.underlying5
theorem sh6 : TySh Go.Proofs.Try.prog 6 [.int .u8] := .int Go.Proofs.Try.underlying6
theorem sh7 : TySh Go.Proofs.Try.prog 7 [.int .i64, .int .i64, .bool, .int .u8] := struct_of [[.int .i64], [.int .i64], [.bool], [.int .u8]] _ Go.Proofs.Try.underlying7 rfl (by kernel_rfl) (And.intro sh2 (And.intro (by kernel_rfl) (And.intro rfl (And.intro sh3 (And.intro (by kernel_rfl) (And.intro rfl (And.intro sh4 (And.intro (by kernel_rfl) (And.intro rfl (And.intro sh6 (And.intro (by kernel_rfl) (And.intro rfl (trivial)))))))))))))
theorem sh8 : TySh Go.Proofs.Try.prog 8 [.int .i64, .int .i64, .bool, .int .u8] := struct_of [[.int .i64], [.int .i64], [.bool], [.int .u8]] _ Go.Proofs.Try.underlying8 rfl (by kernel_rfl) (And.intro sh2 (And.intro (by kernel_rfl) (And.intro rfl (And.intro sh3 (And.intro (by kernel_rfl) (And.intro rfl (And.intro sh4 (And.intro (by kernel_rfl) (And.intro rfl (And.intro sh6 (And.intro (by kernel_rfl) (And.intro rfl (trivial)))))))))))))
theorem sh9 : TySh Go.Proofs.Try.prog 9 [.str] := .str Go.Proofs.Try.underlying9
theorem sh10 : TySh Go.Proofs.Try.prog 10 [.str] := .str Go.Proofs.Try.underlying10
theorem sh11 : TySh Go.Proofs.Try.prog 11 [.str] := .str Go.Proofs.Try.underlying11
theorem sh12 : TySh Go.Proofs.Try.prog 12 [.int .u64] := .int Go.Proofs.Try.underlying12
theorem sh13 : TySh Go.Proofs.Try.prog 13 [.str, .int .u64] := struct_of [[.str], [.int .u64]] _ Go.Proofs.Try.underlying13 rfl (by kernel_rfl) (And.intro sh9 (And.intro (by kernel_rfl) (And.intro rfl (And.intro sh12 (And.intro (by kernel_rfl) (And.intro rfl (trivial)))))))
theorem sh14 : TySh Go.Proofs.Try.prog 14 [.str, .int .u64] := struct_of [[.str], [.int .u64]] _ Go.Proofs.Try.underlying14 rfl (by kernel_rfl) (And.intro sh9 (And.intro (by kernel_rfl) (And.intro rfl (And.intro sh12 (And.intro (by kernel_rfl) (And.intro rfl (trivial)))))))
theorem sh21 : TySh Go.Proofs.Try.prog 21 [.int .i32] := .int Go.Proofs.Try.underlying21
theorem sh22 : TySh Go.Proofs.Try.prog 22 [.int .i64] := .int Go.Proofs.Try.underlying22
theorem sh23 : TySh Go.Proofs.Try.prog 23 [.sl [.int .i64]] := .sl Go.Proofs.Try.underlying23 sh22 (by kernel_rfl) (by decide)
theorem sh24 : TySh Go.Proofs.Try.prog 24 [.sl [.int .i64]] := .sl Go.Proofs.Try.underlying24 sh3 (by kernel_rfl) (by decide)
theorem sh33 : TySh Go.Proofs.Try.prog 33 [.int .u32] := .int Go.Proofs.Try.underlying33
theorem sh34 : TySh Go.Proofs.Try.prog 34 [.int .u8] := .int Go.Proofs.Try.underlying34
theorem sh35 : TySh Go.Proofs.Try.prog 35 [.int .u8] := .int Go.Proofs.Try.underlying35
theorem sh38 : TySh Go.Proofs.Try.prog 38 [.int .i32] := .int Go.Proofs.Try.underlying38
theorem sh39 : TySh Go.Proofs.Try.prog 39 [.int .i32] := .int Go.Proofs.Try.underlying39
theorem T0 : (type_of% @sz0) ∧ (type_of% @ag0) ∧ (type_of% @by0) := ⟨@sz0, @ag0, @by0⟩
theorem T1 : (type_of% @sz1) ∧ (type_of% @ag1) ∧ (type_of% @by1) ∧ (type_of% @zc1) ∧ (type_of% @zn1) := ⟨@sz1, @ag1, @by1, @zc1, @zn1⟩
theorem T2 : (type_of% @sz2) ∧ (type_of% @ag2) ∧ (type_of% @by2) ∧ (type_of% @un2) ∧ (type_of% @pl2) ∧ (type_of% @zc2) ∧ (type_of% @zn2) := ⟨@sz2, @ag2, @by2, @un2, @pl2, @zc2, @zn2⟩
theorem T3 : (type_of% @sz3) ∧ (type_of% @ag3) ∧ (type_of% @by3) ∧ (type_of% @un3) ∧ (type_of% @pl3) ∧ (type_of% @zc3) ∧ (type_of% @zn3) := ⟨@sz3, @ag3, @by3, @un3, @pl3, @zc3, @zn3⟩
theorem T4 : (type_of% @sz4) ∧ (type_of% @ag4) ∧ (type_of% @by4) ∧ (type_of% @un4) ∧ (type_of% @pl4) ∧ (type_of% @zc4) ∧ (type_of% @zn4) := ⟨@sz4, @ag4, @by4, @un4, @pl4, @zc4, @zn4⟩
theorem T5 : (type_of% @sz5) ∧ (type_of% @ag5) ∧ (type_of% @by5) ∧ (type_of% @un5) ∧ (type_of% @pl5) ∧ (type_of% @zc5) ∧ (type_of% @zn5) := ⟨@sz5, @ag5, @by5, @un5, @pl5, @zc5, @zn5⟩
theorem T6 : (type_of% @sz6) ∧ (type_of% @ag6) ∧ (type_of% @by6) ∧ (type_of% @un6) ∧ (type_of% @pl6) ∧ (type_of% @zc6) ∧ (type_of% @zn6) := ⟨@sz6, @ag6, @by6, @un6, @pl6, @zc6, @zn6⟩
theorem T7 : (type_of% @sz7) ∧ (type_of% @ag7) ∧ (type_of% @by7) ∧ (type_of% @fl7_0) ∧ (type_of% @fl7_1) ∧ (type_of% @fl7_2) ∧ (type_of% @fl7_3) ∧ (type_of% @pl7) ∧ (type_of% @zc7) ∧ (type_of% @zn7) := ⟨@sz7, @ag7, @by7, @fl7_0, @fl7_1, @fl7_2, @fl7_3, @pl7, @zc7, @zn7⟩
theorem T8 : (type_of% @sz8) ∧ (type_of% @ag8) ∧ (type_of% @by8) ∧ (type_of% @fl8_0) ∧ (type_of% @fl8_1) ∧ (type_of% @fl8_2) ∧ (type_of% @fl8_3) ∧ (type_of% @pl8) ∧ (type_of% @zc8) ∧ (type_of% @zn8) := ⟨@sz8, @ag8, @by8, @fl8_0, @fl8_1, @fl8_2, @fl8_3, @pl8, @zc8, @zn8⟩
theorem T9 : (type_of% @sz9) ∧ (type_of% @ag9) ∧ (type_of% @by9) ∧ (type_of% @un9) ∧ (type_of% @pl9) ∧ (type_of% @zc9) ∧ (type_of% @zn9) := ⟨@sz9, @ag9, @by9, @un9, @pl9, @zc9, @zn9⟩
theorem T10 : (type_of% @sz10) ∧ (type_of% @ag10) ∧ (type_of% @by10) ∧ (type_of% @un10) ∧ (type_of% @pl10) ∧ (type_of% @zc10) ∧ (type_of% @zn10) := ⟨@sz10, @ag10, @by10, @un10, @pl10, @zc10, @zn10⟩
theorem T11 : (type_of% @sz11) ∧ (type_of% @ag11) ∧ (type_of% @by11) ∧ (type_of% @un11) ∧ (type_of% @pl11) ∧ (type_of% @zc11) ∧ (type_of% @zn11) := ⟨@sz11, @ag11, @by11, @un11, @pl11, @zc11, @zn11⟩
theorem T12 : (type_of% @sz12) ∧ (type_of% @ag12) ∧ (type_of% @by12) ∧ (type_of% @un12) ∧ (type_of% @pl12) ∧ (type_of% @zc12) ∧ (type_of% @zn12) := ⟨@sz12, @ag12, @by12, @un12, @pl12, @zc12, @zn12⟩
theorem T13 : (type_of% @sz13) ∧ (type_of% @ag13) ∧ (type_of% @by13) ∧ (type_of% @fl13_0) ∧ (type_of% @fl13_1) ∧ (type_of% @pl13) ∧ (type_of% @zc13) ∧ (type_of% @zn13) := ⟨@sz13, @ag13, @by13, @fl13_0, @fl13_1, @pl13, @zc13, @zn13⟩
theorem T14 : (type_of% @sz14) ∧ (type_of% @ag14) ∧ (type_of% @by14) ∧ (type_of% @fl14_0) ∧ (type_of% @fl14_1) ∧ (type_of% @pl14) ∧ (type_of% @zc14) ∧ (type_of% @zn14) := ⟨@sz14, @ag14, @by14, @fl14_0, @fl14_1, @pl14, @zc14, @zn14⟩
theorem T15 : (type_of% @sz15) ∧ (type_of% @ag15) ∧ (type_of% @by15) ∧ (type_of% @un15) ∧ (type_of% @zc15) ∧ (type_of% @zn15) := ⟨@sz15, @ag15, @by15, @un15, @zc15, @zn15⟩
theorem T16 : (type_of% @sz16) ∧ (type_of% @ag16) ∧ (type_of% @by16) ∧ (type_of% @un16) ∧ (type_of% @zc16) ∧ (type_of% @zn16) := ⟨@sz16, @ag16, @by16, @un16, @zc16, @zn16⟩
theorem T17 : (type_of% @sz17) ∧ (type_of% @ag17) ∧ (type_of% @by17) ∧ (type_of% @un17) ∧ (type_of% @zc17) ∧ (type_of% @zn17) := ⟨@sz17, @ag17, @by17, @un17, @zc17, @zn17⟩
theorem T18 : (type_of% @sz18) ∧ (type_of% @ag18) ∧ (type_of% @by18) ∧ (type_of% @fl18_0) ∧ (type_of% @pl18) ∧ (type_of% @zc18) ∧ (type_of% @zn18) := ⟨@sz18, @ag18, @by18, @fl18_0, @pl18, @zc18, @zn18⟩
theorem T19 : (type_of% @sz19) ∧ (type_of% @ag19) ∧ (type_of% @by19) ∧ (type_of% @fl19_0) ∧ (type_of% @pl19) ∧ (type_of% @zc19) ∧ (type_of% @zn19) := ⟨@sz19, @ag19, @by19, @fl19_0, @pl19, @zc19, @zn19⟩
theorem T20 : (type_of% @sz20) ∧ (type_of% @ag20) ∧ (type_of% @by20) ∧ (type_of% @zc20) ∧ (type_of% @zn20) := ⟨@sz20, @ag20, @by20, @zc20, @zn20⟩
theorem T21 : (type_of% @sz21) ∧ (type_of% @ag21) ∧ (type_of% @by21) ∧ (type_of% @un21) ∧ (type_of% @pl21) ∧ (type_of% @zc21) ∧ (type_of% @zn21) := ⟨@sz21, @ag21, @by21, @un21, @pl21, @zc21, @zn21⟩
theorem T22 : (type_of% @sz22) ∧ (type_of% @ag22) ∧ (type_of% @by22) ∧ (type_of% @un22) ∧ (type_of% @pl22) ∧ (type_of% @zc22) ∧ (type_of% @zn22) := ⟨@sz22, @ag22, @by22, @un22, @pl22, @zc22, @zn22⟩
theorem T23 : (type_of% @sz23) ∧ (type_of% @ag23) ∧ (type_of% @by23) ∧ (type_of% @un23) ∧ (type_of% @pl23) ∧ (type_of% @zc23) ∧ (type_of% @zn23) := ⟨@sz23, @ag23, @by23, @un23, @pl23, @zc23, @zn23⟩
theorem T24 : (type_of% @sz24) ∧ (type_of% @ag24) ∧ (type_of% @by24) ∧ (type_of% @un24) ∧ (type_of% @pl24) ∧ (type_of% @zc24) ∧ (type_of% @zn24) := ⟨@sz24, @ag24, @by24, @un24, @pl24, @zc24, @zn24⟩
theorem T25 : (type_of% @sz25) ∧ (type_of% @ag25) ∧ (type_of% @by25) ∧ (type_of% @zc25) ∧ (type_of% @zn25) := ⟨@sz25, @ag25, @by25, @zc25, @zn25⟩
theorem T26 : (type_of% @sz26) ∧ (type_of% @ag26) ∧ (type_of% @by26) ∧ (type_of% @zc26) ∧ (type_of% @zn26) := ⟨@sz26, @ag26, @by26, @zc26, @zn26⟩
theorem T27 : (type_of% @sz27) ∧ (type_of% @ag27) ∧ (type_of% @by27) ∧ (type_of% @fl27_0) ∧ (type_of% @fl27_1) ∧ (type_of% @fl27_2) ∧ (type_of% @fl27_3) ∧ (type_of% @pl27) ∧ (type_of% @zc27) ∧ (type_of% @zn27) := ⟨@sz27, @ag27, @by27, @fl27_0, @fl27_1, @fl27_2, @fl27_3, @pl27, @zc27, @zn27⟩
theorem T28 : (type_of% @sz28) ∧ (type_of% @ag28) ∧ (type_of% @by28) ∧ (type_of% @fl28_0) ∧ (type_of% @fl28_1) ∧ (type_of% @fl28_2) ∧ (type_of% @fl28_3) ∧ (type_of% @pl28) ∧ (type_of% @zc28) ∧ (type_of% @zn28) := ⟨@sz28, @ag28, @by28, @fl28_0, @fl28_1, @fl28_2, @fl28_3, @pl28, @zc28, @zn28⟩
theorem T29 : (type_of% @sz29) ∧ (type_of% @ag29) ∧ (type_of% @by29) ∧ (type_of% @un29) ∧ (type_of% @pl29) ∧ (type_of% @zc29) ∧ (type_of% @zn29) := ⟨@sz29, @ag29, @by29, @un29, @pl29, @zc29, @zn29⟩
theorem T30 : (type_of% @sz30) ∧ (type_of% @ag30) ∧ (type_of% @by30) ∧ (type_of% @fl30_0) ∧ (type_of% @pl30) ∧ (type_of% @zc30) ∧ (type_of% @zn30) := ⟨@sz30, @ag30, @by30, @fl30_0, @pl30, @zc30, @zn30⟩
theorem T31 : (type_of% @sz31) ∧ (type_of% @ag31) ∧ (type_of% @by31) ∧ (type_of% @fl31_0) ∧ (type_of% @pl31) ∧ (type_of% @zc31) ∧ (type_of% @zn31) := ⟨@sz31, @ag31, @by31, @fl31_0, @pl31, @zc31, @zn31⟩
theorem T32 : (type_of% @sz32) ∧ (type_of% @ag32) ∧ (type_of% @by32) ∧ (type_of% @zc32) ∧ (type_of% @zn32) := ⟨@sz32, @ag32, @by32, @zc32, @zn32⟩
theorem T33 : (type_of% @sz33) ∧ (type_of% @ag33) ∧ (type_of% @by33) ∧ (type_of% @un33) ∧ (type_of% @pl33) ∧ (type_of% @zc33) ∧ (type_of% @zn33) := ⟨@sz33, @ag33, @by33, @un33, @pl33, @zc33, @zn33⟩
theorem T34 : (type_of% @sz34) ∧ (type_of% @ag34) ∧ (type_of% @by34) ∧ (type_of% @un34) ∧ (type_of% @pl34) ∧ (type_of% @zc34) ∧ (type_of% @zn34) := ⟨@sz34, @ag34, @by34, @un34, @pl34, @zc34, @zn34⟩
theorem T35 : (type_of% @sz35) ∧ (type_of% @ag35) ∧ (type_of% @by35) ∧ (type_of% @un35) ∧ (type_of% @pl35) ∧ (type_of% @zc35) ∧ (type_of% @zn35) := ⟨@sz35, @ag35, @by35, @un35, @pl35, @zc35, @zn35⟩
theorem T36 : (type_of% @sz36) ∧ (type_of% @ag36) ∧ (type_of% @by36) ∧ (type_of% @zc36) ∧ (type_of% @zn36) := ⟨@sz36, @ag36, @by36, @zc36, @zn36⟩
theorem T37 : (type_of% @sz37) ∧ (type_of% @ag37) ∧ (type_of% @by37) ∧ (type_of% @un37) ∧ (type_of% @zc37) ∧ (type_of% @zn37) := ⟨@sz37, @ag37, @by37, @un37, @zc37, @zn37⟩
theorem T38 : (type_of% @sz38) ∧ (type_of% @ag38) ∧ (type_of% @by38) ∧ (type_of% @un38) ∧ (type_of% @pl38) ∧ (type_of% @zc38) ∧ (type_of% @zn38) := ⟨@sz38, @ag38, @by38, @un38, @pl38, @zc38, @zn38⟩
theorem T39 : (type_of% @sz39) ∧ (type_of% @ag39) ∧ (type_of% @by39) ∧ (type_of% @un39) ∧ (type_of% @pl39) ∧ (type_of% @zc39) ∧ (type_of% @zn39) := ⟨@sz39, @ag39, @by39, @un39, @pl39, @zc39, @zn39⟩
theorem T40 : (type_of% @sz40) ∧ (type_of% @ag40) ∧ (type_of% @by40) ∧ (type_of% @fl40_0) ∧ (type_of% @fl40_1) ∧ (type_of% @fl40_2) ∧ (type_of% @fl40_3) ∧ (type_of% @fl40_4) ∧ (type_of% @fl40_5) ∧ (type_of% @fl40_6) ∧ (type_of% @fl40_7) ∧ (type_of% @fl40_8) ∧ (type_of% @fl40_9) ∧ (type_of% @fl40_10) ∧ (type_of% @pl40) ∧ (type_of% @zc40) ∧ (type_of% @zn40) := ⟨@sz40, @ag40, @by40, @fl40_0, @fl40_1, @fl40_2, @fl40_3, @fl40_4, @fl40_5, @fl40_6, @fl40_7, @fl40_8, @fl40_9, @fl40_10, @pl40, @zc40, @zn40⟩
theorem T41 : (type_of% @sz41) ∧ (type_of% @ag41) ∧ (type_of% @by41) ∧ (type_of% @fl41_0) ∧ (type_of% @fl41_1) ∧ (type_of% @fl41_2) ∧ (type_of% @fl41_3) ∧ (type_of% @fl41_4) ∧ (type_of% @fl41_5) ∧ (type_of% @fl41_6) ∧ (type_of% @fl41_7) ∧ (type_of% @fl41_8) ∧ (type_of% @fl41_9) ∧ (type_of% @fl41_10) ∧ (type_of% @pl41) ∧ (type_of% @zc41) ∧ (type_of% @zn41) := ⟨@sz41, @ag41, @by41, @fl41_0, @fl41_1, @fl41_2, @fl41_3, @fl41_4, @fl41_5, @fl41_6, @fl41_7, @fl41_8, @fl41_9, @fl41_10, @pl41, @zc41, @zn41⟩
theorem T42 : (type_of% @sz42) ∧ (type_of% @ag42) ∧ (type_of% @by42) ∧ (type_of% @zc42) ∧ (type_of% @zn42) := ⟨@sz42, @ag42, @by42, @zc42, @zn42⟩
end Go.Proofs.Ytjobfnpbahdolaa.Ty
