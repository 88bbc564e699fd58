/- What the abstract walk asks of the types of this seat. Written by a program. -/
import Derived.Test.YtfenipelcpmkpaaGreatDoorAbs4
set_option linter.all false
namespace Go.Proofs.YtfenipelcpmkpaaGreatDoor.Ty
open Go Go.Abs Go.Proofs
open Go.Proofs.Tryz (prog)
theorem mk {p:Prop} (h:p:=by and_intros <;> (show _=_; kernel_rfl)):p:=h
abbrev Sc (t b:Nat) (u:TypeDesc) (z:Value):=gZ prog t=some 1/\nY prog t=some false/\gP prog t=some b/\aC prog t=some u/\aX prog t=none/\aI prog t=some [.i (.s z)]/\zSz prog t=some 1
abbrev Sl (t e:Nat):=Sc t 24 (.slice e) (.slice none 0 0)
abbrev In (t b:Nat) (k:IntKind):=Sc t b (.int k) (.int k 0)
abbrev Gt (t n b:Nat):=gZ prog t=some n/\nY prog t=some true/\gP prog t=some b
abbrev Gf (t n b:Nat):=gZ prog t=some n/\nY prog t=some false/\gP prog t=some b
abbrev Fd (t i o y:Nat):=DY prog t i=some (o,y)
abbrev Z1 (t:Nat) (a0:Value):=aI prog t=some [.i (.s a0)]
abbrev Z2 (t:Nat) (a0 a1:Value):=aI prog t=some [.i (.s a0),.i (.s a1)]
abbrev Z3 (t:Nat) (a0 a1 a2:Value):=aI prog t=some [.i (.s a0),.i (.s a1),.i (.s a2)]
abbrev Z4 (t:Nat) (a0 a1 a2 a3:Value):=aI prog t=some [.i (.s a0),.i (.s a1),.i (.s a2),.i (.s a3)]
abbrev Z5 (t:Nat) (a0 a1 a2 a3 a4:Value):=aI prog t=some [.i (.s a0),.i (.s a1),.i (.s a2),.i (.s a3),.i (.s a4)]
abbrev Z6 (t:Nat) (a0 a1 a2 a3 a4 a5:Value):=aI prog t=some [.i (.s a0),.i (.s a1),.i (.s a2),.i (.s a3),.i (.s a4),.i (.s a5)]
abbrev Z7 (t:Nat) (a0 a1 a2 a3 a4 a5 a6:Value):=aI prog t=some [.i (.s a0),.i (.s a1),.i (.s a2),.i (.s a3),.i (.s a4),.i (.s a5),.i (.s a6)]
abbrev Z8 (t:Nat) (a0 a1 a2 a3 a4 a5 a6 a7:Value):=aI prog t=some [.i (.s a0),.i (.s a1),.i (.s a2),.i (.s a3),.i (.s a4),.i (.s a5),.i (.s a6),.i (.s a7)]
abbrev Z10 (t:Nat) (a0 a1 a2 a3 a4 a5 a6 a7 a8 a9:Value):=aI prog t=some [.i (.s a0),.i (.s a1),.i (.s a2),.i (.s a3),.i (.s a4),.i (.s a5),.i (.s a6),.i (.s a7),.i (.s a8),.i (.s a9)]
abbrev Z12 (t:Nat) (a0 a1 a2 a3 a4 a5 a6 a7 a8 a9 a10 a11:Value):=aI prog t=some [.i (.s a0),.i (.s a1),.i (.s a2),.i (.s a3),.i (.s a4),.i (.s a5),.i (.s a6),.i (.s a7),.i (.s a8),.i (.s a9),.i (.s a10),.i (.s a11)]
@[go_sem] theorem mixed:(prog).follows .mixedOrders=true:=by kernel_rfl
@[go_sem] theorem T0:Gf 0 1 0:=mk
@[go_sem] theorem T1:Gf 1 1 8/\Z1 1 (.nilFunc)/\zSz prog 1=some 1:=mk
@[go_sem] theorem T2:In 2 8 .i64:=mk
@[go_sem] theorem T3:In 3 8 .i64:=mk
theorem un3:type_of% T3.2.2.2.1:=T3.2.2.2.1
@[go_sem] theorem T4:Sc 4 1 (.bool) (.bool false):=mk
theorem un4:type_of% T4.2.2.2.1:=T4.2.2.2.1
@[go_sem] theorem T5:In 5 1 .u8:=mk
theorem un5:type_of% T5.2.2.2.1:=T5.2.2.2.1
@[go_sem] theorem T6:In 6 1 .u8:=mk
@[go_sem] theorem T9:Sc 9 16 (.string) (.string { data:=#[] }):=mk
theorem un9:type_of% T9.2.2.2.1:=T9.2.2.2.1
@[go_sem] theorem T22:Sl 22 37:=mk
theorem ab_:type_of% T22.2.2.2.1:=T22.2.2.2.1
@[go_sem] theorem T23:Sl 23 102:=mk
theorem abZ:type_of% T23.2.2.2.1:=T23.2.2.2.1
@[go_sem] theorem T24:Sl 24 104:=mk
theorem abY:type_of% T24.2.2.2.1:=T24.2.2.2.1
@[go_sem] theorem T25:Sl 25 120:=mk
theorem abX:type_of% T25.2.2.2.1:=T25.2.2.2.1
@[go_sem] theorem T26:Sl 26 162:=mk
theorem abW:type_of% T26.2.2.2.1:=T26.2.2.2.1
@[go_sem] theorem T29:Sl 29 5:=mk
theorem abV:type_of% T29.2.2.2.1:=T29.2.2.2.1
@[go_sem] theorem T31:Sl 31 41:=mk
@[go_sem] theorem T32:In 32 8 .i64:=mk
theorem acB:type_of% T32.2.2.2.1:=T32.2.2.2.1
@[go_sem] theorem T35:Sl 35 72:=mk
theorem acA:type_of% T35.2.2.2.1:=T35.2.2.2.1
@[go_sem] theorem T42:Sl 42 29:=mk
@[go_sem] theorem T54:In 54 8 .u64:=mk
theorem SI:type_of% T54.2.2.2.1:=T54.2.2.2.1
@[go_sem] theorem T55:Sl 55 93:=mk
@[go_sem] theorem T65:Sl 65 86:=mk
@[go_sem] theorem T75:Sl 75 129:=mk
@[go_sem] theorem T76:Sl 76 200:=mk
@[go_sem] theorem adp:Sl 108 28:=mk
@[go_sem] theorem ado:Sl 118 25:=mk
@[go_sem] theorem adm:Sl 122 9:=mk
@[go_sem] theorem adk:Gf 149 1 8/\aC prog 149=some (.pointer 158)/\Z1 149 (.pointer none)/\zSz prog 149=some 1:=mk
@[go_sem] theorem adj:Gt 151 2 16/\aC prog 151=some (.array 2 149)/\aX prog 151=none/\Z2 151 (.pointer none) (.pointer none)/\zSz prog 151=some 2:=mk
@[go_sem] theorem adi:Sl 156 225:=mk
@[go_sem] theorem adf:Gt 170 2 16/\aC prog 170=some (.array 2 3)/\aX prog 170=none/\Z2 170 (.int .i64 0) (.int .i64 0)/\zSz prog 170=some 2:=mk
@[go_sem] theorem adc:Sl 171 170:=mk
@[go_sem] theorem ada:In 187 8 .u64:=mk
@[go_sem] theorem ac_:Sl 189 183:=mk
@[go_sem] theorem acY:Gf 202 1 8/\aC prog 202=some (.pointer 80)/\Z1 202 (.pointer none)/\zSz prog 202=some 1:=mk
@[go_sem] theorem acX:Gf 208 1 8/\Z1 208 (.nilFunc)/\zSz prog 208=some 1:=mk
@[go_sem] theorem acW:Gf 213 1 8/\aC prog 213=some (.pointer 44)/\Z1 213 (.pointer none)/\zSz prog 213=some 1:=mk
@[go_sem] theorem acU:Gf 235 1 8/\Z1 235 (.nilFunc)/\zSz prog 235=some 1:=mk
@[go_sem] theorem acT:Sl 237 3:=mk
@[go_sem] theorem acS:Gf 272 1 8/\aC prog 272=some (.pointer 25)/\Z1 272 (.pointer none)/\zSz prog 272=some 1:=mk
@[go_sem] theorem acR:Sl 273 272:=mk
@[go_sem] theorem acQ:Gf 341 1 16/\Z1 341 (.nilIface)/\zSz prog 341=some 1:=mk
@[go_sem] theorem acP:Sl 346 202:=mk
@[go_sem] theorem acO:Gf 384 1 8/\aC prog 384=some (.pointer 386)/\Z1 384 (.pointer none)/\zSz prog 384=some 1:=mk
theorem sh2:TySh prog 2 [.int .i64]:=.int Go.Proofs.Tryz.underlying2
theorem sh3:TySh prog 3 [.int .i64]:=.int Go.Proofs.Tryz.underlying3
theorem sh4:TySh prog 4 [.bool]:=.bool Go.Proofs.Tryz.underlying4
theorem acz:aC prog 61=some (TypeDesc.struct #[{ name:= "Denom",type:=9,offset:=0,embedded:=false,tag:= "",pkgPath:= "",byteOffset:=0 },{ name:= "Amount",type:=54,offset:=1,embedded:=false,tag:= "",pkgPath:= "",byteOffset:=16 },{ name:= "Sender",type:=9,offset:=2,embedded:=false,tag:= "",pkgPath:= "",byteOffset:=24 },{ name:= "Reader",type:=9,offset:=3,embedded:=false,tag:= "",pkgPath:= "",byteOffset:=40 }]):=by kernel_rfl
theorem aaO:aC prog 102=some (TypeDesc.struct #[{ name:= "State",type:=3,offset:=0,embedded:=false,tag:= "",pkgPath:= "",byteOffset:=0 },{ name:= "Client",type:=3,offset:=1,embedded:=false,tag:= "",pkgPath:= "",byteOffset:=8 },{ name:= "OtherClient",type:=3,offset:=2,embedded:=false,tag:= "",pkgPath:= "",byteOffset:=16 },{ name:= "OtherConn",type:=3,offset:=3,embedded:=false,tag:= "",pkgPath:= "",byteOffset:=24 }]):=by kernel_rfl
theorem aaN:aC prog 104=some (TypeDesc.struct #[{ name:= "State",type:=3,offset:=0,embedded:=false,tag:= "",pkgPath:= "",byteOffset:=0 },{ name:= "Ordered",type:=4,offset:=1,embedded:=false,tag:= "",pkgPath:= "",byteOffset:=8 },{ name:= "Conn",type:=3,offset:=2,embedded:=false,tag:= "",pkgPath:= "",byteOffset:=16 },{ name:= "OtherChan",type:=3,offset:=3,embedded:=false,tag:= "",pkgPath:= "",byteOffset:=24 },{ name:= "Send",type:=3,offset:=4,embedded:=false,tag:= "",pkgPath:= "",byteOffset:=32 },{ name:= "Recv",type:=3,offset:=5,embedded:=false,tag:= "",pkgPath:= "",byteOffset:=40 },{ name:= "Ack",type:=3,offset:=6,embedded:=false,tag:= "",pkgPath:= "",byteOffset:=48 }]):=by kernel_rfl
theorem aaM:aC prog 129=some (TypeDesc.struct #[{ name:= "Key",type:=54,offset:=0,embedded:=false,tag:= "",pkgPath:= "",byteOffset:=0 },{ name:= "Power",type:=54,offset:=1,embedded:=false,tag:= "",pkgPath:= "",byteOffset:=8 }]):=by kernel_rfl
theorem aaL:aC prog 137=some (TypeDesc.struct #[{ name:= "Err",type:=32,offset:=0,embedded:=false,tag:= "",pkgPath:= "",byteOffset:=0 },{ name:= "At",type:=3,offset:=1,embedded:=false,tag:= "",pkgPath:= "",byteOffset:=8 }]):=by kernel_rfl
theorem aaK:aC prog 162=some (TypeDesc.struct #[{ name:= "Owner",type:=9,offset:=0,embedded:=false,tag:= "",pkgPath:= "",byteOffset:=0 },{ name:= "Denom",type:=9,offset:=1,embedded:=false,tag:= "",pkgPath:= "",byteOffset:=16 },{ name:= "Amount",type:=54,offset:=2,embedded:=false,tag:= "",pkgPath:= "",byteOffset:=32 }]):=by kernel_rfl
theorem XI:aC prog 196=some (TypeDesc.struct #[{ name:= "R",type:=54,offset:=0,embedded:=false,tag:= "",pkgPath:= "",byteOffset:=0 },{ name:= "S",type:=54,offset:=1,embedded:=false,tag:= "",pkgPath:= "",byteOffset:=8 }]):=by kernel_rfl
theorem aaJ:aC prog 200=some (TypeDesc.struct #[{ name:= "Is",type:=4,offset:=0,embedded:=false,tag:= "",pkgPath:= "",byteOffset:=0 },{ name:= "Seal",type:=196,offset:=1,embedded:=false,tag:= "",pkgPath:= "",byteOffset:=8 }]):=by kernel_rfl
theorem acn:Program.eqGuardType prog (Program.depth prog) 61=false:=by kernel_rfl
theorem Zy {a0:ByteArray} {a1:Int} {a2:ByteArray} {a3:ByteArray} {b0:ByteArray} {b1:Int} {b2:ByteArray} {b3:ByteArray}:Jo prog 61 (.agg #[.string a0,.int .u64 a1,.string a2,.string a3]) (.agg #[.string b0,.int .u64 b1,.string b2,.string b3])=some ((a0 == b0) && (decide (a1=b1) && ((a2 == b2) && ((a3 == b3) && true)))):=(bY acz (by kernel_rfl)).trans (av (a:=(.string a0)) (b:=(.string b0)) (by decide) (by kernel_rfl) (by kernel_rfl) (lJ un9) (av (a:=(.int .u64 a1)) (b:=(.int .u64 b1)) (by decide) (by kernel_rfl) (by kernel_rfl) (bK SI) (av (a:=(.string a2)) (b:=(.string b2)) (by decide) (by kernel_rfl) (by kernel_rfl) (lJ un9) (av (a:=(.string a3)) (b:=(.string b3)) (by decide) (by kernel_rfl) (by kernel_rfl) (lJ un9) (dA)))))
theorem ZI:Program.eqGuardType prog (Program.depth prog) 102=false:=by kernel_rfl
theorem TE {a0:Int} {a1:Int} {a2:Int} {a3:Int} {b0:Int} {b1:Int} {b2:Int} {b3:Int}:Jo prog 102 (.agg #[.int .i64 a0,.int .i64 a1,.int .i64 a2,.int .i64 a3]) (.agg #[.int .i64 b0,.int .i64 b1,.int .i64 b2,.int .i64 b3])=some (decide (a0=b0) && (decide (a1=b1) && (decide (a2=b2) && (decide (a3=b3) && true)))):=(bY aaO (by kernel_rfl)).trans (av (a:=(.int .i64 a0)) (b:=(.int .i64 b0)) (by decide) (by kernel_rfl) (by kernel_rfl) (bK un3) (av (a:=(.int .i64 a1)) (b:=(.int .i64 b1)) (by decide) (by kernel_rfl) (by kernel_rfl) (bK un3) (av (a:=(.int .i64 a2)) (b:=(.int .i64 b2)) (by decide) (by kernel_rfl) (by kernel_rfl) (bK un3) (av (a:=(.int .i64 a3)) (b:=(.int .i64 b3)) (by decide) (by kernel_rfl) (by kernel_rfl) (bK un3) (dA)))))
theorem ZH:Program.eqGuardType prog (Program.depth prog) 104=false:=by kernel_rfl
theorem TD {a0:Int} {a1:Bool} {a2:Int} {a3:Int} {a4:Int} {a5:Int} {a6:Int} {b0:Int} {b1:Bool} {b2:Int} {b3:Int} {b4:Int} {b5:Int} {b6:Int}:Jo prog 104 (.agg #[.int .i64 a0,.bool a1,.int .i64 a2,.int .i64 a3,.int .i64 a4,.int .i64 a5,.int .i64 a6]) (.agg #[.int .i64 b0,.bool b1,.int .i64 b2,.int .i64 b3,.int .i64 b4,.int .i64 b5,.int .i64 b6])=some (decide (a0=b0) && ((a1 == b1) && (decide (a2=b2) && (decide (a3=b3) && (decide (a4=b4) && (decide (a5=b5) && (decide (a6=b6) && true))))))):=(bY aaN (by kernel_rfl)).trans (av (a:=(.int .i64 a0)) (b:=(.int .i64 b0)) (by decide) (by kernel_rfl) (by kernel_rfl) (bK un3) (av (a:=(.bool a1)) (b:=(.bool b1)) (by decide) (by kernel_rfl) (by kernel_rfl) (mI un4) (av (a:=(.int .i64 a2)) (b:=(.int .i64 b2)) (by decide) (by kernel_rfl) (by kernel_rfl) (bK un3) (av (a:=(.int .i64 a3)) (b:=(.int .i64 b3)) (by decide) (by kernel_rfl) (by kernel_rfl) (bK un3) (av (a:=(.int .i64 a4)) (b:=(.int .i64 b4)) (by decide) (by kernel_rfl) (by kernel_rfl) (bK un3) (av (a:=(.int .i64 a5)) (b:=(.int .i64 b5)) (by decide) (by kernel_rfl) (by kernel_rfl) (bK un3) (av (a:=(.int .i64 a6)) (b:=(.int .i64 b6)) (by decide) (by kernel_rfl) (by kernel_rfl) (bK un3) (dA))))))))
theorem ZG:Program.eqGuardType prog (Program.depth prog) 129=false:=by kernel_rfl
theorem TC {a0:Int} {a1:Int} {b0:Int} {b1:Int}:Jo prog 129 (.agg #[.int .u64 a0,.int .u64 a1]) (.agg #[.int .u64 b0,.int .u64 b1])=some (decide (a0=b0) && (decide (a1=b1) && true)):=(bY aaM (by kernel_rfl)).trans (av (a:=(.int .u64 a0)) (b:=(.int .u64 b0)) (by decide) (by kernel_rfl) (by kernel_rfl) (bK SI) (av (a:=(.int .u64 a1)) (b:=(.int .u64 b1)) (by decide) (by kernel_rfl) (by kernel_rfl) (bK SI) (dA)))
theorem ZF:Program.eqGuardType prog (Program.depth prog) 137=false:=by kernel_rfl
theorem TB {a0:Int} {a1:Int} {b0:Int} {b1:Int}:Jo prog 137 (.agg #[.int .i64 a0,.int .i64 a1]) (.agg #[.int .i64 b0,.int .i64 b1])=some (decide (a0=b0) && (decide (a1=b1) && true)):=(bY aaL (by kernel_rfl)).trans (av (a:=(.int .i64 a0)) (b:=(.int .i64 b0)) (by decide) (by kernel_rfl) (by kernel_rfl) (bK acB) (av (a:=(.int .i64 a1)) (b:=(.int .i64 b1)) (by decide) (by kernel_rfl) (by kernel_rfl) (bK un3) (dA)))
theorem ZE:Program.eqGuardType prog (Program.depth prog) 162=false:=by kernel_rfl
theorem TA {a0:ByteArray} {a1:ByteArray} {a2:Int} {b0:ByteArray} {b1:ByteArray} {b2:Int}:Jo prog 162 (.agg #[.string a0,.string a1,.int .u64 a2]) (.agg #[.string b0,.string b1,.int .u64 b2])=some ((a0 == b0) && ((a1 == b1) && (decide (a2=b2) && true))):=(bY aaK (by kernel_rfl)).trans (av (a:=(.string a0)) (b:=(.string b0)) (by decide) (by kernel_rfl) (by kernel_rfl) (lJ un9) (av (a:=(.string a1)) (b:=(.string b1)) (by decide) (by kernel_rfl) (by kernel_rfl) (lJ un9) (av (a:=(.int .u64 a2)) (b:=(.int .u64 b2)) (by decide) (by kernel_rfl) (by kernel_rfl) (bK SI) (dA))))
theorem ZC:Program.eqGuardType prog (Program.depth prog) 196=false:=by kernel_rfl
theorem Tz {a0:Int} {a1:Int} {b0:Int} {b1:Int}:Jo prog 196 (.agg #[.int .u64 a0,.int .u64 a1]) (.agg #[.int .u64 b0,.int .u64 b1])=some (decide (a0=b0) && (decide (a1=b1) && true)):=(bY XI (by kernel_rfl)).trans (av (a:=(.int .u64 a0)) (b:=(.int .u64 b0)) (by decide) (by kernel_rfl) (by kernel_rfl) (bK SI) (av (a:=(.int .u64 a1)) (b:=(.int .u64 b1)) (by decide) (by kernel_rfl) (by kernel_rfl) (bK SI) (dA)))
theorem ZB:Program.eqGuardType prog (Program.depth prog) 200=false:=by kernel_rfl
theorem Tx {a0:Bool} {a1:Int} {a2:Int} {b0:Bool} {b1:Int} {b2:Int}:Jo prog 200 (.agg #[.bool a0,.int .u64 a1,.int .u64 a2]) (.agg #[.bool b0,.int .u64 b1,.int .u64 b2])=some ((a0 == b0) && ((decide (a1=b1) && (decide (a2=b2) && true)) && true)):=(bY aaJ (by kernel_rfl)).trans (av (a:=(.bool a0)) (b:=(.bool b0)) (by decide) (by kernel_rfl) (by kernel_rfl) (mI un4) (av (a:=(.agg #[.int .u64 a1,.int .u64 a2])) (b:=(.agg #[.int .u64 b1,.int .u64 b2])) (by decide) (by kernel_rfl) (by kernel_rfl) ((jS XI (by kernel_rfl)).trans (av (a:=(.int .u64 a1)) (b:=(.int .u64 b1)) (by decide) (by kernel_rfl) (by kernel_rfl) (bK SI) (av (a:=(.int .u64 a2)) (b:=(.int .u64 b2)) (by decide) (by kernel_rfl) (by kernel_rfl) (bK SI) (dA)))) (dA)))
@[go_sem] theorem T7:Gt 7 4 24/\Fd 7 0 0 2/\Fd 7 1 1 3/\Fd 7 2 2 4/\Fd 7 3 3 6/\aX prog 7=some #[(0,1),(1,1),(2,1),(3,1)]/\Z4 7 (.int .i64 0) (.int .i64 0) (.bool false) (.int .u8 0)/\zSz prog 7=some 4:=mk
@[go_sem] theorem T28:Gt 28 10 200/\Fd 28 0 0 9/\Fd 28 1 1 3/\Fd 28 2 2 3/\Fd 28 3 3 22/\Fd 28 4 4 23/\Fd 28 5 5 24/\Fd 28 6 6 25/\Fd 28 7 7 25/\Fd 28 8 8 25/\Fd 28 9 9 26/\aX prog 28=some #[(0,1),(1,1),(2,1),(3,1),(4,1),(5,1),(6,1),(7,1),(8,1),(9,1)]/\Z10 28 (.string { data:=#[] }) (.int .i64 0) (.int .i64 0) (.slice none 0 0) (.slice none 0 0) (.slice none 0 0) (.slice none 0 0) (.slice none 0 0) (.slice none 0 0) (.slice none 0 0)/\zSz prog 28=some 10:=mk
@[go_sem] theorem T37:Gt 37 4 56/\Fd 37 0 0 9/\Fd 37 1 1 3/\Fd 37 2 2 4/\Fd 37 3 3 35/\aX prog 37=some #[(0,1),(1,1),(2,1),(3,1)]/\Z4 37 (.string { data:=#[] }) (.int .i64 0) (.bool false) (.slice none 0 0)/\zSz prog 37=some 4:=mk
@[go_sem] theorem T41:Gt 41 2 48/\Fd 41 0 0 29/\Fd 41 1 1 29/\aX prog 41=some #[(0,1),(1,1)]/\Z2 41 (.slice none 0 0) (.slice none 0 0)/\zSz prog 41=some 2:=mk
@[go_sem] theorem T44:Gt 44 5 88/\Fd 44 0 0 3/\Fd 44 1 1 3/\Fd 44 2 2 29/\Fd 44 3 3 29/\Fd 44 4 4 42/\aX prog 44=some #[(0,1),(1,1),(2,1),(3,1),(4,1)]/\Z5 44 (.int .i64 0) (.int .i64 0) (.slice none 0 0) (.slice none 0 0) (.slice none 0 0)/\zSz prog 44=some 5:=mk
theorem XR:type_of% T44.1.1:=T44.1.1
theorem aak:type_of% T44.1.2.1:=T44.1.2.1
@[go_sem] theorem T49:Gt 49 12 184/\Fd 49 0 0 4/\Fd 49 1 1 4/\Fd 49 2 2 44/\Fd 49 3 7 44/\aX prog 49=some #[(0,1),(1,1),(2,5),(7,5)]/\Z12 49 (.bool false) (.bool false) (.int .i64 0) (.int .i64 0) (.slice none 0 0) (.slice none 0 0) (.slice none 0 0) (.int .i64 0) (.int .i64 0) (.slice none 0 0) (.slice none 0 0) (.slice none 0 0)/\zSz prog 49=some 12:=mk
theorem Xm:type_of% T49.1.1:=T49.1.1
theorem XA:type_of% T49.1.2.1:=T49.1.2.1
@[go_sem] theorem T57:Gt 57 5 56/\Fd 57 0 0 3/\Fd 57 1 1 3/\Fd 57 2 2 3/\Fd 57 3 3 29/\Fd 57 4 4 3/\aX prog 57=some #[(0,1),(1,1),(2,1),(3,1),(4,1)]/\Z5 57 (.int .i64 0) (.int .i64 0) (.int .i64 0) (.slice none 0 0) (.int .i64 0)/\zSz prog 57=some 5:=mk
@[go_sem] theorem T61:Gt 61 4 56/\Fd 61 0 0 9/\Fd 61 1 1 54/\Fd 61 2 2 9/\Fd 61 3 3 9/\aX prog 61=some #[(0,1),(1,1),(2,1),(3,1)]/\Z4 61 (.string { data:=#[] }) (.int .u64 0) (.string { data:=#[] }) (.string { data:=#[] })/\zSz prog 61=some 4/\(type_of% @acn)/\(type_of% @Zy):=⟨mk,(by show _=_; kernel_rfl),(by show _=_; kernel_rfl),(by show _=_; kernel_rfl),(by show _=_; kernel_rfl),(by show _=_; kernel_rfl),(by show _=_; kernel_rfl),(by show _=_; kernel_rfl),@acn,@Zy⟩
@[go_sem] theorem T64:Gt 64 20 400/\Fd 64 0 0 28/\Fd 64 1 10 28/\aX prog 64=some #[(0,10),(10,10)]/\aI prog 64=some [.i (.s (.string { data:=#[] })),.i (.s (.int .i64 0)),.i (.s (.int .i64 0)),.i (.s (.slice none 0 0)),.i (.s (.slice none 0 0)),.i (.s (.slice none 0 0)),.i (.s (.slice none 0 0)),.i (.s (.slice none 0 0)),.i (.s (.slice none 0 0)),.i (.s (.slice none 0 0)),.i (.s (.string { data:=#[] })),.i (.s (.int .i64 0)),.i (.s (.int .i64 0)),.i (.s (.slice none 0 0)),.i (.s (.slice none 0 0)),.i (.s (.slice none 0 0)),.i (.s (.slice none 0 0)),.i (.s (.slice none 0 0)),.i (.s (.slice none 0 0)),.i (.s (.slice none 0 0))]/\zSz prog 64=some 20:=mk
@[go_sem] theorem T72:Gt 72 4 64/\Fd 72 0 0 3/\Fd 72 1 1 3/\Fd 72 2 2 29/\Fd 72 3 3 29/\aX prog 72=some #[(0,1),(1,1),(2,1),(3,1)]/\Z4 72 (.int .i64 0) (.int .i64 0) (.slice none 0 0) (.slice none 0 0)/\zSz prog 72=some 4:=mk
@[go_sem] theorem T74:Gt 74 6 104/\Fd 74 0 0 9/\Fd 74 1 1 3/\Fd 74 2 2 3/\Fd 74 3 3 29/\Fd 74 4 4 29/\Fd 74 5 5 29/\aX prog 74=some #[(0,1),(1,1),(2,1),(3,1),(4,1),(5,1)]/\Z6 74 (.string { data:=#[] }) (.int .i64 0) (.int .i64 0) (.slice none 0 0) (.slice none 0 0) (.slice none 0 0)/\zSz prog 74=some 6:=mk
@[go_sem] theorem T78:Gt 78 8 152/\Fd 78 0 0 74/\Fd 78 1 6 75/\Fd 78 2 7 76/\aX prog 78=some #[(0,6),(6,1),(7,1)]/\Z8 78 (.string { data:=#[] }) (.int .i64 0) (.int .i64 0) (.slice none 0 0) (.slice none 0 0) (.slice none 0 0) (.slice none 0 0) (.slice none 0 0)/\zSz prog 78=some 8:=mk
@[go_sem] theorem T80:Gt 80 10 184/\Fd 80 0 0 3/\Fd 80 1 1 78/\Fd 80 2 9 75/\aX prog 80=some #[(0,1),(1,8),(9,1)]/\Z10 80 (.int .i64 0) (.string { data:=#[] }) (.int .i64 0) (.int .i64 0) (.slice none 0 0) (.slice none 0 0) (.slice none 0 0) (.slice none 0 0) (.slice none 0 0) (.slice none 0 0)/\zSz prog 80=some 10:=mk
@[go_sem] theorem T82:Gt 82 18 280/\Fd 82 0 0 3/\Fd 82 1 1 44/\Fd 82 2 6 49/\aX prog 82=some #[(0,1),(1,5),(6,12)]/\aI prog 82=some [.i (.s (.int .i64 0)),.i (.s (.int .i64 0)),.i (.s (.int .i64 0)),.i (.s (.slice none 0 0)),.i (.s (.slice none 0 0)),.i (.s (.slice none 0 0)),.i (.s (.bool false)),.i (.s (.bool false)),.i (.s (.int .i64 0)),.i (.s (.int .i64 0)),.i (.s (.slice none 0 0)),.i (.s (.slice none 0 0)),.i (.s (.slice none 0 0)),.i (.s (.int .i64 0)),.i (.s (.int .i64 0)),.i (.s (.slice none 0 0)),.i (.s (.slice none 0 0)),.i (.s (.slice none 0 0))]/\zSz prog 82=some 18:=mk
@[go_sem] theorem T84:Gt 84 62 936/\Fd 84 0 0 3/\Fd 84 1 1 9/\Fd 84 2 2 3/\Fd 84 3 3 72/\Fd 84 4 7 3/\Fd 84 5 8 80/\Fd 84 6 18 80/\Fd 84 7 28 3/\Fd 84 8 29 3/\Fd 84 9 30 3/\Fd 84 10 31 4/\Fd 84 11 32 82/\Fd 84 12 50 61/\Fd 84 13 54 3/\Fd 84 14 55 3/\Fd 84 15 56 57/\Fd 84 16 61 29/\aX prog 84=some #[(0,1),(1,1),(2,1),(3,4),(7,1),(8,10),(18,10),(28,1),(29,1),(30,1),(31,1),(32,18),(50,4),(54,1),(55,1),(56,5),(61,1)]/\aI prog 84=some [.i (.s (.int .i64 0)),.i (.s (.string { data:=#[] })),.i (.s (.int .i64 0)),.i (.s (.int .i64 0)),.i (.s (.int .i64 0)),.i (.s (.slice none 0 0)),.i (.s (.slice none 0 0)),.i (.s (.int .i64 0)),.i (.s (.int .i64 0)),.i (.s (.string { data:=#[] })),.i (.s (.int .i64 0)),.i (.s (.int .i64 0)),.i (.s (.slice none 0 0)),.i (.s (.slice none 0 0)),.i (.s (.slice none 0 0)),.i (.s (.slice none 0 0)),.i (.s (.slice none 0 0)),.i (.s (.slice none 0 0)),.i (.s (.int .i64 0)),.i (.s (.string { data:=#[] })),.i (.s (.int .i64 0)),.i (.s (.int .i64 0)),.i (.s (.slice none 0 0)),.i (.s (.slice none 0 0)),.i (.s (.slice none 0 0)),.i (.s (.slice none 0 0)),.i (.s (.slice none 0 0)),.i (.s (.slice none 0 0)),.i (.s (.int .i64 0)),.i (.s (.int .i64 0)),.i (.s (.int .i64 0)),.i (.s (.bool false)),.i (.s (.int .i64 0)),.i (.s (.int .i64 0)),.i (.s (.int .i64 0)),.i (.s (.slice none 0 0)),.i (.s (.slice none 0 0)),.i (.s (.slice none 0 0)),.i (.s (.bool false)),.i (.s (.bool false)),.i (.s (.int .i64 0)),.i (.s (.int .i64 0)),.i (.s (.slice none 0 0)),.i (.s (.slice none 0 0)),.i (.s (.slice none 0 0)),.i (.s (.int .i64 0)),.i (.s (.int .i64 0)),.i (.s (.slice none 0 0)),.i (.s (.slice none 0 0)),.i (.s (.slice none 0 0)),.i (.s (.string { data:=#[] })),.i (.s (.int .u64 0)),.i (.s (.string { data:=#[] })),.i (.s (.string { data:=#[] })),.i (.s (.int .i64 0)),.i (.s (.int .i64 0)),.i (.s (.int .i64 0)),.i (.s (.int .i64 0)),.i (.s (.int .i64 0)),.i (.s (.slice none 0 0)),.i (.s (.int .i64 0)),.i (.s (.slice none 0 0))]/\zSz prog 84=some 62:=mk
@[go_sem] theorem T86:Gt 86 7 72/\Fd 86 0 0 32/\Fd 86 1 1 3/\Fd 86 2 2 57/\aX prog 86=some #[(0,1),(1,1),(2,5)]/\Z7 86 (.int .i64 0) (.int .i64 0) (.int .i64 0) (.int .i64 0) (.int .i64 0) (.slice none 0 0) (.int .i64 0)/\zSz prog 86=some 7:=mk
@[go_sem] theorem T93:Gt 93 67 976/\Fd 93 0 0 3/\Fd 93 1 1 3/\Fd 93 2 2 3/\Fd 93 3 3 3/\Fd 93 4 4 3/\Fd 93 5 5 84/\aX prog 93=some #[(0,1),(1,1),(2,1),(3,1),(4,1),(5,62)]/\aI prog 93=some [.i (.s (.int .i64 0)),.i (.s (.int .i64 0)),.i (.s (.int .i64 0)),.i (.s (.int .i64 0)),.i (.s (.int .i64 0)),.i (.s (.int .i64 0)),.i (.s (.string { data:=#[] })),.i (.s (.int .i64 0)),.i (.s (.int .i64 0)),.i (.s (.int .i64 0)),.i (.s (.slice none 0 0)),.i (.s (.slice none 0 0)),.i (.s (.int .i64 0)),.i (.s (.int .i64 0)),.i (.s (.string { data:=#[] })),.i (.s (.int .i64 0)),.i (.s (.int .i64 0)),.i (.s (.slice none 0 0)),.i (.s (.slice none 0 0)),.i (.s (.slice none 0 0)),.i (.s (.slice none 0 0)),.i (.s (.slice none 0 0)),.i (.s (.slice none 0 0)),.i (.s (.int .i64 0)),.i (.s (.string { data:=#[] })),.i (.s (.int .i64 0)),.i (.s (.int .i64 0)),.i (.s (.slice none 0 0)),.i (.s (.slice none 0 0)),.i (.s (.slice none 0 0)),.i (.s (.slice none 0 0)),.i (.s (.slice none 0 0)),.i (.s (.slice none 0 0)),.i (.s (.int .i64 0)),.i (.s (.int .i64 0)),.i (.s (.int .i64 0)),.i (.s (.bool false)),.i (.s (.int .i64 0)),.i (.s (.int .i64 0)),.i (.s (.int .i64 0)),.i (.s (.slice none 0 0)),.i (.s (.slice none 0 0)),.i (.s (.slice none 0 0)),.i (.s (.bool false)),.i (.s (.bool false)),.i (.s (.int .i64 0)),.i (.s (.int .i64 0)),.i (.s (.slice none 0 0)),.i (.s (.slice none 0 0)),.i (.s (.slice none 0 0)),.i (.s (.int .i64 0)),.i (.s (.int .i64 0)),.i (.s (.slice none 0 0)),.i (.s (.slice none 0 0)),.i (.s (.slice none 0 0)),.i (.s (.string { data:=#[] })),.i (.s (.int .u64 0)),.i (.s (.string { data:=#[] })),.i (.s (.string { data:=#[] })),.i (.s (.int .i64 0)),.i (.s (.int .i64 0)),.i (.s (.int .i64 0)),.i (.s (.int .i64 0)),.i (.s (.int .i64 0)),.i (.s (.slice none 0 0)),.i (.s (.int .i64 0)),.i (.s (.slice none 0 0))]/\zSz prog 93=some 67:=mk
@[go_sem] theorem adr:Gt 102 4 32/\Fd 102 0 0 3/\Fd 102 1 1 3/\Fd 102 2 2 3/\Fd 102 3 3 3/\aX prog 102=some #[(0,1),(1,1),(2,1),(3,1)]/\Z4 102 (.int .i64 0) (.int .i64 0) (.int .i64 0) (.int .i64 0)/\zSz prog 102=some 4/\(type_of% @ZI)/\(type_of% @TE):=⟨mk,(by show _=_; kernel_rfl),(by show _=_; kernel_rfl),(by show _=_; kernel_rfl),(by show _=_; kernel_rfl),(by show _=_; kernel_rfl),(by show _=_; kernel_rfl),(by show _=_; kernel_rfl),@ZI,@TE⟩
@[go_sem] theorem adq:Gt 104 7 56/\Fd 104 0 0 3/\Fd 104 1 1 4/\Fd 104 2 2 3/\Fd 104 3 3 3/\Fd 104 4 4 3/\Fd 104 5 5 3/\Fd 104 6 6 3/\aX prog 104=some #[(0,1),(1,1),(2,1),(3,1),(4,1),(5,1),(6,1)]/\Z7 104 (.int .i64 0) (.bool false) (.int .i64 0) (.int .i64 0) (.int .i64 0) (.int .i64 0) (.int .i64 0)/\zSz prog 104=some 7/\(type_of% @ZH)/\(type_of% @TD):=⟨mk,(by show _=_; kernel_rfl),(by show _=_; kernel_rfl),(by show _=_; kernel_rfl),(by show _=_; kernel_rfl),(by show _=_; kernel_rfl),(by show _=_; kernel_rfl),(by show _=_; kernel_rfl),(by show _=_; kernel_rfl),(by show _=_; kernel_rfl),(by show _=_; kernel_rfl),@ZH,@TD⟩
@[go_sem] theorem adn:Gt 120 3 40/\Fd 120 0 0 3/\Fd 120 1 1 3/\Fd 120 2 2 29/\aX prog 120=some #[(0,1),(1,1),(2,1)]/\Z3 120 (.int .i64 0) (.int .i64 0) (.slice none 0 0)/\zSz prog 120=some 3:=mk
@[go_sem] theorem adl:Gt 129 2 16/\Fd 129 0 0 54/\Fd 129 1 1 54/\aX prog 129=some #[(0,1),(1,1)]/\Z2 129 (.int .u64 0) (.int .u64 0)/\zSz prog 129=some 2/\(type_of% @ZG)/\(type_of% @TC):=⟨mk,(by show _=_; kernel_rfl),(by show _=_; kernel_rfl),(by show _=_; kernel_rfl),(by show _=_; kernel_rfl),(by show _=_; kernel_rfl),@ZG,@TC⟩
@[go_sem] theorem aaC:Gt 137 2 16/\Fd 137 0 0 32/\Fd 137 1 1 3/\aX prog 137=some #[(0,1),(1,1)]/\Z2 137 (.int .i64 0) (.int .i64 0)/\zSz prog 137=some 2/\(type_of% @ZF)/\(type_of% @TB):=⟨mk,(by show _=_; kernel_rfl),(by show _=_; kernel_rfl),(by show _=_; kernel_rfl),(by show _=_; kernel_rfl),(by show _=_; kernel_rfl),@ZF,@TB⟩
theorem pU:type_of% aaC.1.1:=aaC.1.1
theorem qZ:type_of% aaC.1.2.1:=aaC.1.2.1
@[go_sem] theorem adh:Gt 158 13 272/\Fd 158 0 0 28/\Fd 158 1 10 42/\Fd 158 2 11 75/\Fd 158 3 12 156/\aX prog 158=some #[(0,10),(10,1),(11,1),(12,1)]/\aI prog 158=some [.i (.s (.string { data:=#[] })),.i (.s (.int .i64 0)),.i (.s (.int .i64 0)),.i (.s (.slice none 0 0)),.i (.s (.slice none 0 0)),.i (.s (.slice none 0 0)),.i (.s (.slice none 0 0)),.i (.s (.slice none 0 0)),.i (.s (.slice none 0 0)),.i (.s (.slice none 0 0)),.i (.s (.slice none 0 0)),.i (.s (.slice none 0 0)),.i (.s (.slice none 0 0))]/\zSz prog 158=some 13:=mk
@[go_sem] theorem adg:Gt 162 3 40/\Fd 162 0 0 9/\Fd 162 1 1 9/\Fd 162 2 2 54/\aX prog 162=some #[(0,1),(1,1),(2,1)]/\Z3 162 (.string { data:=#[] }) (.string { data:=#[] }) (.int .u64 0)/\zSz prog 162=some 3/\(type_of% @ZE)/\(type_of% @TA):=⟨mk,(by show _=_; kernel_rfl),(by show _=_; kernel_rfl),(by show _=_; kernel_rfl),(by show _=_; kernel_rfl),(by show _=_; kernel_rfl),(by show _=_; kernel_rfl),@ZE,@TA⟩
@[go_sem] theorem adb:Gt 183 3 40/\Fd 183 0 0 3/\Fd 183 1 1 54/\Fd 183 2 2 29/\aX prog 183=some #[(0,1),(1,1),(2,1)]/\Z3 183 (.int .i64 0) (.int .u64 0) (.slice none 0 0)/\zSz prog 183=some 3:=mk
@[go_sem] theorem aaB:Gt 196 2 16/\Fd 196 0 0 54/\Fd 196 1 1 54/\aX prog 196=some #[(0,1),(1,1)]/\Z2 196 (.int .u64 0) (.int .u64 0)/\zSz prog 196=some 2/\(type_of% @ZC)/\(type_of% @Tz):=⟨mk,(by show _=_; kernel_rfl),(by show _=_; kernel_rfl),(by show _=_; kernel_rfl),(by show _=_; kernel_rfl),(by show _=_; kernel_rfl),@ZC,@Tz⟩
theorem aaQ:type_of% aaB.1.1:=aaB.1.1
theorem abI:type_of% aaB.1.2.1:=aaB.1.2.1
@[go_sem] theorem acZ:Gt 200 3 24/\Fd 200 0 0 4/\Fd 200 1 1 196/\aX prog 200=some #[(0,1),(1,2)]/\Z3 200 (.bool false) (.int .u64 0) (.int .u64 0)/\zSz prog 200=some 3/\(type_of% @ZB)/\(type_of% @Tx):=⟨mk,(by show _=_; kernel_rfl),(by show _=_; kernel_rfl),(by show _=_; kernel_rfl),(by show _=_; kernel_rfl),(by show _=_; kernel_rfl),@ZB,@Tx⟩
@[go_sem] theorem acV:Gt 225 18 352/\Fd 225 0 0 78/\Fd 225 1 8 28/\aX prog 225=some #[(0,8),(8,10)]/\aI prog 225=some [.i (.s (.string { data:=#[] })),.i (.s (.int .i64 0)),.i (.s (.int .i64 0)),.i (.s (.slice none 0 0)),.i (.s (.slice none 0 0)),.i (.s (.slice none 0 0)),.i (.s (.slice none 0 0)),.i (.s (.slice none 0 0)),.i (.s (.string { data:=#[] })),.i (.s (.int .i64 0)),.i (.s (.int .i64 0)),.i (.s (.slice none 0 0)),.i (.s (.slice none 0 0)),.i (.s (.slice none 0 0)),.i (.s (.slice none 0 0)),.i (.s (.slice none 0 0)),.i (.s (.slice none 0 0)),.i (.s (.slice none 0 0))]/\zSz prog 225=some 18:=mk
@[go_sem] theorem acN:Gt 386 2 32/\Fd 386 0 0 29/\Fd 386 1 1 4/\aX prog 386=some #[(0,1),(1,1)]/\Z2 386 (.slice none 0 0) (.bool false)/\zSz prog 386=some 2:=mk
@[go_sem] theorem s2b:(∀ s:ByteArray,Bv prog 9 29 (some (.string s))=none):=fun _=>Rn un9 abV un5
end Go.Proofs.YtfenipelcpmkpaaGreatDoor.Ty
