/- What the abstract walk asks of the types of this seat. Written by a program. -/
import Derived.Test.YtoifllbioldomaaGreatDoorAbs4
set_option linter.all false
namespace Go.Proofs.YtoifllbioldomaaGreatDoor.Ty
open Go Go.Abs Go.Proofs
open Go.Proofs.Tryz (prog)
theorem mk {p:Prop}(h:p:=by and_intros<;>(show _=_;kernel_rfl)):p:=h
abbrev Sc (t b:Nat)(u:TypeDesc)(z:Value):=iy prog t=some 1/\qg prog t=some false/\ib prog t=some b/\aA prog t=some u/\aU prog t=none/\aC prog t=some [.i (.s z)]/\zSz prog t=some 1
abbrev Sl (t e:Nat):=Sc t 24 (.slice e) (.slice none 0 0)
abbrev In (t b:Nat)(k:IntKind):=Sc t b (.int k) (.int k 0)
abbrev Gt (t n b:Nat):=iy prog t=some n/\qg prog t=some true/\ib prog t=some b
abbrev Gf (t n b:Nat):=iy prog t=some n/\qg prog t=some false/\ib prog t=some b
abbrev Fd (t i o y:Nat):=EJ prog t i=some (o,y)
abbrev Z1 (t:Nat)(a0:Value):=aC prog t=some [.i (.s a0)]
abbrev Z2 (t:Nat)(a0 a1:Value):=aC prog t=some [.i (.s a0),.i (.s a1)]
abbrev Z3 (t:Nat)(a0 a1 a2:Value):=aC prog t=some [.i (.s a0),.i (.s a1),.i (.s a2)]
abbrev Z4 (t:Nat)(a0 a1 a2 a3:Value):=aC prog t=some [.i (.s a0),.i (.s a1),.i (.s a2),.i (.s a3)]
abbrev Z5 (t:Nat)(a0 a1 a2 a3 a4:Value):=aC prog t=some [.i (.s a0),.i (.s a1),.i (.s a2),.i (.s a3),.i (.s a4)]
abbrev Z6 (t:Nat)(a0 a1 a2 a3 a4 a5:Value):=aC prog t=some [.i (.s a0),.i (.s a1),.i (.s a2),.i (.s a3),.i (.s a4),.i (.s a5)]
abbrev Z7 (t:Nat)(a0 a1 a2 a3 a4 a5 a6:Value):=aC prog t=some [.i (.s a0),.i (.s a1),.i (.s a2),.i (.s a3),.i (.s a4),.i (.s a5),.i (.s a6)]
abbrev Z8 (t:Nat)(a0 a1 a2 a3 a4 a5 a6 a7:Value):=aC prog t=some [.i (.s a0),.i (.s a1),.i (.s a2),.i (.s a3),.i (.s a4),.i (.s a5),.i (.s a6),.i (.s a7)]
abbrev Z10 (t:Nat)(a0 a1 a2 a3 a4 a5 a6 a7 a8 a9:Value):=aC prog t=some [.i (.s a0),.i (.s a1),.i (.s a2),.i (.s a3),.i (.s a4),.i (.s a5),.i (.s a6),.i (.s a7),.i (.s a8),.i (.s a9)]
abbrev Z12 (t:Nat)(a0 a1 a2 a3 a4 a5 a6 a7 a8 a9 a10 a11:Value):=aC prog t=some [.i (.s a0),.i (.s a1),.i (.s a2),.i (.s a3),.i (.s a4),.i (.s a5),.i (.s a6),.i (.s a7),.i (.s a8),.i (.s a9),.i (.s a10),.i (.s a11)]
@[go_sem] theorem mixed:(prog).follows .mixedOrders=true:=by kernel_rfl
@[go_sem] theorem T0:Gf 0 1 0:=mk
@[go_sem] theorem T1:Gf 1 1 8/\Z1 1 (.nilFunc)/\zSz prog 1=some 1:=mk
@[go_sem] theorem T2:In 2 8 .i64:=mk
@[go_sem] theorem T3:In 3 8 .i64:=mk
def un3:=T3.2.2.2.1
@[go_sem] theorem T4:Sc 4 1 (.bool) (.bool false):=mk
def un4:=T4.2.2.2.1
@[go_sem] theorem T5:In 5 1 .u8:=mk
def un5:=T5.2.2.2.1
@[go_sem] theorem T6:In 6 1 .u8:=mk
@[go_sem] theorem T9:Sc 9 16 (.string) (.string {data:=#[]}):=mk
def un9:=T9.2.2.2.1
@[go_sem] theorem T10:Sc 10 16 (.string) (.string {data:=#[]}):=mk
def ahb:=T10.2.2.2.1
@[go_sem] theorem T22:In 22 8 .u64:=mk
def Vq:=T22.2.2.2.1
@[go_sem] theorem T24:Sl 24 88:=mk
@[go_sem] theorem T25:Sl 25 5:=mk
def afg:=T25.2.2.2.1
@[go_sem] theorem T33:Sl 33 80:=mk
def aha:=T33.2.2.2.1
@[go_sem] theorem T34:Sl 34 107:=mk
def agZ:=T34.2.2.2.1
@[go_sem] theorem T35:Sl 35 74:=mk
def agY:=T35.2.2.2.1
@[go_sem] theorem T36:Sl 36 153:=mk
def agX:=T36.2.2.2.1
@[go_sem] theorem T37:Sl 37 100:=mk
def agk:=T37.2.2.2.1
@[go_sem] theorem T42:Sl 42 69:=mk
@[go_sem] theorem T43:In 43 8 .i64:=mk
def agW:=T43.2.2.2.1
@[go_sem] theorem T53:Sl 53 112:=mk
@[go_sem] theorem T54:Sl 54 175:=mk
@[go_sem] theorem T59:Sl 59 25:=mk
@[go_sem] theorem T78:Sl 78 50:=mk
def agU:=T78.2.2.2.1
@[go_sem] theorem T84:Gf 84 1 8/\aA prog 84=some (.pointer 95)/\Z1 84 (.pointer none)/\zSz prog 84=some 1:=mk
@[go_sem] theorem T86:Gt 86 2 16/\aA prog 86=some (.array 2 84)/\aU prog 86=none/\Z2 86 (.pointer none) (.pointer none)/\zSz prog 86=some 2:=mk
@[go_sem] theorem T93:Sl 93 132:=mk
@[go_sem] theorem T96:Sl 96 24:=mk
@[go_sem] theorem ahT:Gt 103 2 16/\aA prog 103=some (.array 2 3)/\aU prog 103=none/\Z2 103 (.int .i64 0) (.int .i64 0)/\zSz prog 103=some 2:=mk
@[go_sem] theorem ahS:Sl 104 103:=mk
@[go_sem] theorem ahQ:Sl 108 36:=mk
@[go_sem] theorem ahN:Sl 140 208:=mk
@[go_sem] theorem ahM:Gf 149 1 8/\Z1 149 (.nilFunc)/\zSz prog 149=some 1:=mk
@[go_sem] theorem ahL:Sl 150 3:=mk
@[go_sem] theorem ahJ:Sl 155 157:=mk
@[go_sem] theorem ahG:Gf 179 1 8/\aA prog 179=some (.pointer 58)/\Z1 179 (.pointer none)/\zSz prog 179=some 1:=mk
@[go_sem] theorem ahF:In 185 8 .u64:=mk
@[go_sem] theorem ahE:Gf 192 1 8/\aA prog 192=some (.pointer 36)/\Z1 192 (.pointer none)/\zSz prog 192=some 1:=mk
@[go_sem] theorem ahD:Sl 193 192:=mk
@[go_sem] theorem ahB:Sl 212 9:=mk
@[go_sem] theorem ahA:In 246 4 .u32:=mk
@[go_sem] theorem ahz:Gf 274 1 8/\Z1 274 (.nilFunc)/\zSz prog 274=some 1:=mk
@[go_sem] theorem ahy:Sl 303 179:=mk
@[go_sem] theorem ahx:Sl 340 22:=mk
@[go_sem] theorem ahw:Sl 342 246:=mk
@[go_sem] theorem ahv:Gf 349 1 16/\Z1 349 (.nilIface)/\zSz prog 349=some 1:=mk
@[go_sem] theorem ahu:Gf 359 1 8/\aA prog 359=some (.pointer 361)/\Z1 359 (.pointer none)/\zSz prog 359=some 1:=mk
@[go_sem] theorem ahs:Gf 383 1 8/\aA prog 383=some (.pointer 61)/\Z1 383 (.pointer none)/\zSz prog 383=some 1:=mk
theorem sh2:TySh prog 2 [.int .i64]:=.int Go.Proofs.Tryz.underlying2
theorem sh4:TySh prog 4 [.bool]:=.bool Go.Proofs.Tryz.underlying4
theorem sh9:TySh prog 9 [.str]:=.str Go.Proofs.Tryz.underlying9
theorem sh22:TySh prog 22 [.int .u64]:=.int Go.Proofs.Tryz.underlying22
theorem agT:aA prog 31=some (TypeDesc.struct #[{name:= "Denom",type:=9,offset:=0,embedded:=false,tag:= "",pkgPath:= "",byteOffset:=0},{name:= "Amount",type:=22,offset:=1,embedded:=false,tag:= "",pkgPath:= "",byteOffset:=16},{name:= "Sender",type:=9,offset:=2,embedded:=false,tag:= "",pkgPath:= "",byteOffset:=24},{name:= "Reader",type:=9,offset:=3,embedded:=false,tag:= "",pkgPath:= "",byteOffset:=40}]):=by kernel_rfl
theorem agS:aA prog 74=some (TypeDesc.struct #[{name:= "State",type:=3,offset:=0,embedded:=false,tag:= "",pkgPath:= "",byteOffset:=0},{name:= "Ordered",type:=4,offset:=1,embedded:=false,tag:= "",pkgPath:= "",byteOffset:=8},{name:= "Conn",type:=3,offset:=2,embedded:=false,tag:= "",pkgPath:= "",byteOffset:=16},{name:= "OtherChan",type:=3,offset:=3,embedded:=false,tag:= "",pkgPath:= "",byteOffset:=24},{name:= "Send",type:=3,offset:=4,embedded:=false,tag:= "",pkgPath:= "",byteOffset:=32},{name:= "Recv",type:=3,offset:=5,embedded:=false,tag:= "",pkgPath:= "",byteOffset:=40},{name:= "Ack",type:=3,offset:=6,embedded:=false,tag:= "",pkgPath:= "",byteOffset:=48}]):=by kernel_rfl
theorem afd:aA prog 100=some (TypeDesc.struct #[{name:= "Owner",type:=9,offset:=0,embedded:=false,tag:= "",pkgPath:= "",byteOffset:=0},{name:= "Denom",type:=9,offset:=1,embedded:=false,tag:= "",pkgPath:= "",byteOffset:=16},{name:= "Amount",type:=22,offset:=2,embedded:=false,tag:= "",pkgPath:= "",byteOffset:=32}]):=by kernel_rfl
theorem afc:aA prog 107=some (TypeDesc.struct #[{name:= "State",type:=3,offset:=0,embedded:=false,tag:= "",pkgPath:= "",byteOffset:=0},{name:= "Client",type:=3,offset:=1,embedded:=false,tag:= "",pkgPath:= "",byteOffset:=8},{name:= "OtherClient",type:=3,offset:=2,embedded:=false,tag:= "",pkgPath:= "",byteOffset:=16},{name:= "OtherConn",type:=3,offset:=3,embedded:=false,tag:= "",pkgPath:= "",byteOffset:=24}]):=by kernel_rfl
theorem afb:aA prog 112=some (TypeDesc.struct #[{name:= "Key",type:=22,offset:=0,embedded:=false,tag:= "",pkgPath:= "",byteOffset:=0},{name:= "Power",type:=22,offset:=1,embedded:=false,tag:= "",pkgPath:= "",byteOffset:=8}]):=by kernel_rfl
theorem afa:aA prog 162=some (TypeDesc.struct #[{name:= "Err",type:=43,offset:=0,embedded:=false,tag:= "",pkgPath:= "",byteOffset:=0},{name:= "At",type:=3,offset:=1,embedded:=false,tag:= "",pkgPath:= "",byteOffset:=8}]):=by kernel_rfl
theorem aaM:aA prog 171=some (TypeDesc.struct #[{name:= "R",type:=22,offset:=0,embedded:=false,tag:= "",pkgPath:= "",byteOffset:=0},{name:= "S",type:=22,offset:=1,embedded:=false,tag:= "",pkgPath:= "",byteOffset:=8}]):=by kernel_rfl
theorem ae_:aA prog 175=some (TypeDesc.struct #[{name:= "Is",type:=4,offset:=0,embedded:=false,tag:= "",pkgPath:= "",byteOffset:=0},{name:= "Seal",type:=171,offset:=1,embedded:=false,tag:= "",pkgPath:= "",byteOffset:=8}]):=by kernel_rfl
theorem agB:Program.eqGuardType prog (Program.depth prog) 31=false:=by kernel_rfl
theorem adJ {a0:ByteArray} {a1:Int} {a2:ByteArray} {a3:ByteArray} {b0:ByteArray} {b1:Int} {b2:ByteArray} {b3:ByteArray}:La prog 31 (.agg #[.string a0,.int .u64 a1,.string a2,.string a3]) (.agg #[.string b0,.int .u64 b1,.string b2,.string b3])=some ((a0 == b0) && (decide (a1=b1) && ((a2 == b2) && ((a3 == b3) && true)))):=(bV agT (by kernel_rfl)).trans (aj (a:=(.string a0)) (b:=(.string b0)) (by decide) (by kernel_rfl) (by kernel_rfl) (nH un9) (aj (a:=(.int .u64 a1)) (b:=(.int .u64 b1)) (by decide) (by kernel_rfl) (by kernel_rfl) (bE Vq) (aj (a:=(.string a2)) (b:=(.string b2)) (by decide) (by kernel_rfl) (by kernel_rfl) (nH un9) (aj (a:=(.string a3)) (b:=(.string b3)) (by decide) (by kernel_rfl) (by kernel_rfl) (nH un9) (cZ)))))
theorem agA:Program.eqGuardType prog (Program.depth prog) 74=false:=by kernel_rfl
theorem adI {a0:Int} {a1:Bool} {a2:Int} {a3:Int} {a4:Int} {a5:Int} {a6:Int} {b0:Int} {b1:Bool} {b2:Int} {b3:Int} {b4:Int} {b5:Int} {b6:Int}:La prog 74 (.agg #[.int .i64 a0,.bool a1,.int .i64 a2,.int .i64 a3,.int .i64 a4,.int .i64 a5,.int .i64 a6]) (.agg #[.int .i64 b0,.bool b1,.int .i64 b2,.int .i64 b3,.int .i64 b4,.int .i64 b5,.int .i64 b6])=some (decide (a0=b0) && ((a1 == b1) && (decide (a2=b2) && (decide (a3=b3) && (decide (a4=b4) && (decide (a5=b5) && (decide (a6=b6) && true))))))):=(bV agS (by kernel_rfl)).trans (aj (a:=(.int .i64 a0)) (b:=(.int .i64 b0)) (by decide) (by kernel_rfl) (by kernel_rfl) (bE un3) (aj (a:=(.bool a1)) (b:=(.bool b1)) (by decide) (by kernel_rfl) (by kernel_rfl) (oD un4) (aj (a:=(.int .i64 a2)) (b:=(.int .i64 b2)) (by decide) (by kernel_rfl) (by kernel_rfl) (bE un3) (aj (a:=(.int .i64 a3)) (b:=(.int .i64 b3)) (by decide) (by kernel_rfl) (by kernel_rfl) (bE un3) (aj (a:=(.int .i64 a4)) (b:=(.int .i64 b4)) (by decide) (by kernel_rfl) (by kernel_rfl) (bE un3) (aj (a:=(.int .i64 a5)) (b:=(.int .i64 b5)) (by decide) (by kernel_rfl) (by kernel_rfl) (bE un3) (aj (a:=(.int .i64 a6)) (b:=(.int .i64 b6)) (by decide) (by kernel_rfl) (by kernel_rfl) (bE un3) (cZ))))))))
theorem adQ:Program.eqGuardType prog (Program.depth prog) 100=false:=by kernel_rfl
theorem WT {a0:ByteArray} {a1:ByteArray} {a2:Int} {b0:ByteArray} {b1:ByteArray} {b2:Int}:La prog 100 (.agg #[.string a0,.string a1,.int .u64 a2]) (.agg #[.string b0,.string b1,.int .u64 b2])=some ((a0 == b0) && ((a1 == b1) && (decide (a2=b2) && true))):=(bV afd (by kernel_rfl)).trans (aj (a:=(.string a0)) (b:=(.string b0)) (by decide) (by kernel_rfl) (by kernel_rfl) (nH un9) (aj (a:=(.string a1)) (b:=(.string b1)) (by decide) (by kernel_rfl) (by kernel_rfl) (nH un9) (aj (a:=(.int .u64 a2)) (b:=(.int .u64 b2)) (by decide) (by kernel_rfl) (by kernel_rfl) (bE Vq) (cZ))))
theorem adP:Program.eqGuardType prog (Program.depth prog) 107=false:=by kernel_rfl
theorem WS {a0:Int} {a1:Int} {a2:Int} {a3:Int} {b0:Int} {b1:Int} {b2:Int} {b3:Int}:La prog 107 (.agg #[.int .i64 a0,.int .i64 a1,.int .i64 a2,.int .i64 a3]) (.agg #[.int .i64 b0,.int .i64 b1,.int .i64 b2,.int .i64 b3])=some (decide (a0=b0) && (decide (a1=b1) && (decide (a2=b2) && (decide (a3=b3) && true)))):=(bV afc (by kernel_rfl)).trans (aj (a:=(.int .i64 a0)) (b:=(.int .i64 b0)) (by decide) (by kernel_rfl) (by kernel_rfl) (bE un3) (aj (a:=(.int .i64 a1)) (b:=(.int .i64 b1)) (by decide) (by kernel_rfl) (by kernel_rfl) (bE un3) (aj (a:=(.int .i64 a2)) (b:=(.int .i64 b2)) (by decide) (by kernel_rfl) (by kernel_rfl) (bE un3) (aj (a:=(.int .i64 a3)) (b:=(.int .i64 b3)) (by decide) (by kernel_rfl) (by kernel_rfl) (bE un3) (cZ)))))
theorem adO:Program.eqGuardType prog (Program.depth prog) 112=false:=by kernel_rfl
theorem WR {a0:Int} {a1:Int} {b0:Int} {b1:Int}:La prog 112 (.agg #[.int .u64 a0,.int .u64 a1]) (.agg #[.int .u64 b0,.int .u64 b1])=some (decide (a0=b0) && (decide (a1=b1) && true)):=(bV afb (by kernel_rfl)).trans (aj (a:=(.int .u64 a0)) (b:=(.int .u64 b0)) (by decide) (by kernel_rfl) (by kernel_rfl) (bE Vq) (aj (a:=(.int .u64 a1)) (b:=(.int .u64 b1)) (by decide) (by kernel_rfl) (by kernel_rfl) (bE Vq) (cZ)))
theorem adN:Program.eqGuardType prog (Program.depth prog) 162=false:=by kernel_rfl
theorem WQ {a0:Int} {a1:Int} {b0:Int} {b1:Int}:La prog 162 (.agg #[.int .i64 a0,.int .i64 a1]) (.agg #[.int .i64 b0,.int .i64 b1])=some (decide (a0=b0) && (decide (a1=b1) && true)):=(bV afa (by kernel_rfl)).trans (aj (a:=(.int .i64 a0)) (b:=(.int .i64 b0)) (by decide) (by kernel_rfl) (by kernel_rfl) (bE agW) (aj (a:=(.int .i64 a1)) (b:=(.int .i64 b1)) (by decide) (by kernel_rfl) (by kernel_rfl) (bE un3) (cZ)))
theorem adM:Program.eqGuardType prog (Program.depth prog) 171=false:=by kernel_rfl
theorem WP {a0:Int} {a1:Int} {b0:Int} {b1:Int}:La prog 171 (.agg #[.int .u64 a0,.int .u64 a1]) (.agg #[.int .u64 b0,.int .u64 b1])=some (decide (a0=b0) && (decide (a1=b1) && true)):=(bV aaM (by kernel_rfl)).trans (aj (a:=(.int .u64 a0)) (b:=(.int .u64 b0)) (by decide) (by kernel_rfl) (by kernel_rfl) (bE Vq) (aj (a:=(.int .u64 a1)) (b:=(.int .u64 b1)) (by decide) (by kernel_rfl) (by kernel_rfl) (bE Vq) (cZ)))
theorem adL:Program.eqGuardType prog (Program.depth prog) 175=false:=by kernel_rfl
theorem WO {a0:Bool} {a1:Int} {a2:Int} {b0:Bool} {b1:Int} {b2:Int}:La prog 175 (.agg #[.bool a0,.int .u64 a1,.int .u64 a2]) (.agg #[.bool b0,.int .u64 b1,.int .u64 b2])=some ((a0 == b0) && ((decide (a1=b1) && (decide (a2=b2) && true)) && true)):=(bV ae_ (by kernel_rfl)).trans (aj (a:=(.bool a0)) (b:=(.bool b0)) (by decide) (by kernel_rfl) (by kernel_rfl) (oD un4) (aj (a:=(.agg #[.int .u64 a1,.int .u64 a2])) (b:=(.agg #[.int .u64 b1,.int .u64 b2])) (by decide) (by kernel_rfl) (by kernel_rfl) ((lG aaM (by kernel_rfl)).trans (aj (a:=(.int .u64 a1)) (b:=(.int .u64 b1)) (by decide) (by kernel_rfl) (by kernel_rfl) (bE Vq) (aj (a:=(.int .u64 a2)) (b:=(.int .u64 b2)) (by decide) (by kernel_rfl) (by kernel_rfl) (bE Vq) (cZ)))) (cZ)))
@[go_sem] theorem T8:Gt 8 4 24/\Fd 8 0 0 2/\Fd 8 1 1 3/\Fd 8 2 2 4/\Fd 8 3 3 6/\aU prog 8=some #[(0,1),(1,1),(2,1),(3,1)]/\Z4 8 (.int .i64 0) (.int .i64 0) (.bool false) (.int .u8 0)/\zSz prog 8=some 4:=mk
@[go_sem] theorem T27:Gt 27 5 56/\Fd 27 0 0 3/\Fd 27 1 1 3/\Fd 27 2 2 3/\Fd 27 3 3 25/\Fd 27 4 4 3/\aU prog 27=some #[(0,1),(1,1),(2,1),(3,1),(4,1)]/\Z5 27 (.int .i64 0) (.int .i64 0) (.int .i64 0) (.slice none 0 0) (.int .i64 0)/\zSz prog 27=some 5:=mk
@[go_sem] theorem T31:Gt 31 4 56/\Fd 31 0 0 9/\Fd 31 1 1 22/\Fd 31 2 2 9/\Fd 31 3 3 9/\aU prog 31=some #[(0,1),(1,1),(2,1),(3,1)]/\Z4 31 (.string {data:=#[]}) (.int .u64 0) (.string {data:=#[]}) (.string {data:=#[]})/\zSz prog 31=some 4/\(type_of%@agB)/\(type_of%@adJ):=⟨mk,(by show _=_;kernel_rfl),(by show _=_;kernel_rfl),(by show _=_;kernel_rfl),(by show _=_;kernel_rfl),(by show _=_;kernel_rfl),(by show _=_;kernel_rfl),(by show _=_;kernel_rfl),@agB,@adJ⟩
@[go_sem] theorem T39:Gt 39 10 200/\Fd 39 0 0 9/\Fd 39 1 1 3/\Fd 39 2 2 3/\Fd 39 3 3 33/\Fd 39 4 4 34/\Fd 39 5 5 35/\Fd 39 6 6 36/\Fd 39 7 7 36/\Fd 39 8 8 36/\Fd 39 9 9 37/\aU prog 39=some #[(0,1),(1,1),(2,1),(3,1),(4,1),(5,1),(6,1),(7,1),(8,1),(9,1)]/\Z10 39 (.string {data:=#[]}) (.int .i64 0) (.int .i64 0) (.slice none 0 0) (.slice none 0 0) (.slice none 0 0) (.slice none 0 0) (.slice none 0 0) (.slice none 0 0) (.slice none 0 0)/\zSz prog 39=some 10:=mk
@[go_sem] theorem T41:Gt 41 20 400/\Fd 41 0 0 39/\Fd 41 1 10 39/\aU prog 41=some #[(0,10),(10,10)]/\aC prog 41=some [.i (.s (.string {data:=#[]})),.i (.s (.int .i64 0)),.i (.s (.int .i64 0)),.i (.s (.slice none 0 0)),.i (.s (.slice none 0 0)),.i (.s (.slice none 0 0)),.i (.s (.slice none 0 0)),.i (.s (.slice none 0 0)),.i (.s (.slice none 0 0)),.i (.s (.slice none 0 0)),.i (.s (.string {data:=#[]})),.i (.s (.int .i64 0)),.i (.s (.int .i64 0)),.i (.s (.slice none 0 0)),.i (.s (.slice none 0 0)),.i (.s (.slice none 0 0)),.i (.s (.slice none 0 0)),.i (.s (.slice none 0 0)),.i (.s (.slice none 0 0)),.i (.s (.slice none 0 0))]/\zSz prog 41=some 20:=mk
@[go_sem] theorem T50:Gt 50 4 64/\Fd 50 0 0 3/\Fd 50 1 1 3/\Fd 50 2 2 25/\Fd 50 3 3 25/\aU prog 50=some #[(0,1),(1,1),(2,1),(3,1)]/\Z4 50 (.int .i64 0) (.int .i64 0) (.slice none 0 0) (.slice none 0 0)/\zSz prog 50=some 4:=mk
@[go_sem] theorem T52:Gt 52 6 104/\Fd 52 0 0 9/\Fd 52 1 1 3/\Fd 52 2 2 3/\Fd 52 3 3 25/\Fd 52 4 4 25/\Fd 52 5 5 25/\aU prog 52=some #[(0,1),(1,1),(2,1),(3,1),(4,1),(5,1)]/\Z6 52 (.string {data:=#[]}) (.int .i64 0) (.int .i64 0) (.slice none 0 0) (.slice none 0 0) (.slice none 0 0)/\zSz prog 52=some 6:=mk
@[go_sem] theorem T56:Gt 56 8 152/\Fd 56 0 0 52/\Fd 56 1 6 53/\Fd 56 2 7 54/\aU prog 56=some #[(0,6),(6,1),(7,1)]/\Z8 56 (.string {data:=#[]}) (.int .i64 0) (.int .i64 0) (.slice none 0 0) (.slice none 0 0) (.slice none 0 0) (.slice none 0 0) (.slice none 0 0)/\zSz prog 56=some 8:=mk
@[go_sem] theorem T58:Gt 58 10 184/\Fd 58 0 0 3/\Fd 58 1 1 56/\Fd 58 2 9 53/\aU prog 58=some #[(0,1),(1,8),(9,1)]/\Z10 58 (.int .i64 0) (.string {data:=#[]}) (.int .i64 0) (.int .i64 0) (.slice none 0 0) (.slice none 0 0) (.slice none 0 0) (.slice none 0 0) (.slice none 0 0) (.slice none 0 0)/\zSz prog 58=some 10:=mk
@[go_sem] theorem T61:Gt 61 5 88/\Fd 61 0 0 3/\Fd 61 1 1 3/\Fd 61 2 2 25/\Fd 61 3 3 25/\Fd 61 4 4 59/\aU prog 61=some #[(0,1),(1,1),(2,1),(3,1),(4,1)]/\Z5 61 (.int .i64 0) (.int .i64 0) (.slice none 0 0) (.slice none 0 0) (.slice none 0 0)/\zSz prog 61=some 5:=mk
def aa_:=T61.1.1
def aev:=T61.1.2.1
@[go_sem] theorem T63:Gt 63 12 184/\Fd 63 0 0 4/\Fd 63 1 1 4/\Fd 63 2 2 61/\Fd 63 3 7 61/\aU prog 63=some #[(0,1),(1,1),(2,5),(7,5)]/\Z12 63 (.bool false) (.bool false) (.int .i64 0) (.int .i64 0) (.slice none 0 0) (.slice none 0 0) (.slice none 0 0) (.int .i64 0) (.int .i64 0) (.slice none 0 0) (.slice none 0 0) (.slice none 0 0)/\zSz prog 63=some 12:=mk
def aav:=T63.1.1
def aaE:=T63.1.2.1
@[go_sem] theorem T64:Gt 64 18 280/\Fd 64 0 0 3/\Fd 64 1 1 61/\Fd 64 2 6 63/\aU prog 64=some #[(0,1),(1,5),(6,12)]/\aC prog 64=some [.i (.s (.int .i64 0)),.i (.s (.int .i64 0)),.i (.s (.int .i64 0)),.i (.s (.slice none 0 0)),.i (.s (.slice none 0 0)),.i (.s (.slice none 0 0)),.i (.s (.bool false)),.i (.s (.bool false)),.i (.s (.int .i64 0)),.i (.s (.int .i64 0)),.i (.s (.slice none 0 0)),.i (.s (.slice none 0 0)),.i (.s (.slice none 0 0)),.i (.s (.int .i64 0)),.i (.s (.int .i64 0)),.i (.s (.slice none 0 0)),.i (.s (.slice none 0 0)),.i (.s (.slice none 0 0))]/\zSz prog 64=some 18:=mk
@[go_sem] theorem T65:Gt 65 18 280/\Fd 65 0 0 3/\Fd 65 1 1 61/\Fd 65 2 6 63/\aU prog 65=some #[(0,1),(1,5),(6,12)]/\aC prog 65=some [.i (.s (.int .i64 0)),.i (.s (.int .i64 0)),.i (.s (.int .i64 0)),.i (.s (.slice none 0 0)),.i (.s (.slice none 0 0)),.i (.s (.slice none 0 0)),.i (.s (.bool false)),.i (.s (.bool false)),.i (.s (.int .i64 0)),.i (.s (.int .i64 0)),.i (.s (.slice none 0 0)),.i (.s (.slice none 0 0)),.i (.s (.slice none 0 0)),.i (.s (.int .i64 0)),.i (.s (.int .i64 0)),.i (.s (.slice none 0 0)),.i (.s (.slice none 0 0)),.i (.s (.slice none 0 0))]/\zSz prog 65=some 18:=mk
@[go_sem] theorem T67:Gt 67 62 936/\Fd 67 0 0 3/\Fd 67 1 1 9/\Fd 67 2 2 3/\Fd 67 3 3 50/\Fd 67 4 7 3/\Fd 67 5 8 58/\Fd 67 6 18 58/\Fd 67 7 28 3/\Fd 67 8 29 3/\Fd 67 9 30 3/\Fd 67 10 31 4/\Fd 67 11 32 65/\Fd 67 12 50 31/\Fd 67 13 54 3/\Fd 67 14 55 3/\Fd 67 15 56 27/\Fd 67 16 61 25/\aU prog 67=some #[(0,1),(1,1),(2,1),(3,4),(7,1),(8,10),(18,10),(28,1),(29,1),(30,1),(31,1),(32,18),(50,4),(54,1),(55,1),(56,5),(61,1)]/\aC prog 67=some [.i (.s (.int .i64 0)),.i (.s (.string {data:=#[]})),.i (.s (.int .i64 0)),.i (.s (.int .i64 0)),.i (.s (.int .i64 0)),.i (.s (.slice none 0 0)),.i (.s (.slice none 0 0)),.i (.s (.int .i64 0)),.i (.s (.int .i64 0)),.i (.s (.string {data:=#[]})),.i (.s (.int .i64 0)),.i (.s (.int .i64 0)),.i (.s (.slice none 0 0)),.i (.s (.slice none 0 0)),.i (.s (.slice none 0 0)),.i (.s (.slice none 0 0)),.i (.s (.slice none 0 0)),.i (.s (.slice none 0 0)),.i (.s (.int .i64 0)),.i (.s (.string {data:=#[]})),.i (.s (.int .i64 0)),.i (.s (.int .i64 0)),.i (.s (.slice none 0 0)),.i (.s (.slice none 0 0)),.i (.s (.slice none 0 0)),.i (.s (.slice none 0 0)),.i (.s (.slice none 0 0)),.i (.s (.slice none 0 0)),.i (.s (.int .i64 0)),.i (.s (.int .i64 0)),.i (.s (.int .i64 0)),.i (.s (.bool false)),.i (.s (.int .i64 0)),.i (.s (.int .i64 0)),.i (.s (.int .i64 0)),.i (.s (.slice none 0 0)),.i (.s (.slice none 0 0)),.i (.s (.slice none 0 0)),.i (.s (.bool false)),.i (.s (.bool false)),.i (.s (.int .i64 0)),.i (.s (.int .i64 0)),.i (.s (.slice none 0 0)),.i (.s (.slice none 0 0)),.i (.s (.slice none 0 0)),.i (.s (.int .i64 0)),.i (.s (.int .i64 0)),.i (.s (.slice none 0 0)),.i (.s (.slice none 0 0)),.i (.s (.slice none 0 0)),.i (.s (.string {data:=#[]})),.i (.s (.int .u64 0)),.i (.s (.string {data:=#[]})),.i (.s (.string {data:=#[]})),.i (.s (.int .i64 0)),.i (.s (.int .i64 0)),.i (.s (.int .i64 0)),.i (.s (.int .i64 0)),.i (.s (.int .i64 0)),.i (.s (.slice none 0 0)),.i (.s (.int .i64 0)),.i (.s (.slice none 0 0))]/\zSz prog 67=some 62:=mk
@[go_sem] theorem T69:Gt 69 7 72/\Fd 69 0 0 43/\Fd 69 1 1 3/\Fd 69 2 2 27/\aU prog 69=some #[(0,1),(1,1),(2,5)]/\Z7 69 (.int .i64 0) (.int .i64 0) (.int .i64 0) (.int .i64 0) (.int .i64 0) (.slice none 0 0) (.int .i64 0)/\zSz prog 69=some 7:=mk
@[go_sem] theorem T74:Gt 74 7 56/\Fd 74 0 0 3/\Fd 74 1 1 4/\Fd 74 2 2 3/\Fd 74 3 3 3/\Fd 74 4 4 3/\Fd 74 5 5 3/\Fd 74 6 6 3/\aU prog 74=some #[(0,1),(1,1),(2,1),(3,1),(4,1),(5,1),(6,1)]/\Z7 74 (.int .i64 0) (.bool false) (.int .i64 0) (.int .i64 0) (.int .i64 0) (.int .i64 0) (.int .i64 0)/\zSz prog 74=some 7/\(type_of%@agA)/\(type_of%@adI):=⟨mk,(by show _=_;kernel_rfl),(by show _=_;kernel_rfl),(by show _=_;kernel_rfl),(by show _=_;kernel_rfl),(by show _=_;kernel_rfl),(by show _=_;kernel_rfl),(by show _=_;kernel_rfl),(by show _=_;kernel_rfl),(by show _=_;kernel_rfl),(by show _=_;kernel_rfl),@agA,@adI⟩
@[go_sem] theorem T80:Gt 80 4 56/\Fd 80 0 0 9/\Fd 80 1 1 3/\Fd 80 2 2 4/\Fd 80 3 3 78/\aU prog 80=some #[(0,1),(1,1),(2,1),(3,1)]/\Z4 80 (.string {data:=#[]}) (.int .i64 0) (.bool false) (.slice none 0 0)/\zSz prog 80=some 4:=mk
@[go_sem] theorem T88:Gt 88 67 976/\Fd 88 0 0 3/\Fd 88 1 1 3/\Fd 88 2 2 3/\Fd 88 3 3 3/\Fd 88 4 4 3/\Fd 88 5 5 67/\aU prog 88=some #[(0,1),(1,1),(2,1),(3,1),(4,1),(5,62)]/\aC prog 88=some [.i (.s (.int .i64 0)),.i (.s (.int .i64 0)),.i (.s (.int .i64 0)),.i (.s (.int .i64 0)),.i (.s (.int .i64 0)),.i (.s (.int .i64 0)),.i (.s (.string {data:=#[]})),.i (.s (.int .i64 0)),.i (.s (.int .i64 0)),.i (.s (.int .i64 0)),.i (.s (.slice none 0 0)),.i (.s (.slice none 0 0)),.i (.s (.int .i64 0)),.i (.s (.int .i64 0)),.i (.s (.string {data:=#[]})),.i (.s (.int .i64 0)),.i (.s (.int .i64 0)),.i (.s (.slice none 0 0)),.i (.s (.slice none 0 0)),.i (.s (.slice none 0 0)),.i (.s (.slice none 0 0)),.i (.s (.slice none 0 0)),.i (.s (.slice none 0 0)),.i (.s (.int .i64 0)),.i (.s (.string {data:=#[]})),.i (.s (.int .i64 0)),.i (.s (.int .i64 0)),.i (.s (.slice none 0 0)),.i (.s (.slice none 0 0)),.i (.s (.slice none 0 0)),.i (.s (.slice none 0 0)),.i (.s (.slice none 0 0)),.i (.s (.slice none 0 0)),.i (.s (.int .i64 0)),.i (.s (.int .i64 0)),.i (.s (.int .i64 0)),.i (.s (.bool false)),.i (.s (.int .i64 0)),.i (.s (.int .i64 0)),.i (.s (.int .i64 0)),.i (.s (.slice none 0 0)),.i (.s (.slice none 0 0)),.i (.s (.slice none 0 0)),.i (.s (.bool false)),.i (.s (.bool false)),.i (.s (.int .i64 0)),.i (.s (.int .i64 0)),.i (.s (.slice none 0 0)),.i (.s (.slice none 0 0)),.i (.s (.slice none 0 0)),.i (.s (.int .i64 0)),.i (.s (.int .i64 0)),.i (.s (.slice none 0 0)),.i (.s (.slice none 0 0)),.i (.s (.slice none 0 0)),.i (.s (.string {data:=#[]})),.i (.s (.int .u64 0)),.i (.s (.string {data:=#[]})),.i (.s (.string {data:=#[]})),.i (.s (.int .i64 0)),.i (.s (.int .i64 0)),.i (.s (.int .i64 0)),.i (.s (.int .i64 0)),.i (.s (.int .i64 0)),.i (.s (.slice none 0 0)),.i (.s (.int .i64 0)),.i (.s (.slice none 0 0))]/\zSz prog 88=some 67:=mk
@[go_sem] theorem T95:Gt 95 13 272/\Fd 95 0 0 39/\Fd 95 1 10 59/\Fd 95 2 11 53/\Fd 95 3 12 93/\aU prog 95=some #[(0,10),(10,1),(11,1),(12,1)]/\aC prog 95=some [.i (.s (.string {data:=#[]})),.i (.s (.int .i64 0)),.i (.s (.int .i64 0)),.i (.s (.slice none 0 0)),.i (.s (.slice none 0 0)),.i (.s (.slice none 0 0)),.i (.s (.slice none 0 0)),.i (.s (.slice none 0 0)),.i (.s (.slice none 0 0)),.i (.s (.slice none 0 0)),.i (.s (.slice none 0 0)),.i (.s (.slice none 0 0)),.i (.s (.slice none 0 0))]/\zSz prog 95=some 13:=mk
@[go_sem] theorem ahU:Gt 100 3 40/\Fd 100 0 0 9/\Fd 100 1 1 9/\Fd 100 2 2 22/\aU prog 100=some #[(0,1),(1,1),(2,1)]/\Z3 100 (.string {data:=#[]}) (.string {data:=#[]}) (.int .u64 0)/\zSz prog 100=some 3/\(type_of%@adQ)/\(type_of%@WT):=⟨mk,(by show _=_;kernel_rfl),(by show _=_;kernel_rfl),(by show _=_;kernel_rfl),(by show _=_;kernel_rfl),(by show _=_;kernel_rfl),(by show _=_;kernel_rfl),@adQ,@WT⟩
@[go_sem] theorem ahR:Gt 107 4 32/\Fd 107 0 0 3/\Fd 107 1 1 3/\Fd 107 2 2 3/\Fd 107 3 3 3/\aU prog 107=some #[(0,1),(1,1),(2,1),(3,1)]/\Z4 107 (.int .i64 0) (.int .i64 0) (.int .i64 0) (.int .i64 0)/\zSz prog 107=some 4/\(type_of%@adP)/\(type_of%@WS):=⟨mk,(by show _=_;kernel_rfl),(by show _=_;kernel_rfl),(by show _=_;kernel_rfl),(by show _=_;kernel_rfl),(by show _=_;kernel_rfl),(by show _=_;kernel_rfl),(by show _=_;kernel_rfl),@adP,@WS⟩
@[go_sem] theorem ahP:Gt 112 2 16/\Fd 112 0 0 22/\Fd 112 1 1 22/\aU prog 112=some #[(0,1),(1,1)]/\Z2 112 (.int .u64 0) (.int .u64 0)/\zSz prog 112=some 2/\(type_of%@adO)/\(type_of%@WR):=⟨mk,(by show _=_;kernel_rfl),(by show _=_;kernel_rfl),(by show _=_;kernel_rfl),(by show _=_;kernel_rfl),(by show _=_;kernel_rfl),@adO,@WR⟩
@[go_sem] theorem ahO:Gt 132 18 352/\Fd 132 0 0 56/\Fd 132 1 8 39/\aU prog 132=some #[(0,8),(8,10)]/\aC prog 132=some [.i (.s (.string {data:=#[]})),.i (.s (.int .i64 0)),.i (.s (.int .i64 0)),.i (.s (.slice none 0 0)),.i (.s (.slice none 0 0)),.i (.s (.slice none 0 0)),.i (.s (.slice none 0 0)),.i (.s (.slice none 0 0)),.i (.s (.string {data:=#[]})),.i (.s (.int .i64 0)),.i (.s (.int .i64 0)),.i (.s (.slice none 0 0)),.i (.s (.slice none 0 0)),.i (.s (.slice none 0 0)),.i (.s (.slice none 0 0)),.i (.s (.slice none 0 0)),.i (.s (.slice none 0 0)),.i (.s (.slice none 0 0))]/\zSz prog 132=some 18:=mk
@[go_sem] theorem ahK:Gt 153 3 40/\Fd 153 0 0 3/\Fd 153 1 1 3/\Fd 153 2 2 25/\aU prog 153=some #[(0,1),(1,1),(2,1)]/\Z3 153 (.int .i64 0) (.int .i64 0) (.slice none 0 0)/\zSz prog 153=some 3:=mk
@[go_sem] theorem ahI:Gt 157 3 40/\Fd 157 0 0 3/\Fd 157 1 1 22/\Fd 157 2 2 25/\aU prog 157=some #[(0,1),(1,1),(2,1)]/\Z3 157 (.int .i64 0) (.int .u64 0) (.slice none 0 0)/\zSz prog 157=some 3:=mk
@[go_sem] theorem agI:Gt 162 2 16/\Fd 162 0 0 43/\Fd 162 1 1 3/\aU prog 162=some #[(0,1),(1,1)]/\Z2 162 (.int .i64 0) (.int .i64 0)/\zSz prog 162=some 2/\(type_of%@adN)/\(type_of%@WQ):=⟨mk,(by show _=_;kernel_rfl),(by show _=_;kernel_rfl),(by show _=_;kernel_rfl),(by show _=_;kernel_rfl),(by show _=_;kernel_rfl),@adN,@WQ⟩
def rP:=agI.1.1
def tF:=agI.1.2.1
@[go_sem] theorem agH:Gt 171 2 16/\Fd 171 0 0 22/\Fd 171 1 1 22/\aU prog 171=some #[(0,1),(1,1)]/\Z2 171 (.int .u64 0) (.int .u64 0)/\zSz prog 171=some 2/\(type_of%@adM)/\(type_of%@WP):=⟨mk,(by show _=_;kernel_rfl),(by show _=_;kernel_rfl),(by show _=_;kernel_rfl),(by show _=_;kernel_rfl),(by show _=_;kernel_rfl),@adM,@WP⟩
def afh:=agH.1.1
def agb:=agH.1.2.1
@[go_sem] theorem ahH:Gt 175 3 24/\Fd 175 0 0 4/\Fd 175 1 1 171/\aU prog 175=some #[(0,1),(1,2)]/\Z3 175 (.bool false) (.int .u64 0) (.int .u64 0)/\zSz prog 175=some 3/\(type_of%@adL)/\(type_of%@WO):=⟨mk,(by show _=_;kernel_rfl),(by show _=_;kernel_rfl),(by show _=_;kernel_rfl),(by show _=_;kernel_rfl),(by show _=_;kernel_rfl),@adL,@WO⟩
@[go_sem] theorem ahC:Gt 208 2 48/\Fd 208 0 0 25/\Fd 208 1 1 25/\aU prog 208=some #[(0,1),(1,1)]/\Z2 208 (.slice none 0 0) (.slice none 0 0)/\zSz prog 208=some 2:=mk
@[go_sem] theorem aht:Gt 361 2 32/\Fd 361 0 0 25/\Fd 361 1 1 4/\aU prog 361=some #[(0,1),(1,1)]/\Z2 361 (.slice none 0 0) (.bool false)/\zSz prog 361=some 2:=mk
@[go_sem] theorem s2b:(∀s:ByteArray,Av prog 9 25 (some (.string s))=none)/\(∀s:ByteArray,Av prog 10 25 (some (.string s))=none):=⟨λ_=>IL un9 afg un5,λ_=>IL ahb afg un5⟩
end Go.Proofs.YtoifllbioldomaaGreatDoor.Ty
