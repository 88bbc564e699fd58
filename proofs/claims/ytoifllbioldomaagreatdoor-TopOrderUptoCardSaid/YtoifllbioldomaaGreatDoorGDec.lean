/- Merged texts: DecB, Dec5, DecC0, DecHd, DecSt, DecCl, DecMsg, DecEv. -/
import Derived.Test.YtoifllbioldomaaGreatDoorGBc
set_option linter.all false
namespace Go.Proofs.YtoifllbioldomaaGreatDoor
open Go Go.Abs Go.RowKit
open Go.Proofs.YtoifllbioldomaaGreatDoor.Ty
def encEv (e:EvD):List I:=.s (.int .i64 e.kind)::.s (.int .i64 e.side)::.s (.int .i64 e.later)::.s (.int .i64 e.trust)::.s (.int .i64 e.cl)::[.s (.int .i64 e.m.kind),.s (.string e.m.chain),.s (.int .i64 e.m.trust),.s (.int .i64 e.m.kn.h),.s (.int .i64 e.m.kn.t),bI e.m.kn.root,bI e.m.kn.next,.s (.int .i64 e.m.cl),.s (.int .i64 e.m.up.fr),.s (.string e.m.up.sg.hdr.c),.s (.int .i64 e.m.up.sg.hdr.h),.s (.int .i64 e.m.up.sg.hdr.t),bI e.m.up.sg.hdr.root,bI e.m.up.sg.hdr.vals,bI e.m.up.sg.hdr.next,valsI e.m.up.sg.vals,votesI e.m.up.sg.votes,valsI e.m.up.tr,.s (.int .i64 e.m.up2.fr),.s (.string e.m.up2.sg.hdr.c),.s (.int .i64 e.m.up2.sg.hdr.h),.s (.int .i64 e.m.up2.sg.hdr.t),bI e.m.up2.sg.hdr.root,bI e.m.up2.sg.hdr.vals,bI e.m.up2.sg.hdr.next,valsI e.m.up2.sg.vals,votesI e.m.up2.sg.votes,valsI e.m.up2.tr,.s (.int .i64 e.m.other),.s (.int .i64 e.m.oend),.s (.int .i64 e.m.ed),.s (.bool e.m.ord),.s (.int .i64 e.m.sh.h),.s (.int .i64 e.m.sh.p.i),.s (.int .i64 e.m.sh.p.n),bI e.m.sh.p.k,bI e.m.sh.p.v,bbI e.m.sh.p.path,.s (.bool e.m.sh.g.hl),.s (.bool e.m.sh.g.hr),.s (.int .i64 e.m.sh.g.left.i),.s (.int .i64 e.m.sh.g.left.n),bI e.m.sh.g.left.k,bI e.m.sh.g.left.v,bbI e.m.sh.g.left.path,.s (.int .i64 e.m.sh.g.right.i),.s (.int .i64 e.m.sh.g.right.n),bI e.m.sh.g.right.k,bI e.m.sh.g.right.v,bbI e.m.sh.g.right.path,.s (.string e.m.tr.d),.s (.int .u64 e.m.tr.n),.s (.string e.m.tr.s),.s (.string e.m.tr.r),.s (.int .i64 e.m.tout),.s (.int .i64 e.m.next),.s (.int .i64 e.m.pk.fr),.s (.int .i64 e.m.pk.de),.s (.int .i64 e.m.pk.seq),bI e.m.pk.data,.s (.int .i64 e.m.pk.tout),bI e.m.ack]
attribute [simp,go_sem] encEv
def oZ (e:EvD):Prop:=tH e.m/\QQ e.m
end Go.Proofs.YtoifllbioldomaaGreatDoor
