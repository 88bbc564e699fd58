/- States, as plain data; their values in a walk. -/
import Derived.Test.YtmclpbcipkdmcaaDoorClL
import Derived.Test.YtmclpbcipkdmcaaDoorPurD
set_option linter.all false
namespace Go.Proofs.YtmclpbcipkdmcaaDoor
open Go Go.Abs

structure ConnD where
  st : Int
  cl : Int
  oc : Int
  on : Int
structure ChanD where
  st : Int
  ord : Bool
  cn : Int
  oc : Int
  snd : Int
  rcv : Int
  ack : Int
structure MarkD where
  ch : Int
  seq : Int
  dg : List UInt8
structure StateD where
  name : ByteArray
  h : Int
  t : Int
  cls : List ClientD
  cns : List ConnD
  chs : List ChanD
  sent : List MarkD
  got : List MarkD
  acks : List MarkD
  pus : List PurseD
def encCn (c : ConnD) : List I := [.s (.int .i64 c.st), .s (.int .i64 c.cl), .s (.int .i64 c.oc), .s (.int .i64 c.on)]
def connD (c : ConnD) : D := .agg [.i (.s (.int .i64 c.st)), .i (.s (.int .i64 c.cl)), .i (.s (.int .i64 c.oc)), .i (.s (.int .i64 c.on))]
def encCh (c : ChanD) : List I := [.s (.int .i64 c.st), .s (.bool c.ord), .s (.int .i64 c.cn), .s (.int .i64 c.oc), .s (.int .i64 c.snd), .s (.int .i64 c.rcv), .s (.int .i64 c.ack)]
def chanD (c : ChanD) : D := .agg [.i (.s (.int .i64 c.st)), .i (.s (.bool c.ord)), .i (.s (.int .i64 c.cn)), .i (.s (.int .i64 c.oc)), .i (.s (.int .i64 c.snd)), .i (.s (.int .i64 c.rcv)), .i (.s (.int .i64 c.ack))]
def encM (m : MarkD) : List I := [.s (.int .i64 m.ch), .s (.int .i64 m.seq), bI m.dg]
def markD (m : MarkD) : D := .agg [.i (.s (.int .i64 m.ch)), .i (.s (.int .i64 m.seq)), .i (bI m.dg)]
def encSt (s : StateD) : List I := [.s (.string s.name), .s (.int .i64 s.h), .s (.int .i64 s.t), .sl (s.cls.map encC), .sl (s.cns.map encCn), .sl (s.chs.map encCh), .sl (s.sent.map encM), .sl (s.got.map encM), .sl (s.acks.map encM), .sl (s.pus.map encPu)]
def stateD (s : StateD) : D := .agg [.i (.s (.string s.name)), .i (.s (.int .i64 s.h)), .i (.s (.int .i64 s.t)), .i (.sl (s.cls.map encC)), .i (.sl (s.cns.map encCn)), .i (.sl (s.chs.map encCh)), .i (.sl (s.sent.map encM)), .i (.sl (s.got.map encM)), .i (.sl (s.acks.map encM)), .i (.sl (s.pus.map encPu))]
def zeroSt : StateD := ⟨⟨#[]⟩, 0, 0, [], [], [], [], [], [], []⟩
structure StSm (s : StateD) : Prop where
  cls : s.cls.length ≤ 1048576
  cl : ∀ c ∈ s.cls, ClSm c
  cns : s.cns.length ≤ 1048576
  chs : s.chs.length ≤ 1048576
  sent : s.sent.length ≤ 1048576
  got : s.got.length ≤ 1048576
  acks : s.acks.length ≤ 1048576
  dg : ∀ m, m ∈ s.sent ∨ m ∈ s.got ∨ m ∈ s.acks → m.dg.length ≤ 1048576
  pus : s.pus.length ≤ 1048576
attribute [simp, go_sem] encCn connD encCh chanD encM markD encSt stateD zeroSt encPu puD pusI
end Go.Proofs.YtmclpbcipkdmcaaDoor
