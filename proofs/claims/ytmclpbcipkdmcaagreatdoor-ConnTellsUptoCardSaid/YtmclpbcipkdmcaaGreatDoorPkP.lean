/- Packets: what a step comes to. No program is in sight. -/
import Derived.Test.YtmclpbcipkdmcaaGreatDoorChP
import Derived.Test.YtmclpbcipkdmcaaGreatDoorGMk
set_option linter.all false
namespace Go.Proofs.YtmclpbcipkdmcaaGreatDoor
open Go Go.Abs

structure PackD where
  fr : Int
  de : Int
  seq : Int
  data : List UInt8
  tout : Int
def encPk (p : PackD) : List I := [.s (.int .i64 p.fr), .s (.int .i64 p.de), .s (.int .i64 p.seq), bI p.data, .s (.int .i64 p.tout)]
def packD (p : PackD) : D := .agg [.i (.s (.int .i64 p.fr)), .i (.s (.int .i64 p.de)), .i (.s (.int .i64 p.seq)), .i (bI p.data), .i (.s (.int .i64 p.tout))]
def zeroPk : PackD := ⟨0, 0, 0, [], 0⟩
attribute [simp, go_sem] encPk packD zeroPk
structure PkOk (p : PackD) : Prop where
  fr : N12 0 p.fr
  de : N12 0 p.de
  seq : N12 1 p.seq
  tout : N12 1 p.tout
  data : p.data.length ≤ 150
end Go.Proofs.YtmclpbcipkdmcaaGreatDoor
