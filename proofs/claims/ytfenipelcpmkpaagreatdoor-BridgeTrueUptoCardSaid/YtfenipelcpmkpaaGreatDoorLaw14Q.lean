/- Chapter 14, plain: what a message leaves of what channels have received. No program is in sight. -/
import Derived.Test.YtfenipelcpmkpaaGreatDoorLaw14P
set_option linter.all false
namespace Go.Proofs.YtfenipelcpmkpaaGreatDoor
open Go Go.Abs
structure aaK (s:StateD) (m:MsgD) (t:StateD):Prop where
 len:s.chs.length<=t.chs.length
 old:∀ i:Nat,i < s.chs.length->(chAt t i).ord=(chAt s i).ord/\((chAt s i).ord=true->(chAt t i).rcv=(chAt s i).rcv+(if m.kind=15/\m.pk.de=i then 1 else 0))
 new:∀ i:Nat,s.chs.length<=i->i < t.chs.length->(chAt t i).rcv=1
 arr:m.kind=15->(0<=m.pk.de/\m.pk.de < (s.chs.length:Int))/\((chAt s m.pk.de).ord=true->m.pk.seq=(chAt s m.pk.de).rcv)/\N12 1 m.pk.seq
end Go.Proofs.YtfenipelcpmkpaaGreatDoor
