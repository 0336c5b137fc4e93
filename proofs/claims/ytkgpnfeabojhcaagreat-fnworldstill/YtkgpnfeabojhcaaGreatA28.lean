/- Part 28 of a proof: an evaluator of the program, proved sound, and what it answers. -/
import Derived.Test.YtkgpnfeabojhcaaGreatA27
set_option linter.all false
namespace Go.Gn
open Go
set_option maxRecDepth 100000
set_option maxHeartbeats 16000000
def rightM (n o : NodeM) (term : Int) (both : Bool) (done : List OpM) : Bool :=
 !(n.term != term) && (n.leads && (!(n.alone == both) && (!(decide (o.term > term)) && (!o.alone && (!(both && (o.term != term)) && (!((o.term == term) && (o.leads || !pre o.ops n.ops)) && (pre done n.ops && (!(both && !pre done o.ops) && !(n.alone && ((done.length : Int) != (n.ops.length : Int)))))))))))
def letterM (w : WorldM) (m : MsgM) : Bool := msgOk m && trueM (w.nd w.lead) (w.nd (3 - w.lead)) w.term w.lead w.done m
def worldOkM (w : WorldM) : Bool := !(decide ((w.nets.length : Int) > 12)) && (nodeOk w.n1 && (nodeOk w.n2 && (rightM (w.nd w.lead) (w.nd (3 - w.lead)) w.term w.both w.done && w.nets.all (letterM w))))
structure WL (w : WorldM) : Prop where
 lead : w.lead = 1 ∨ w.lead = 2
 o1 : OpsSz w.n1.ops
 o2 : OpsSz w.n2.ops
 nl : w.nets.length < 2000000
 nets : ∀ m ∈ w.nets, MsgSz m
 done : OpsSz w.done
section
variable {W : CallF} {L : LoopF} {E : EqF} {T : Prop → Bool} (h : IsK G W L E T)
include h
end
end Go.Gn

