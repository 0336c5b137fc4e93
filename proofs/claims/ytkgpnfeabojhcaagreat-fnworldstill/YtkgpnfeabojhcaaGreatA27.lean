/- Part 27 of a proof: an evaluator of the program, proved sound, and what it answers. -/
import Derived.Test.YtkgpnfeabojhcaaGreatA19
set_option linter.all false
namespace Go.Gn
open Go
set_option maxRecDepth 100000
set_option maxHeartbeats 16000000
def pre : List OpM → List OpM → Bool
 | [], _ => true
 | _ :: _, [] => false
 | x :: a, y :: b => decide (x = y) && pre a b
theorem pre_iff : ∀ (a b : List OpM), pre a b = true ↔ a <+: b
 | [], b => by simp [pre]
 | x :: a, [] => by simp [pre]
 | x :: a, y :: b => by simp [pre, pre_iff a b, List.cons_prefix_cons]
theorem pre_begins (a b : List OpM) : beginsM a b = pre a b := by
 rw [Bool.eq_iff_iff, pre_iff]
 unfold beginsM opsEq
 rw [Bool.and_eq_true, decide_eq_true_eq, decide_eq_true_eq]
 constructor
 ·rintro ⟨_, h⟩
  rw [h]; exact List.take_prefix _ _
 ·intro h
  exact ⟨by have := h.length_le; omega, List.prefix_iff_eq_take.1 h⟩
def hasK (m : MsgM) : Bool := (m.kind == 2) || (m.kind == 4)
def hasOp (os : List OpM) (n : Int) (o : OpM) : Bool := match os[(n - 1).toNat]? with | some x => opEq x o | none => false
def trueM (n o : NodeM) (term lead : Int) (done : List OpM) (m : MsgM) : Bool :=
 bif decide (m.term > term) then false else
 bif decide (m.term < term) && (hasK m && ((m.to == 3 - lead) && (o.leads && (o.term == m.term)))) then decide (m.n ≤ (o.ops.length : Int)) && pre (o.ops.take m.n.toNat) done else
 bif decide (m.term < term) then true else
 bif hasK m then (m.to == lead) && ((o.term == term) && decide (m.n ≤ (o.ops.length : Int))) else
 bif m.kind == 1 then (m.to == 3 - lead) && (decide (m.n ≤ (n.ops.length : Int)) && hasOp n.ops m.n m.op) else
 (m.to == 3 - lead) && pre m.ops n.ops
section
variable {W : CallF} {L : LoopF} {E : EqF} {T : Prop → Bool} (h : IsK G W L E T)
include h
end
end Go.Gn

