/- Part 21 of a proof: an evaluator of the program, proved sound, and what it answers. -/
import Derived.Test.YtiicdghimmpjnaaGreatA20
set_option linter.all false
namespace Go.Gn
open Go
set_option linter.unusedVariables false
set_option linter.unusedSimpArgs false
set_option maxRecDepth 100000
set_option maxHeartbeats 8000000
inductive Cop where
 | no | has | add
def copK (n : NodeM) (m : MsgM) : Cop := if (m.term != n.term) || n.leads then .no else
 if decide (m.n ≤ (n.ops.length : Int)) then (match n.ops[(m.n - 1).toNat]? with | some o => if opEq o m.op then .has else .no | none => .no)
 else if decide (m.n > (n.ops.length : Int) + 1) then .no else if canAdd n.ops m.op then .add else .no
def hasMsg (n : NodeM) (id : Int) (m : MsgM) : MsgM := ⟨2, 3 - id, n.term, m.n, noOp, []⟩
section
variable {W : CallF} {L : LoopF} {E : EqF} {T : Prop → Bool} (h : IsK G W L E T)
include h
theorem ev_l21Copied (n : NodeM) (hs : OpsSz n.ops) (hr0 : (runM poolNew n.ops).isSome = true) (h20 : n.ops.length ≤ 20) (id : Int) (hid : 1 ≤ id ∧ id ≤ 2) (m : MsgM) (ho : m.op.Sz) (hm : 1 ≤ m.n ∧ m.n ≤ 20) :
  match copK n m with
  | .no => ∃ mm, W f_spec_l21Copied [nodeW n 0, .int .i64 id, msgA m] [opsRow n.ops] = some (.tup [nodeW n 0, msgZ mm, .bool false], [opsRow n.ops])
  | .has => W f_spec_l21Copied [nodeW n 0, .int .i64 id, msgA m] [opsRow n.ops] = some (.tup [nodeW n 0, msgZ (hasMsg n id m), .bool true], [opsRow n.ops])
  | .add => W f_spec_l21Copied [nodeW n 0, .int .i64 id, msgA m] [opsRow n.ops] = some (.tup [nodeW n 1, msgZ (hasMsg n id m), .bool true], [.dead, opsRow (n.ops ++ [m.op])]) := by
 have ea := ev_l21Add h n hs hr0 m.op ho
 have hw : IntKind.i64.wrap (3 - id) = 3 - id := wrap_id (by omega) (by omega)
 have hlen : ((n.ops.map opD).length : Nat) = n.ops.length := List.length_map ..
 have hle : decide (m.n ≤ ((n.ops.map opD).length : Int)) = decide (m.n ≤ (n.ops.length : Int)) := by rw [hlen]
 have hw1 : IntKind.i64.wrap (((n.ops.map opD).length : Nat) + 1) = (n.ops.length : Int) + 1 := by rw [hlen, wrap_id (by omega) (by omega)]
 have hgt : decide (m.n > IntKind.i64.wrap (((n.ops.map opD).length : Nat) + 1)) = decide (m.n > (n.ops.length : Int) + 1) := by rw [hw1]
 unfold copK hasMsg
 obtain ⟨up, term, leads, alone, ops⟩ := n
 simp only at *
 cases ht : m.term != term
 ·cases leads
  ·simp only [Bool.or_false, Bool.false_eq_true, if_false]
   cases h1 : decide (m.n ≤ (ops.length : Int))
   ·rw [h1] at hle
    simp only [Bool.false_eq_true, if_false]
    cases h2 : decide (m.n > (ops.length : Int) + 1)
    ·rw [h2] at hgt
     simp only [Bool.false_eq_true, if_false]
     cases hc : canAdd ops m.op
     ·simp only [hc, Bool.false_eq_true, if_false] at ea ⊢
      refine ⟨⟨2, IntKind.i64.wrap (3 - id), term, m.n, noOp, []⟩, ?_⟩
      rw [h.call]
      repeat (conv=>lhs;whnf;arg 2;tactic=>first|exact g1|exact ht|exact hle|exact hgt|exact ea|exact gS|exact congrArg not ht|exact congrArg not hle|exact congrArg not hgt|exact congrArg not ea|exact g2)
      rfl
     ·simp only [hc, if_true] at ea ⊢
      rw [h.call, ← hw]
      repeat (conv=>lhs;whnf;arg 2;tactic=>first|exact g1|exact ht|exact hle|exact hgt|exact ea|exact gS|exact congrArg not ht|exact congrArg not hle|exact congrArg not hgt|exact congrArg not ea|exact g2)
      rfl
    ·rw [h2] at hgt
     simp only [if_true]
     refine ⟨noMsg, ?_⟩
     rw [h.call]
     repeat (conv=>lhs;whnf;arg 2;tactic=>first|exact g1|exact ht|exact hle|exact hgt|exact congrArg not ht|exact congrArg not hle|exact congrArg not hgt|exact g2)
     rfl
   ·rw [h1] at hle
    simp only [if_true]
    simp only [decide_eq_true_eq] at h1
    obtain ⟨k, hk⟩ : ∃ k : Nat, m.n = (k : Int) + 1 := ⟨(m.n - 1).toNat, by omega⟩
    have hk' : (m.n - 1).toNat = k := by omega
    have hwk : IntKind.i64.wrap (m.n - 1) = (k : Int) := by rw [wrap_id (by omega) (by omega)]; omega
    obtain ⟨o, hoo⟩ := get_some (xs := ops) (i := k) (by omega)
    have heq := E_op h o m.op
    simp only [hk', hoo]
    cases he : opEq o m.op
    ·rw [he] at heq
     simp only [Bool.false_eq_true, if_false]
     refine ⟨⟨2, IntKind.i64.wrap (3 - id), term, m.n, noOp, []⟩, ?_⟩
     rw [h.call]
     repeat (conv=>lhs;whnf;arg 2;tactic=>first|exact g1|exact ht|exact hle|exact hwk|exact map_get hoo|exact heq|exact gS|exact congrArg not ht|exact congrArg not hle|exact congrArg not hwk|exact congrArg not heq|exact g2)
     rfl
    ·rw [he] at heq
     simp only [if_true]
     rw [h.call, ← hw]
     repeat (conv=>lhs;whnf;arg 2;tactic=>first|exact g1|exact ht|exact hle|exact hwk|exact map_get hoo|exact heq|exact gS|exact congrArg not ht|exact congrArg not hle|exact congrArg not hwk|exact congrArg not heq|exact g2)
     rfl
  ·simp only [Bool.or_true, if_true]
   refine ⟨noMsg, ?_⟩
   rw [h.call]
   repeat (conv=>lhs;whnf;arg 2;tactic=>first|exact g1|exact ht|exact congrArg not ht|exact g2)
   rfl
 ·simp only [Bool.true_or, if_true]
  refine ⟨noMsg, ?_⟩
  rw [h.call]
  repeat (conv=>lhs;whnf;arg 2;tactic=>first|exact g1|exact ht|exact congrArg not ht|exact g2)
  rfl
end
end Go.Gn

