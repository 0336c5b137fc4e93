/- Part 20 of a proof: an evaluator of the program, proved sound, and what it answers. -/
import Derived.Test.YtiicdghimmpjnaaGreatA19
set_option linter.all false
namespace Go.Gn
open Go
set_option linter.unusedVariables false
set_option linter.unusedSimpArgs false
set_option maxRecDepth 100000
set_option maxHeartbeats 8000000
section
variable {W : CallF} {L : LoopF} {E : EqF} {T : Prop → Bool} (h : IsK G W L E T)
include h
theorem ev_l21Msg (m : MsgM) (hs : MsgSz m) : W f_spec_l21Msg [msgA m] [] = some (.bool (msgOk m), []) := by
 have n1 : ∀ {a b : Int}, ¬ a = b → (a == b) = false := fun hab => by simp [hab]
 have y1 : ∀ {a b : Int}, a = b → (a == b) = true := fun hab => by simp [hab]
 have i1 := ev_l6In h m.to 1 2
 have i2 := ev_l6In h m.term 0 99
 have i3 := ev_l6In h m.n 0 20
 have hn := ev_sPoolNew h
 have hoo := ev_sOpOk h m.op hs.op
 rw [sOpOk_eq] at hoo
 have heq := E_op h m.op noOp
 have hlen : ((m.ops.map opD).length : Nat) = m.ops.length := List.length_map ..
 have hl0 : (((m.ops.map opD).length : Int) == 0) = ((m.ops.length : Int) == 0) := by rw [hlen]
 have hln : (((m.ops.map opD).length : Int) == m.n) = ((m.ops.length : Int) == m.n) := by rw [hlen]
 obtain ⟨a, b, x, e, hr, _⟩ := ev_run0 h m.ops hs.ops
 unfold msgOk
 rw [h.call]
 cases t1 : inR m.to 1 2
 ·repeat (conv=>lhs;whnf;arg 2;tactic=>first|exact g1|exact i1|exact t1|exact congrArg not i1|exact congrArg not t1|exact g2)
  rfl
 ·cases t2 : inR m.term 0 99
  ·repeat (conv=>lhs;whnf;arg 2;tactic=>first|exact g1|exact i1|exact t1|exact i2|exact t2|exact congrArg not i1|exact congrArg not t1|exact congrArg not i2|exact congrArg not t2|exact g2)
   rfl
  ·cases t3 : inR m.n 0 20
   ·repeat (conv=>lhs;whnf;arg 2;tactic=>first|exact g1|exact i1|exact t1|exact i2|exact t2|exact i3|exact t3|exact congrArg not i1|exact congrArg not t1|exact congrArg not i2|exact congrArg not t2|exact congrArg not i3|exact congrArg not t3|exact g2)
    rfl
   ·have h20 : m.n ≤ 20 := by
     simp only [inR, Bool.and_eq_true, decide_eq_true_eq] at t3
     omega
    simp only [Bool.true_and]
    by_cases k1 : m.kind = 1
    ·rw [if_pos k1]
     cases o1 : opOk m.op
     ·rcases hr with rfl | ⟨ys, rfl⟩ | ⟨xs, ys, rfl⟩
      all_goals
       repeat (conv=>lhs;whnf;arg 2;tactic=>first|exact g1|exact i1|exact t1|exact i2|exact t2|exact i3|exact t3|exact hn|exact e|exact gS|exact y1 k1|exact hoo|exact o1|exact congrArg not i1|exact congrArg not t1|exact congrArg not i2|exact congrArg not t2|exact congrArg not i3|exact congrArg not t3|exact congrArg not hn|exact congrArg not e|exact congrArg not hoo|exact congrArg not o1|exact g2)
       rfl
     ·cases z : ((m.ops.length : Int) == 0)
      ·rw [z] at hl0
       rw [Bool.and_false, Bool.and_false]
       rcases hr with rfl | ⟨ys, rfl⟩ | ⟨xs, ys, rfl⟩
       all_goals
        repeat (conv=>lhs;whnf;arg 2;tactic=>first|exact g1|exact i1|exact t1|exact i2|exact t2|exact i3|exact t3|exact hn|exact e|exact gS|exact y1 k1|exact hoo|exact o1|exact hl0|exact congrArg not i1|exact congrArg not t1|exact congrArg not i2|exact congrArg not t2|exact congrArg not i3|exact congrArg not t3|exact congrArg not hn|exact congrArg not e|exact congrArg not hoo|exact congrArg not o1|exact congrArg not hl0|exact g2)
        rfl
      ·rw [z] at hl0
       rw [Bool.and_true, Bool.true_and]
       have hgt : decide (m.n ≥ 1) = decide (m.n > 0) := decide_eq_decide.mpr (by omega)
       rw [hgt]
       rcases hr with rfl | ⟨ys, rfl⟩ | ⟨xs, ys, rfl⟩
       all_goals
        repeat (conv=>lhs;whnf;arg 2;tactic=>first|exact g1|exact i1|exact t1|exact i2|exact t2|exact i3|exact t3|exact hn|exact e|exact gS|exact y1 k1|exact hoo|exact o1|exact hl0|exact congrArg not i1|exact congrArg not t1|exact congrArg not i2|exact congrArg not t2|exact congrArg not i3|exact congrArg not t3|exact congrArg not hn|exact congrArg not e|exact congrArg not hoo|exact congrArg not o1|exact congrArg not hl0|exact g2)
        rfl
    ·rw [if_neg k1]
     by_cases k24 : m.kind = 2 ∨ m.kind = 4
     ·rw [if_pos k24]
      cases o1 : opEq m.op noOp
      ·rw [o1] at heq
       rcases k24 with k2 | k4
       ·rcases hr with rfl | ⟨ys, rfl⟩ | ⟨xs, ys, rfl⟩
        all_goals
         repeat (conv=>lhs;whnf;arg 2;tactic=>first|exact g1|exact i1|exact t1|exact i2|exact t2|exact i3|exact t3|exact hn|exact e|exact gS|exact n1 k1|exact y1 k2|exact heq|exact congrArg not i1|exact congrArg not t1|exact congrArg not i2|exact congrArg not t2|exact congrArg not i3|exact congrArg not t3|exact congrArg not hn|exact congrArg not e|exact congrArg not heq|exact g2)
         rfl
       ·have k2 : ¬ m.kind = 2 := by omega
        rcases hr with rfl | ⟨ys, rfl⟩ | ⟨xs, ys, rfl⟩
        all_goals
         repeat (conv=>lhs;whnf;arg 2;tactic=>first|exact g1|exact i1|exact t1|exact i2|exact t2|exact i3|exact t3|exact hn|exact e|exact gS|exact n1 k1|exact n1 k2|exact y1 k4|exact heq|exact congrArg not i1|exact congrArg not t1|exact congrArg not i2|exact congrArg not t2|exact congrArg not i3|exact congrArg not t3|exact congrArg not hn|exact congrArg not e|exact congrArg not heq|exact g2)
         rfl
      ·rw [o1] at heq
       rw [Bool.true_and, ← hl0]
       rcases k24 with k2 | k4
       ·rcases hr with rfl | ⟨ys, rfl⟩ | ⟨xs, ys, rfl⟩
        all_goals
         repeat (conv=>lhs;whnf;arg 2;tactic=>first|exact g1|exact i1|exact t1|exact i2|exact t2|exact i3|exact t3|exact hn|exact e|exact gS|exact n1 k1|exact y1 k2|exact heq|exact congrArg not i1|exact congrArg not t1|exact congrArg not i2|exact congrArg not t2|exact congrArg not i3|exact congrArg not t3|exact congrArg not hn|exact congrArg not e|exact congrArg not heq|exact g2)
         rfl
       ·have k2 : ¬ m.kind = 2 := by omega
        rcases hr with rfl | ⟨ys, rfl⟩ | ⟨xs, ys, rfl⟩
        all_goals
         repeat (conv=>lhs;whnf;arg 2;tactic=>first|exact g1|exact i1|exact t1|exact i2|exact t2|exact i3|exact t3|exact hn|exact e|exact gS|exact n1 k1|exact n1 k2|exact y1 k4|exact heq|exact congrArg not i1|exact congrArg not t1|exact congrArg not i2|exact congrArg not t2|exact congrArg not i3|exact congrArg not t3|exact congrArg not hn|exact congrArg not e|exact congrArg not heq|exact g2)
         rfl
     ·rw [if_neg k24]
      have k2 : ¬ m.kind = 2 := fun e => k24 (.inl e)
      have k4 : ¬ m.kind = 4 := fun e => k24 (.inr e)
      by_cases k3 : m.kind = 3
      ·rw [if_pos k3]
       cases o1 : opEq m.op noOp
       ·rw [o1] at heq
        rcases hr with rfl | ⟨ys, rfl⟩ | ⟨xs, ys, rfl⟩
        all_goals
         repeat (conv=>lhs;whnf;arg 2;tactic=>first|exact g1|exact i1|exact t1|exact i2|exact t2|exact i3|exact t3|exact hn|exact e|exact gS|exact n1 k1|exact n1 k2|exact n1 k4|exact y1 k3|exact heq|exact congrArg not i1|exact congrArg not t1|exact congrArg not i2|exact congrArg not t2|exact congrArg not i3|exact congrArg not t3|exact congrArg not hn|exact congrArg not e|exact congrArg not heq|exact g2)
         rfl
       ·rw [o1] at heq
        cases z : ((m.ops.length : Int) == m.n)
        ·rw [z] at hln
         rcases hr with rfl | ⟨ys, rfl⟩ | ⟨xs, ys, rfl⟩
         all_goals
          repeat (conv=>lhs;whnf;arg 2;tactic=>first|exact g1|exact i1|exact t1|exact i2|exact t2|exact i3|exact t3|exact hn|exact e|exact gS|exact n1 k1|exact n1 k2|exact n1 k4|exact y1 k3|exact heq|exact hln|exact congrArg not i1|exact congrArg not t1|exact congrArg not i2|exact congrArg not t2|exact congrArg not i3|exact congrArg not t3|exact congrArg not hn|exact congrArg not e|exact congrArg not heq|exact congrArg not hln|exact g2)
          rfl
        ·rw [z] at hln
         have hao : areOps m.ops = (runM poolNew m.ops).isSome := by
          rw [areOps_run]
          have : decide ((m.ops.length : Int) ≤ 20) = true := decide_eq_true (by have := eq_of_beq z; omega)
          rw [this, Bool.and_true]
         rw [Bool.true_and, Bool.true_and, hao]
         rcases hr with rfl | ⟨ys, rfl⟩ | ⟨xs, ys, rfl⟩
         all_goals
          repeat (conv=>lhs;whnf;arg 2;tactic=>first|exact g1|exact i1|exact t1|exact i2|exact t2|exact i3|exact t3|exact hn|exact e|exact gS|exact n1 k1|exact n1 k2|exact n1 k4|exact y1 k3|exact heq|exact hln|exact congrArg not i1|exact congrArg not t1|exact congrArg not i2|exact congrArg not t2|exact congrArg not i3|exact congrArg not t3|exact congrArg not hn|exact congrArg not e|exact congrArg not heq|exact congrArg not hln|exact g2)
          rfl
      ·rw [if_neg k3]
       rcases hr with rfl | ⟨ys, rfl⟩ | ⟨xs, ys, rfl⟩
       all_goals
        repeat (conv=>lhs;whnf;arg 2;tactic=>first|exact g1|exact i1|exact t1|exact i2|exact t2|exact i3|exact t3|exact hn|exact e|exact gS|exact n1 k1|exact n1 k2|exact n1 k4|exact n1 k3|exact congrArg not i1|exact congrArg not t1|exact congrArg not i2|exact congrArg not t2|exact congrArg not i3|exact congrArg not t3|exact congrArg not hn|exact congrArg not e|exact g2)
        rfl
end
end Go.Gn

