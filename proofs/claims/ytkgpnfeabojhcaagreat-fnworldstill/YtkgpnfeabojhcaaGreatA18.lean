/- Part 18 of a proof: an evaluator of the program, proved sound, and what it answers. -/
import Derived.Test.YtkgpnfeabojhcaaGreatA17
set_option linter.all false
namespace Go.Gn
open Go
set_option maxRecDepth 100000
set_option maxHeartbeats 8000000
theorem hearCopy_cop {n : NodeM} {m : MsgM} (h20 : n.ops.length ≤ 20) (hr0 : (runM poolNew n.ops).isSome = true) : hearCopy n m = match copK n m with | .no => (n, false) | .has => (n, true) | .add => (nodeAdd n m.op, true) := by
 unfold hearCopy copK
 rw [canTake_eq h20 hr0]
 cases (m.term != n.term) || n.leads
 ·simp only [Bool.false_eq_true, if_false]
  have e1 : decide ((n.ops.length : Int) ≥ m.n) = decide (m.n ≤ (n.ops.length : Int)) := rfl
  rw [e1]
  cases h1 : decide (m.n ≤ (n.ops.length : Int))
  ·simp only [Bool.false_eq_true, if_false]
   have h1' : ¬ m.n ≤ (n.ops.length : Int) := of_decide_eq_false h1
   cases h2 : decide (m.n > (n.ops.length : Int) + 1)
   ·have h2' : ¬ m.n > (n.ops.length : Int) + 1 := of_decide_eq_false h2
    have e2 : ((n.ops.length : Int) != m.n - 1) = false := by
     rw [bne_eq_false_iff_eq]; omega
    rw [e2]
    cases canAdd n.ops m.op <;> rfl
   ·have h2' : m.n > (n.ops.length : Int) + 1 := of_decide_eq_true h2
    have e2 : ((n.ops.length : Int) != m.n - 1) = true := by
     rw [bne_iff_ne]; omega
    rw [e2]
    rfl
  ·simp only [if_true]
   cases n.ops[(m.n - 1).toNat]? with
   | none => rfl
   | some o => simp only; cases opEq o m.op <;> rfl
 ·rfl
section
variable {W : CallF} {L : LoopF} {E : EqF} {T : Prop → Bool} (h : IsK G W L E T)
include h
theorem ev_l21Hear (n : NodeM) (hs : OpsSz n.ops) (hr0 : (runM poolNew n.ops).isSome = true) (h20 : n.ops.length ≤ 20) (id : Int) (hid : 1 ≤ id ∧ id ≤ 2) (m : MsgM) (hm : MsgSz m) (h1 : m.kind = 1 → 1 ≤ m.n ∧ m.n ≤ 20) :
  W f_spec_l21Hear [nodeW n 0, .int .i64 id, msgA m] [opsRow n.ops] = some (.tup [nodeW (hearK n id m).1 0, msgZ (hearK n id m).2.1, .bool (hearK n id m).2.2], [opsRow (hearK n id m).1.ops]) ∨
  ∃ c x, (c = 0 ∨ c = 5) ∧ W f_spec_l21Hear [nodeW n 0, .int .i64 id, msgA m] [opsRow n.ops] = some (.tup [nodeW (hearK n id m).1 1, msgZ (hearK n id m).2.1, .bool (hearK n id m).2.2], [x, .row 5 0 c ((hearK n id m).1.ops.map opD)]) ∧ (x = .dead ∨ x = opsRow n.ops) := by
 have n1 : ∀ {a b : Int}, ¬ a = b → (a == b) = false := fun hab => by simp [hab]
 have y1 : ∀ {a b : Int}, a = b → (a == b) = true := fun hab => by simp [hab]
 have n2 : ∀ {a b : Int}, ¬ a = b → (a != b) = true := fun hab => by simp [hab]
 have y2 : ∀ {a b : Int}, a = b → (a != b) = false := fun hab => by simp [hab]
 have hw : IntKind.i64.wrap (3 - id) = 3 - id := wrap_id (by omega) (by omega)
 unfold hearK
 by_cases k1 : m.kind = 1
 ·have ec := ev_l21Copied h n hs hr0 h20 id hid m hm.op (h1 k1)
  simp only [if_pos k1, hearCopy_cop h20 hr0]
  cases hk : copK n m with
  | no =>
   rw [hk] at ec
   obtain ⟨mm, ec⟩ := ec
   left
   rw [h.call]
   repeat (conv=>lhs;whnf;arg 2;tactic=>first|exact g1|exact ec|exact gS)
   rfl
  | has =>
   rw [hk] at ec
   left
   rw [h.call]
   repeat (conv=>lhs;whnf;arg 2;tactic=>first|exact g1|exact ec|exact gS)
   rfl
  | add =>
   rw [hk] at ec
   right
   refine ⟨5, .dead, .inr rfl, ?_, .inl rfl⟩
   rw [h.call]
   repeat (conv=>lhs;whnf;arg 2;tactic=>first|exact g1|exact ec|exact gS)
   rfl
 ·by_cases k3 : m.kind = 3
  ·have hlen : ((n.ops.map opD).length : Nat) = n.ops.length := List.length_map ..
   have es : (m.ops.map opD).map (·.map D.scrub) = m.ops.map opD := scrub_map opD (fun _ => rfl) m.ops
   have hz : szOk 5 (m.ops.map opD) = true := szOk_map opD 5 (fun _ => rfl) m.ops
   have hd : decide ((0 + ((m.ops.map opD).map (·.map D.scrub)).length) * 64 ≤ 140737488355328) = true := decide_eq_true (by rw [es, List.length_map]; have := hm.ops.1; omega)
   have hgt : decide (m.n > ((n.ops.map opD).length : Int)) = decide (m.n > (n.ops.length : Int)) := by rw [hlen]
   simp only [if_neg k1, if_pos k3]
   unfold hearJoin
   cases c1 : decide (m.term < n.term)
   ·cases c2 : (m.term == n.term) && n.leads
    ·simp only [Bool.or_false, Bool.false_eq_true, if_false]
     have hml : (m.ops.length : Int) = ((m.ops.map opD).length : Nat) := by rw [List.length_map]
     have hnl : (n.ops.length : Int) = ((n.ops.map opD).length : Nat) := by rw [List.length_map]
     obtain ⟨up, term, leads, alone, ops⟩ := n
     simp only at *
     have adopt : (decide (m.term > term) = true ∨ (decide (m.term > term) = false ∧ decide (m.n > (ops.length : Int)) = true)) → ∃ c x, (c = 0 ∨ c = 5) ∧ W f_spec_l21Hear [nodeW ⟨up, term, leads, alone, ops⟩ 0, .int .i64 id, msgA m] [opsRow ops] = some (.tup [nodeW ⟨up, m.term, false, false, m.ops⟩ 1, msgZ ⟨4, 3 - id, m.term, m.ops.length, noOp, []⟩, .bool true], [x, .row 5 0 c (m.ops.map opD)]) ∧ (x = .dead ∨ x = opsRow ops) := by
      intro hh
      refine ⟨0, opsRow ops, .inl rfl, ?_, .inr rfl⟩
      rw [h.call, ← hw, hml]
      cases c5 : m.term == term
      ·rcases hh with c3 | ⟨c3, c4⟩
       ·repeat (conv=>lhs;whnf;arg 2;tactic=>first|exact g1|exact y2 k3|exact c1|exact c5|exact c3|exact hz|exact hd|exact gS)
        conv => lhs; whnf
        rw [es]
        rfl
       ·rw [c4] at hgt
        repeat (conv=>lhs;whnf;arg 2;tactic=>first|exact g1|exact y2 k3|exact c1|exact c5|exact c3|exact hgt|exact hz|exact hd|exact gS)
        conv => lhs; whnf
        rw [es]
        rfl
      ·rw [c5, Bool.true_and] at c2
       subst c2
       rcases hh with c3 | ⟨c3, c4⟩
       ·repeat (conv=>lhs;whnf;arg 2;tactic=>first|exact g1|exact y2 k3|exact c1|exact c5|exact c3|exact hz|exact hd|exact gS)
        conv => lhs; whnf
        rw [es]
        rfl
       ·rw [c4] at hgt
        repeat (conv=>lhs;whnf;arg 2;tactic=>first|exact g1|exact y2 k3|exact c1|exact c5|exact c3|exact hgt|exact hz|exact hd|exact gS)
        conv => lhs; whnf
        rw [es]
        rfl
     cases c3 : decide (m.term > term)
     ·cases c4 : decide (m.n > (ops.length : Int))
      ·left
       simp only [Bool.or_false, Bool.false_eq_true, if_false, if_true]
       rw [c4] at hgt
       rw [h.call, ← hw, hnl]
       cases c5 : m.term == term
       ·repeat (conv=>lhs;whnf;arg 2;tactic=>first|exact g1|exact y2 k3|exact c1|exact c5|exact c3|exact hgt|exact gS)
        rfl
       ·rw [c5, Bool.true_and] at c2
        subst c2
        repeat (conv=>lhs;whnf;arg 2;tactic=>first|exact g1|exact y2 k3|exact c1|exact c5|exact c3|exact hgt|exact gS)
        rfl
      ·right
       simpa only [Bool.or_true, if_true] using adopt (.inr ⟨c3, c4⟩)
     ·right
      simpa only [Bool.true_or, if_true] using adopt (.inl c3)
    ·left
     simp only [Bool.or_true, if_true]
     obtain ⟨up, term, leads, alone, ops⟩ := n
     rw [Bool.and_eq_true] at c2
     obtain ⟨c2, c2'⟩ := c2
     simp only at *
     subst c2'
     rw [h.call]
     repeat (conv=>lhs;whnf;arg 2;tactic=>first|exact g1|exact y2 k3|exact c1|exact c2)
     rfl
   ·left
    simp only [Bool.true_or, if_true]
    rw [h.call]
    repeat (conv=>lhs;whnf;arg 2;tactic=>first|exact g1|exact y2 k3|exact c1)
    rfl
  ·left
   simp only [if_neg k1, if_neg k3]
   rw [h.call]
   repeat (conv=>lhs;whnf;arg 2;tactic=>first|exact g1|exact n2 k3)
   rfl
end
end Go.Gn

