/- Part 31 of a proof: an evaluator of the program, proved sound, and what it answers. -/
import Derived.Test.YtiicdghimmpjnaaGreatA30
set_option linter.all false
namespace Go.Gn
open Go
set_option linter.unusedVariables false
set_option linter.unusedSimpArgs false
set_option maxRecDepth 100000
set_option maxHeartbeats 16000000
def pre : List OpM → List OpM → Bool
 | [], _ => true
 | _ :: _, [] => false
 | x :: a, y :: b => decide (x = y) && pre a b
theorem pre_iff : ∀ (a b : List OpM), pre a b = true ↔ a <+: b
 | [], b => by simp [pre]
 | x :: a, [] => by simp [pre]
 | x :: a, y :: b => by simp [pre, pre_iff a b, List.cons_prefix_cons]
theorem pre_begins (a b : List OpM) : beginsM a b = pre a b := by
 rw [Bool.eq_iff_iff, pre_iff]
 unfold beginsM opsEq
 rw [Bool.and_eq_true, decide_eq_true_eq, decide_eq_true_eq]
 constructor
 ·rintro ⟨_, h⟩
  rw [h]; exact List.take_prefix _ _
 ·intro h
  exact ⟨by have := h.length_le; omega, List.prefix_iff_eq_take.1 h⟩
def hasK (m : MsgM) : Bool := (m.kind == 2) || (m.kind == 4)
def hasOp (os : List OpM) (n : Int) (o : OpM) : Bool := match os[(n - 1).toNat]? with | some x => opEq x o | none => false
def trueM (n o : NodeM) (term lead : Int) (done : List OpM) (m : MsgM) : Bool :=
 bif decide (m.term > term) then false else
 bif decide (m.term < term) && (hasK m && ((m.to == 3 - lead) && (o.leads && (o.term == m.term)))) then decide (m.n ≤ (o.ops.length : Int)) && pre (o.ops.take m.n.toNat) done else
 bif decide (m.term < term) then true else
 bif hasK m then (m.to == lead) && ((o.term == term) && decide (m.n ≤ (o.ops.length : Int))) else
 bif m.kind == 1 then (m.to == 3 - lead) && (decide (m.n ≤ (n.ops.length : Int)) && hasOp n.ops m.n m.op) else
 (m.to == 3 - lead) && pre m.ops n.ops
section
variable {W : CallF} {L : LoopF} {E : EqF} {T : Prop → Bool} (h : IsK G W L E T)
include h
theorem l22Begins_loop (a b : List OpM) (ha : a.length < 2000000) : ∀ (m i : Nat), i + m = a.length → L (norm 0 cf108.live) (exitN 0 cf108.out (evCW W L G cf108 0 c108l0)) ⟨[(0, .sl .br (a.map opD)), (1, .sl .br (b.map opD)), (5, .int .i64 (i : Nat))], []⟩ =
  some (if pre (a.drop i) (b.drop i) then (.ext 0, ⟨[(4, .top)], []⟩) else (.ret, ⟨[(4, .bool false)], []⟩))
 | 0, i, hm => by
  rw [List.drop_eq_nil_of_le (show a.length ≤ i by omega)]
  rw [h.loop]
  repeat (conv=>lhs;whnf;arg 2;tactic=>first|exact g1|exact g2)
  rfl
 | m + 1, i, hm => by
  obtain ⟨x, hx⟩ := get_some (xs := a) (i := i) (by omega)
  rw [drop_cons hx]
  by_cases hb : i < b.length
  ·obtain ⟨y, hy⟩ := get_some (xs := b) (i := i) hb
   have he := E_op h x y
   rw [opEq_eq] at he
   rw [drop_cons hy, h.loop]
   unfold pre
   cases hd : decide (x = y)
   ·rw [hd] at he
    repeat (conv=>lhs;whnf;arg 2;tactic=>first|exact g1|exact map_get hx|exact map_get hy|exact he|exact gS|exact congrArg not he|exact g2)
    rfl
   ·rw [hd] at he
    repeat (conv=>lhs;whnf;arg 2;tactic=>first|exact g1|exact map_get hx|exact map_get hy|exact he|exact gS|exact congrArg not he|exact g2)
    conv => lhs; whnf
    rw [wrap_succ (by omega), l22Begins_loop a b ha m (i + 1) (by omega)]
    rfl
  ·rw [List.drop_eq_nil_of_le (show b.length ≤ i by omega), h.loop]
   repeat (conv=>lhs;whnf;arg 2;tactic=>first|exact g1|exact map_get hx|exact gS|exact g2)
   rfl
theorem ev_l22Begins (a b : List OpM) (ha : a.length < 2000000) : W f_spec_l22Begins [.sl .br (a.map opD), .sl .br (b.map opD)] [] = some (.bool (pre a b), []) := by
 have e := l22Begins_loop h a b ha a.length 0 (by omega)
 rw [nc0, List.drop_zero, List.drop_zero] at e
 rw [h.call]
 cases hd : pre a b
 ·rw [hd] at e
  repeat (conv=>lhs;whnf;arg 2;tactic=>first|exact g1|exact e|exact g2)
  rfl
 ·rw [hd] at e
  repeat (conv=>lhs;whnf;arg 2;tactic=>first|exact g1|exact e|exact g2)
  rfl
theorem ev_l22True (w : WorldM) (hlead : w.lead = 1 ∨ w.lead = 2) (l1 : w.n1.ops.length < 2000000) (l2 : w.n2.ops.length < 2000000) (m : MsgM) (lm : m.ops.length < 2000000) (hn : 0 ≤ m.n ∧ m.n ≤ 20) (hk : m.kind = 1 → 1 ≤ m.n) :
  W f_spec_l22True [worldA w, msgA m] [] = some (.bool (trueM (w.nd w.lead) (w.nd (3 - w.lead)) w.term w.lead w.done m), []) := by
 have n1 : ∀ {a b : Int}, ¬ a = b → (a == b) = false := fun hab => by simp [hab]
 obtain ⟨a1, a2, term, lead, both, nets, done⟩ := w
 obtain ⟨kind, to, mt, mn, op, ops⟩ := m
 simp only at *
 obtain ⟨k, rfl⟩ : ∃ k : Nat, mn = k := ⟨mn.toNat, by omega⟩
 unfold trueM hasK
 simp only
 rcases hlead with rfl | rfl
 ·rw [show WorldM.nd ⟨a1, a2, term, 1, both, nets, done⟩ 1 = a1 from rfl, show WorldM.nd ⟨a1, a2, term, 1, both, nets, done⟩ (3 - 1) = a2 from rfl, show (3 : Int) - 1 = IntKind.i64.wrap (3 - 1) from rfl]
  have hl1 : ((a1.ops.map opD).length : Nat) = a1.ops.length := List.length_map ..
  have hl2 : ((a2.ops.map opD).length : Nat) = a2.ops.length := List.length_map ..
  have hle1 : decide ((k : Int) ≤ ((a1.ops.map opD).length : Int)) = decide ((k : Int) ≤ (a1.ops.length : Int)) := by rw [hl1]
  have hle2 : decide ((k : Int) ≤ ((a2.ops.map opD).length : Int)) = decide ((k : Int) ≤ (a2.ops.length : Int)) := by rw [hl2]
  have eb1 := ev_l22Begins h (a2.ops.take k) done (by simp; omega)
  have hv : view (a2.ops.map opD) 0 (k - 0) = (a2.ops.take k).map opD := view_take opD a2.ops k
  rw [← hv] at eb1
  have eb2 := ev_l22Begins h ops a1.ops lm
  have htell : ∀ c : Bool, ((kind == 2) || (kind == 4)) = c → (c = true → ((kind == 2) = true ∨ ((kind == 2) = false ∧ (kind == 4) = true))) ∧ (c = false → (kind == 2) = false ∧ (kind == 4) = false) := by
   intro c hc
   cases h2 : kind == 2 <;> cases h4 : kind == 4 <;> rw [h2, h4] at hc <;> subst hc <;> simp
  cases c1 : decide (mt > term)
  ·cases c2 : decide (mt < term)
   ·
    cases c3 : (kind == 2) || (kind == 4)
    ·obtain ⟨q2, q4⟩ := (htell _ c3).2 rfl
     simp only [cond_false, cond_true, Bool.false_and, Bool.and_false]
     cases c4 : kind == 1
     ·simp only [cond_false]
      cases c5 : to == IntKind.i64.wrap (3 - 1)
      ·rw [h.call]
       repeat (conv=>lhs;whnf;arg 2;tactic=>first|exact g1|exact q2|exact q4|exact c1|exact c2|exact c4|exact c5|exact gS|exact congrArg not q2|exact congrArg not q4|exact congrArg not c1|exact congrArg not c2|exact congrArg not c4|exact congrArg not c5|exact g2)
       rfl
      ·simp only [Bool.true_and]
       rw [h.call]
       repeat (conv=>lhs;whnf;arg 2;tactic=>first|exact g1|exact q2|exact q4|exact c1|exact c2|exact c4|exact c5|exact eb2|exact gS|exact congrArg not q2|exact congrArg not q4|exact congrArg not c1|exact congrArg not c2|exact congrArg not c4|exact congrArg not c5|exact g2)
       rfl
     ·simp only [cond_true]
      cases c5 : to == IntKind.i64.wrap (3 - 1)
      ·rw [h.call]
       repeat (conv=>lhs;whnf;arg 2;tactic=>first|exact g1|exact q2|exact q4|exact c1|exact c2|exact c4|exact c5|exact gS|exact congrArg not q2|exact congrArg not q4|exact congrArg not c1|exact congrArg not c2|exact congrArg not c4|exact congrArg not c5|exact g2)
       rfl
      ·simp only [Bool.true_and]
       cases c6 : decide ((k : Int) ≤ (a1.ops.length : Int))
       ·rw [c6] at hle1
        rw [h.call]
        repeat (conv=>lhs;whnf;arg 2;tactic=>first|exact g1|exact q2|exact q4|exact c1|exact c2|exact c4|exact c5|exact hle1|exact gS|exact congrArg not q2|exact congrArg not q4|exact congrArg not c1|exact congrArg not c2|exact congrArg not c4|exact congrArg not c5|exact congrArg not hle1|exact g2)
        rfl
       ·rw [c6] at hle1
        have hk1 := hk (by simpa using c4)
        have c6' := of_decide_eq_true c6
        obtain ⟨j, hj⟩ : ∃ j : Nat, k = j + 1 := ⟨k - 1, by omega⟩
        have hwj : IntKind.i64.wrap ((k : Int) - 1) = (j : Nat) := by rw [wrap_id (by omega) (by omega)]; omega
        obtain ⟨x, hx⟩ := get_some (xs := a1.ops) (i := j) (by omega)
        have hx2 : a1.ops[((k : Int) - 1).toNat]? = some x := by rw [show ((k : Int) - 1).toNat = j by omega]; exact hx
        have he := E_op h x op
        unfold hasOp
        simp only [hx2, Bool.true_and]
        rw [h.call]
        repeat (conv=>lhs;whnf;arg 2;tactic=>first|exact g1|exact q2|exact q4|exact c1|exact c2|exact c4|exact c5|exact hle1|exact hwj|exact map_get hx|exact he|exact gS|exact congrArg not q2|exact congrArg not q4|exact congrArg not c1|exact congrArg not c2|exact congrArg not c4|exact congrArg not c5|exact congrArg not hle1|exact congrArg not hwj|exact congrArg not he|exact g2)
        rfl
    ·have hq := (htell _ c3).1 rfl
     simp only [cond_false, cond_true, Bool.false_and, Bool.and_false]
     rcases hq with q2 | ⟨q2, q4⟩
     ·cases c5 : to == 1
      ·rw [h.call]
       repeat (conv=>lhs;whnf;arg 2;tactic=>first|exact g1|exact q2|exact c1|exact c2|exact c5|exact gS|exact congrArg not q2|exact congrArg not c1|exact congrArg not c2|exact congrArg not c5|exact g2)
       rfl
      ·simp only [Bool.true_and]
       cases c6 : a2.term == term
       ·rw [h.call]
        repeat (conv=>lhs;whnf;arg 2;tactic=>first|exact g1|exact q2|exact c1|exact c2|exact c5|exact c6|exact gS|exact congrArg not q2|exact congrArg not c1|exact congrArg not c2|exact congrArg not c5|exact congrArg not c6|exact g2)
        rfl
       ·simp only [Bool.true_and]
        rw [← hle2, h.call]
        repeat (conv=>lhs;whnf;arg 2;tactic=>first|exact g1|exact q2|exact c1|exact c2|exact c5|exact c6|exact gS|exact congrArg not q2|exact congrArg not c1|exact congrArg not c2|exact congrArg not c5|exact congrArg not c6|exact g2)
        rfl
     ·cases c5 : to == 1
      ·rw [h.call]
       repeat (conv=>lhs;whnf;arg 2;tactic=>first|exact g1|exact q2|exact q4|exact c1|exact c2|exact c5|exact gS|exact congrArg not q2|exact congrArg not q4|exact congrArg not c1|exact congrArg not c2|exact congrArg not c5|exact g2)
       rfl
      ·simp only [Bool.true_and]
       cases c6 : a2.term == term
       ·rw [h.call]
        repeat (conv=>lhs;whnf;arg 2;tactic=>first|exact g1|exact q2|exact q4|exact c1|exact c2|exact c5|exact c6|exact gS|exact congrArg not q2|exact congrArg not q4|exact congrArg not c1|exact congrArg not c2|exact congrArg not c5|exact congrArg not c6|exact g2)
        rfl
       ·simp only [Bool.true_and]
        rw [← hle2, h.call]
        repeat (conv=>lhs;whnf;arg 2;tactic=>first|exact g1|exact q2|exact q4|exact c1|exact c2|exact c5|exact c6|exact gS|exact congrArg not q2|exact congrArg not q4|exact congrArg not c1|exact congrArg not c2|exact congrArg not c5|exact congrArg not c6|exact g2)
        rfl
   ·cases c3 : (kind == 2) || (kind == 4)
    ·obtain ⟨q2, q4⟩ := (htell _ c3).2 rfl
     simp only [cond_false, cond_true, Bool.false_and, Bool.and_false]
     rw [h.call]
     repeat (conv=>lhs;whnf;arg 2;tactic=>first|exact g1|exact q2|exact q4|exact c1|exact c2|exact gS|exact congrArg not q2|exact congrArg not q4|exact congrArg not c1|exact congrArg not c2|exact g2)
     rfl
    ·have hq := (htell _ c3).1 rfl
     simp only [cond_false, cond_true, Bool.true_and]
     rcases hq with q2 | ⟨q2, q4⟩
     ·cases c5 : to == IntKind.i64.wrap (3 - 1)
      ·rw [h.call]
       repeat (conv=>lhs;whnf;arg 2;tactic=>first|exact g1|exact q2|exact c1|exact c2|exact c5|exact gS|exact congrArg not q2|exact congrArg not c1|exact congrArg not c2|exact congrArg not c5|exact g2)
       rfl
      ·cases c6 : a2.leads
       ·rw [h.call]
        repeat (conv=>lhs;whnf;arg 2;tactic=>first|exact g1|exact q2|exact c1|exact c2|exact c5|exact c6|exact gS|exact congrArg not q2|exact congrArg not c1|exact congrArg not c2|exact congrArg not c5|exact congrArg not c6|exact g2)
        rfl
       ·cases c7 : a2.term == mt
        ·rw [h.call]
         repeat (conv=>lhs;whnf;arg 2;tactic=>first|exact g1|exact q2|exact c1|exact c2|exact c5|exact c6|exact c7|exact gS|exact congrArg not q2|exact congrArg not c1|exact congrArg not c2|exact congrArg not c5|exact congrArg not c6|exact congrArg not c7|exact g2)
         rfl
        ·simp only [Bool.true_and, cond_true, Int.toNat_natCast]
         cases c8 : decide ((k : Int) ≤ (a2.ops.length : Int))
         ·rw [c8] at hle2
          rw [h.call]
          repeat (conv=>lhs;whnf;arg 2;tactic=>first|exact g1|exact q2|exact c1|exact c2|exact c5|exact c6|exact c7|exact hle2|exact gS|exact congrArg not q2|exact congrArg not c1|exact congrArg not c2|exact congrArg not c5|exact congrArg not c6|exact congrArg not c7|exact congrArg not hle2|exact g2)
          rfl
         ·rw [c8] at hle2
          have c8' : (k : Int) ≤ (a2.ops.length : Int) := of_decide_eq_true c8
          rw [h.call]
          repeat (conv=>lhs;whnf;arg 2;tactic=>first|exact g1|exact q2|exact c1|exact c2|exact c5|exact c6|exact c7|exact hle2|exact eb1|exact gS|exact congrArg not q2|exact congrArg not c1|exact congrArg not c2|exact congrArg not c5|exact congrArg not c6|exact congrArg not c7|exact congrArg not hle2|exact g2)
          rfl
     ·cases c5 : to == IntKind.i64.wrap (3 - 1)
      ·rw [h.call]
       repeat (conv=>lhs;whnf;arg 2;tactic=>first|exact g1|exact q2|exact q4|exact c1|exact c2|exact c5|exact gS|exact congrArg not q2|exact congrArg not q4|exact congrArg not c1|exact congrArg not c2|exact congrArg not c5|exact g2)
       rfl
      ·cases c6 : a2.leads
       ·rw [h.call]
        repeat (conv=>lhs;whnf;arg 2;tactic=>first|exact g1|exact q2|exact q4|exact c1|exact c2|exact c5|exact c6|exact gS|exact congrArg not q2|exact congrArg not q4|exact congrArg not c1|exact congrArg not c2|exact congrArg not c5|exact congrArg not c6|exact g2)
        rfl
       ·cases c7 : a2.term == mt
        ·rw [h.call]
         repeat (conv=>lhs;whnf;arg 2;tactic=>first|exact g1|exact q2|exact q4|exact c1|exact c2|exact c5|exact c6|exact c7|exact gS|exact congrArg not q2|exact congrArg not q4|exact congrArg not c1|exact congrArg not c2|exact congrArg not c5|exact congrArg not c6|exact congrArg not c7|exact g2)
         rfl
        ·simp only [Bool.true_and, cond_true, Int.toNat_natCast]
         cases c8 : decide ((k : Int) ≤ (a2.ops.length : Int))
         ·rw [c8] at hle2
          rw [h.call]
          repeat (conv=>lhs;whnf;arg 2;tactic=>first|exact g1|exact q2|exact q4|exact c1|exact c2|exact c5|exact c6|exact c7|exact hle2|exact gS|exact congrArg not q2|exact congrArg not q4|exact congrArg not c1|exact congrArg not c2|exact congrArg not c5|exact congrArg not c6|exact congrArg not c7|exact congrArg not hle2|exact g2)
          rfl
         ·rw [c8] at hle2
          have c8' : (k : Int) ≤ (a2.ops.length : Int) := of_decide_eq_true c8
          rw [h.call]
          repeat (conv=>lhs;whnf;arg 2;tactic=>first|exact g1|exact q2|exact q4|exact c1|exact c2|exact c5|exact c6|exact c7|exact hle2|exact eb1|exact gS|exact congrArg not q2|exact congrArg not q4|exact congrArg not c1|exact congrArg not c2|exact congrArg not c5|exact congrArg not c6|exact congrArg not c7|exact congrArg not hle2|exact g2)
          rfl
  ·simp only [cond_true]
   have htt : ∀ c : Bool, ((kind == 2) || (kind == 4)) = c → W f_spec_l22True [worldA ⟨a1, a2, term, 1, both, nets, done⟩, msgA ⟨kind, to, mt, (k : Nat), op, ops⟩] [] = some (.bool false, []) := by
    intro c hc
    cases c
    ·obtain ⟨q2, q4⟩ := (htell _ hc).2 rfl
     rw [h.call]
     repeat (conv=>lhs;whnf;arg 2;tactic=>first|exact g1|exact q2|exact q4|exact c1|exact congrArg not q2|exact congrArg not q4|exact congrArg not c1|exact g2)
     rfl
    ·rcases (htell _ hc).1 rfl with q2 | ⟨q2, q4⟩
     ·rw [h.call]
      repeat (conv=>lhs;whnf;arg 2;tactic=>first|exact g1|exact q2|exact c1|exact congrArg not q2|exact congrArg not c1|exact g2)
      rfl
     ·rw [h.call]
      repeat (conv=>lhs;whnf;arg 2;tactic=>first|exact g1|exact q2|exact q4|exact c1|exact congrArg not q2|exact congrArg not q4|exact congrArg not c1|exact g2)
      rfl
   exact htt _ rfl
 ·rw [show WorldM.nd ⟨a1, a2, term, 2, both, nets, done⟩ 2 = a2 from rfl, show WorldM.nd ⟨a1, a2, term, 2, both, nets, done⟩ (3 - 2) = a1 from rfl, show (3 : Int) - 2 = IntKind.i64.wrap (3 - 2) from rfl]
  have hl2 : ((a2.ops.map opD).length : Nat) = a2.ops.length := List.length_map ..
  have hl1 : ((a1.ops.map opD).length : Nat) = a1.ops.length := List.length_map ..
  have hle2 : decide ((k : Int) ≤ ((a2.ops.map opD).length : Int)) = decide ((k : Int) ≤ (a2.ops.length : Int)) := by rw [hl2]
  have hle1 : decide ((k : Int) ≤ ((a1.ops.map opD).length : Int)) = decide ((k : Int) ≤ (a1.ops.length : Int)) := by rw [hl1]
  have eb1 := ev_l22Begins h (a1.ops.take k) done (by simp; omega)
  have hv : view (a1.ops.map opD) 0 (k - 0) = (a1.ops.take k).map opD := view_take opD a1.ops k
  rw [← hv] at eb1
  have eb2 := ev_l22Begins h ops a2.ops lm
  have htell : ∀ c : Bool, ((kind == 2) || (kind == 4)) = c → (c = true → ((kind == 2) = true ∨ ((kind == 2) = false ∧ (kind == 4) = true))) ∧ (c = false → (kind == 2) = false ∧ (kind == 4) = false) := by
   intro c hc
   cases h2 : kind == 2 <;> cases h4 : kind == 4 <;> rw [h2, h4] at hc <;> subst hc <;> simp
  cases c1 : decide (mt > term)
  ·cases c2 : decide (mt < term)
   ·
    cases c3 : (kind == 2) || (kind == 4)
    ·obtain ⟨q2, q4⟩ := (htell _ c3).2 rfl
     simp only [cond_false, cond_true, Bool.false_and, Bool.and_false]
     cases c4 : kind == 1
     ·simp only [cond_false]
      cases c5 : to == IntKind.i64.wrap (3 - 2)
      ·rw [h.call]
       repeat (conv=>lhs;whnf;arg 2;tactic=>first|exact g1|exact q2|exact q4|exact c1|exact c2|exact c4|exact c5|exact gS|exact congrArg not q2|exact congrArg not q4|exact congrArg not c1|exact congrArg not c2|exact congrArg not c4|exact congrArg not c5|exact g2)
       rfl
      ·simp only [Bool.true_and]
       rw [h.call]
       repeat (conv=>lhs;whnf;arg 2;tactic=>first|exact g1|exact q2|exact q4|exact c1|exact c2|exact c4|exact c5|exact eb2|exact gS|exact congrArg not q2|exact congrArg not q4|exact congrArg not c1|exact congrArg not c2|exact congrArg not c4|exact congrArg not c5|exact g2)
       rfl
     ·simp only [cond_true]
      cases c5 : to == IntKind.i64.wrap (3 - 2)
      ·rw [h.call]
       repeat (conv=>lhs;whnf;arg 2;tactic=>first|exact g1|exact q2|exact q4|exact c1|exact c2|exact c4|exact c5|exact gS|exact congrArg not q2|exact congrArg not q4|exact congrArg not c1|exact congrArg not c2|exact congrArg not c4|exact congrArg not c5|exact g2)
       rfl
      ·simp only [Bool.true_and]
       cases c6 : decide ((k : Int) ≤ (a2.ops.length : Int))
       ·rw [c6] at hle2
        rw [h.call]
        repeat (conv=>lhs;whnf;arg 2;tactic=>first|exact g1|exact q2|exact q4|exact c1|exact c2|exact c4|exact c5|exact hle2|exact gS|exact congrArg not q2|exact congrArg not q4|exact congrArg not c1|exact congrArg not c2|exact congrArg not c4|exact congrArg not c5|exact congrArg not hle2|exact g2)
        rfl
       ·rw [c6] at hle2
        have hk1 := hk (by simpa using c4)
        have c6' := of_decide_eq_true c6
        obtain ⟨j, hj⟩ : ∃ j : Nat, k = j + 1 := ⟨k - 1, by omega⟩
        have hwj : IntKind.i64.wrap ((k : Int) - 1) = (j : Nat) := by rw [wrap_id (by omega) (by omega)]; omega
        obtain ⟨x, hx⟩ := get_some (xs := a2.ops) (i := j) (by omega)
        have hx2 : a2.ops[((k : Int) - 1).toNat]? = some x := by rw [show ((k : Int) - 1).toNat = j by omega]; exact hx
        have he := E_op h x op
        unfold hasOp
        simp only [hx2, Bool.true_and]
        rw [h.call]
        repeat (conv=>lhs;whnf;arg 2;tactic=>first|exact g1|exact q2|exact q4|exact c1|exact c2|exact c4|exact c5|exact hle2|exact hwj|exact map_get hx|exact he|exact gS|exact congrArg not q2|exact congrArg not q4|exact congrArg not c1|exact congrArg not c2|exact congrArg not c4|exact congrArg not c5|exact congrArg not hle2|exact congrArg not hwj|exact congrArg not he|exact g2)
        rfl
    ·have hq := (htell _ c3).1 rfl
     simp only [cond_false, cond_true, Bool.false_and, Bool.and_false]
     rcases hq with q2 | ⟨q2, q4⟩
     ·cases c5 : to == 2
      ·rw [h.call]
       repeat (conv=>lhs;whnf;arg 2;tactic=>first|exact g1|exact q2|exact c1|exact c2|exact c5|exact gS|exact congrArg not q2|exact congrArg not c1|exact congrArg not c2|exact congrArg not c5|exact g2)
       rfl
      ·simp only [Bool.true_and]
       cases c6 : a1.term == term
       ·rw [h.call]
        repeat (conv=>lhs;whnf;arg 2;tactic=>first|exact g1|exact q2|exact c1|exact c2|exact c5|exact c6|exact gS|exact congrArg not q2|exact congrArg not c1|exact congrArg not c2|exact congrArg not c5|exact congrArg not c6|exact g2)
        rfl
       ·simp only [Bool.true_and]
        rw [← hle1, h.call]
        repeat (conv=>lhs;whnf;arg 2;tactic=>first|exact g1|exact q2|exact c1|exact c2|exact c5|exact c6|exact gS|exact congrArg not q2|exact congrArg not c1|exact congrArg not c2|exact congrArg not c5|exact congrArg not c6|exact g2)
        rfl
     ·cases c5 : to == 2
      ·rw [h.call]
       repeat (conv=>lhs;whnf;arg 2;tactic=>first|exact g1|exact q2|exact q4|exact c1|exact c2|exact c5|exact gS|exact congrArg not q2|exact congrArg not q4|exact congrArg not c1|exact congrArg not c2|exact congrArg not c5|exact g2)
       rfl
      ·simp only [Bool.true_and]
       cases c6 : a1.term == term
       ·rw [h.call]
        repeat (conv=>lhs;whnf;arg 2;tactic=>first|exact g1|exact q2|exact q4|exact c1|exact c2|exact c5|exact c6|exact gS|exact congrArg not q2|exact congrArg not q4|exact congrArg not c1|exact congrArg not c2|exact congrArg not c5|exact congrArg not c6|exact g2)
        rfl
       ·simp only [Bool.true_and]
        rw [← hle1, h.call]
        repeat (conv=>lhs;whnf;arg 2;tactic=>first|exact g1|exact q2|exact q4|exact c1|exact c2|exact c5|exact c6|exact gS|exact congrArg not q2|exact congrArg not q4|exact congrArg not c1|exact congrArg not c2|exact congrArg not c5|exact congrArg not c6|exact g2)
        rfl
   ·cases c3 : (kind == 2) || (kind == 4)
    ·obtain ⟨q2, q4⟩ := (htell _ c3).2 rfl
     simp only [cond_false, cond_true, Bool.false_and, Bool.and_false]
     rw [h.call]
     repeat (conv=>lhs;whnf;arg 2;tactic=>first|exact g1|exact q2|exact q4|exact c1|exact c2|exact gS|exact congrArg not q2|exact congrArg not q4|exact congrArg not c1|exact congrArg not c2|exact g2)
     rfl
    ·have hq := (htell _ c3).1 rfl
     simp only [cond_false, cond_true, Bool.true_and]
     rcases hq with q2 | ⟨q2, q4⟩
     ·cases c5 : to == IntKind.i64.wrap (3 - 2)
      ·rw [h.call]
       repeat (conv=>lhs;whnf;arg 2;tactic=>first|exact g1|exact q2|exact c1|exact c2|exact c5|exact gS|exact congrArg not q2|exact congrArg not c1|exact congrArg not c2|exact congrArg not c5|exact g2)
       rfl
      ·cases c6 : a1.leads
       ·rw [h.call]
        repeat (conv=>lhs;whnf;arg 2;tactic=>first|exact g1|exact q2|exact c1|exact c2|exact c5|exact c6|exact gS|exact congrArg not q2|exact congrArg not c1|exact congrArg not c2|exact congrArg not c5|exact congrArg not c6|exact g2)
        rfl
       ·cases c7 : a1.term == mt
        ·rw [h.call]
         repeat (conv=>lhs;whnf;arg 2;tactic=>first|exact g1|exact q2|exact c1|exact c2|exact c5|exact c6|exact c7|exact gS|exact congrArg not q2|exact congrArg not c1|exact congrArg not c2|exact congrArg not c5|exact congrArg not c6|exact congrArg not c7|exact g2)
         rfl
        ·simp only [Bool.true_and, cond_true, Int.toNat_natCast]
         cases c8 : decide ((k : Int) ≤ (a1.ops.length : Int))
         ·rw [c8] at hle1
          rw [h.call]
          repeat (conv=>lhs;whnf;arg 2;tactic=>first|exact g1|exact q2|exact c1|exact c2|exact c5|exact c6|exact c7|exact hle1|exact gS|exact congrArg not q2|exact congrArg not c1|exact congrArg not c2|exact congrArg not c5|exact congrArg not c6|exact congrArg not c7|exact congrArg not hle1|exact g2)
          rfl
         ·rw [c8] at hle1
          have c8' : (k : Int) ≤ (a1.ops.length : Int) := of_decide_eq_true c8
          rw [h.call]
          repeat (conv=>lhs;whnf;arg 2;tactic=>first|exact g1|exact q2|exact c1|exact c2|exact c5|exact c6|exact c7|exact hle1|exact eb1|exact gS|exact congrArg not q2|exact congrArg not c1|exact congrArg not c2|exact congrArg not c5|exact congrArg not c6|exact congrArg not c7|exact congrArg not hle1|exact g2)
          rfl
     ·cases c5 : to == IntKind.i64.wrap (3 - 2)
      ·rw [h.call]
       repeat (conv=>lhs;whnf;arg 2;tactic=>first|exact g1|exact q2|exact q4|exact c1|exact c2|exact c5|exact gS|exact congrArg not q2|exact congrArg not q4|exact congrArg not c1|exact congrArg not c2|exact congrArg not c5|exact g2)
       rfl
      ·cases c6 : a1.leads
       ·rw [h.call]
        repeat (conv=>lhs;whnf;arg 2;tactic=>first|exact g1|exact q2|exact q4|exact c1|exact c2|exact c5|exact c6|exact gS|exact congrArg not q2|exact congrArg not q4|exact congrArg not c1|exact congrArg not c2|exact congrArg not c5|exact congrArg not c6|exact g2)
        rfl
       ·cases c7 : a1.term == mt
        ·rw [h.call]
         repeat (conv=>lhs;whnf;arg 2;tactic=>first|exact g1|exact q2|exact q4|exact c1|exact c2|exact c5|exact c6|exact c7|exact gS|exact congrArg not q2|exact congrArg not q4|exact congrArg not c1|exact congrArg not c2|exact congrArg not c5|exact congrArg not c6|exact congrArg not c7|exact g2)
         rfl
        ·simp only [Bool.true_and, cond_true, Int.toNat_natCast]
         cases c8 : decide ((k : Int) ≤ (a1.ops.length : Int))
         ·rw [c8] at hle1
          rw [h.call]
          repeat (conv=>lhs;whnf;arg 2;tactic=>first|exact g1|exact q2|exact q4|exact c1|exact c2|exact c5|exact c6|exact c7|exact hle1|exact gS|exact congrArg not q2|exact congrArg not q4|exact congrArg not c1|exact congrArg not c2|exact congrArg not c5|exact congrArg not c6|exact congrArg not c7|exact congrArg not hle1|exact g2)
          rfl
         ·rw [c8] at hle1
          have c8' : (k : Int) ≤ (a1.ops.length : Int) := of_decide_eq_true c8
          rw [h.call]
          repeat (conv=>lhs;whnf;arg 2;tactic=>first|exact g1|exact q2|exact q4|exact c1|exact c2|exact c5|exact c6|exact c7|exact hle1|exact eb1|exact gS|exact congrArg not q2|exact congrArg not q4|exact congrArg not c1|exact congrArg not c2|exact congrArg not c5|exact congrArg not c6|exact congrArg not c7|exact congrArg not hle1|exact g2)
          rfl
  ·simp only [cond_true]
   have htt : ∀ c : Bool, ((kind == 2) || (kind == 4)) = c → W f_spec_l22True [worldA ⟨a1, a2, term, 2, both, nets, done⟩, msgA ⟨kind, to, mt, (k : Nat), op, ops⟩] [] = some (.bool false, []) := by
    intro c hc
    cases c
    ·obtain ⟨q2, q4⟩ := (htell _ hc).2 rfl
     rw [h.call]
     repeat (conv=>lhs;whnf;arg 2;tactic=>first|exact g1|exact q2|exact q4|exact c1|exact congrArg not q2|exact congrArg not q4|exact congrArg not c1|exact g2)
     rfl
    ·rcases (htell _ hc).1 rfl with q2 | ⟨q2, q4⟩
     ·rw [h.call]
      repeat (conv=>lhs;whnf;arg 2;tactic=>first|exact g1|exact q2|exact c1|exact congrArg not q2|exact congrArg not c1|exact g2)
      rfl
     ·rw [h.call]
      repeat (conv=>lhs;whnf;arg 2;tactic=>first|exact g1|exact q2|exact q4|exact c1|exact congrArg not q2|exact congrArg not q4|exact congrArg not c1|exact g2)
      rfl
   exact htt _ rfl
end
end Go.Gn

