/- Part 32 of a proof: an evaluator of the program, proved sound, and what it answers. -/
import Derived.Test.YtkgpnfeabojhcaaGreatA19
import Derived.Test.YtkgpnfeabojhcaaGreatA26
import Derived.Test.YtkgpnfeabojhcaaGreatA29
import Derived.Test.YtkgpnfeabojhcaaGreatA30
import Derived.Test.YtkgpnfeabojhcaaGreatA31
set_option linter.all false
namespace Go.Gn
open Go
set_option maxRecDepth 100000
set_option maxHeartbeats 16000000
section
variable {W : CallF} {L : LoopF} {E : EqF} {T : Prop → Bool} (h : IsK G W L E T)
include h
theorem ev_isCurrent (w : WorldM) (hlead : w.lead = 1 ∨ w.lead = 2) (m : MsgM) (lm : m.ops.length < 2000000) (hn : 0 ≤ m.n ∧ m.n ≤ 20) (hk : m.kind = 1 → 1 ≤ m.n) :
  W f_impl_World_isCurrent [.ep .br (wDs w) 0, msgA m] [] = some (.bool (currM (w.nd w.lead) (w.nd (3 - w.lead)) w.term w.lead m), []) := by
 obtain ⟨a1, a2, term, lead, both, nets, done⟩ := w
 obtain ⟨kind, to, mt, mn, op, ops⟩ := m
 simp only at *
 obtain ⟨k, rfl⟩ : ∃ k : Nat, mn = k := ⟨mn.toNat, by omega⟩
 unfold currM hasK
 simp only
 rcases hlead with rfl | rfl
 ·rw [show WorldM.nd ⟨a1, a2, term, 1, both, nets, done⟩ 1 = a1 from rfl, show WorldM.nd ⟨a1, a2, term, 1, both, nets, done⟩ (3 - 1) = a2 from rfl]
  have hl1 : ((a1.ops.map opD).length : Nat) = a1.ops.length := List.length_map ..
  have hl2 : ((a2.ops.map opD).length : Nat) = a2.ops.length := List.length_map ..
  have hle1 : decide ((k : Int) ≤ ((a1.ops.map opD).length : Int)) = decide ((k : Int) ≤ (a1.ops.length : Int)) := by rw [hl1]
  have hge : decide (((a2.ops.map opD).length : Int) ≥ (k : Int)) = decide ((a2.ops.length : Int) ≥ (k : Int)) := by rw [hl2]
  have eb2 := ev_isPrefix h ops a1.ops lm
  have en := ev_nodeM h ⟨a1, a2, term, 1, both, nets, done⟩ ⟨kind, to, mt, (k : Nat), op, ops⟩ 1 (by decide)
  have eo := ev_nodeM h ⟨a1, a2, term, 1, both, nets, done⟩ ⟨kind, to, mt, (k : Nat), op, ops⟩ (IntKind.i64.wrap (3 - 1)) (by decide)
  cases q2 : kind == 2
  ·cases q4 : kind == 4
   ·cases c4 : kind == 1
    ·simp only [cond_false, cond_true, Bool.or_false, Bool.or_true]
     cases c5 : to != 1
     ·rw [h.call]
      repeat (conv=>lhs;whnf;arg 2;tactic=>first|exact en|exact eo|exact q2|exact q4|exact c4|exact c5|exact gS)
      rfl
     ·rw [h.call]
      repeat (conv=>lhs;whnf;arg 2;tactic=>first|exact en|exact eo|exact q2|exact q4|exact c4|exact c5|exact eb2|exact gS)
      rfl
    ·simp only [cond_false, cond_true, Bool.or_false, Bool.or_true]
     cases c5 : to != 1
     ·rw [h.call]
      repeat (conv=>lhs;whnf;arg 2;tactic=>first|exact en|exact eo|exact q2|exact q4|exact c4|exact c5|exact gS)
      rfl
     ·simp only [Bool.true_and]
      cases c6 : decide ((k : Int) ≤ (a1.ops.length : Int))
      ·rw [c6] at hle1
       rw [h.call]
       repeat (conv=>lhs;whnf;arg 2;tactic=>first|exact en|exact eo|exact q2|exact q4|exact c4|exact c5|exact hle1|exact gS)
       rfl
      ·rw [c6] at hle1
       have hk1 := hk (by simpa using c4)
       have c6' := of_decide_eq_true c6
       obtain ⟨j, hj⟩ : ∃ j : Nat, k = j + 1 := ⟨k - 1, by omega⟩
       have hwj : IntKind.i64.wrap ((k : Int) - 1) = (j : Nat) := by rw [wrap_id (by omega) (by omega)]; omega
       obtain ⟨x, hx⟩ := get_some (xs := a1.ops) (i := j) (by omega)
       have hx2 : a1.ops[((k : Int) - 1).toNat]? = some x := by rw [show ((k : Int) - 1).toNat = j by omega]; exact hx
       have he := E_op h x op
       unfold hasOp
       simp only [hx2, Bool.true_and]
       rw [h.call]
       repeat (conv=>lhs;whnf;arg 2;tactic=>first|exact en|exact eo|exact q2|exact q4|exact c4|exact c5|exact hle1|exact hwj|exact map_get hx|exact he|exact gS)
       rfl
   ·simp only [cond_false, cond_true, Bool.or_false, Bool.or_true]
    cases c5 : to == 1
    ·rw [h.call]
     repeat (conv=>lhs;whnf;arg 2;tactic=>first|exact en|exact eo|exact q2|exact q4|exact c5|exact gS)
     rfl
    ·simp only [Bool.true_and]
     cases c6 : a2.term == term
     ·rw [h.call]
      repeat (conv=>lhs;whnf;arg 2;tactic=>first|exact en|exact eo|exact q2|exact q4|exact c5|exact c6|exact gS)
      rfl
     ·simp only [Bool.true_and]
      rw [← hge, h.call]
      repeat (conv=>lhs;whnf;arg 2;tactic=>first|exact en|exact eo|exact q2|exact q4|exact c5|exact c6|exact gS)
      rfl
  ·simp only [cond_false, cond_true, Bool.true_or]
   cases c5 : to == 1
   ·rw [h.call]
    repeat (conv=>lhs;whnf;arg 2;tactic=>first|exact en|exact eo|exact q2|exact c5|exact gS)
    rfl
   ·simp only [Bool.true_and]
    cases c6 : a2.term == term
    ·rw [h.call]
     repeat (conv=>lhs;whnf;arg 2;tactic=>first|exact en|exact eo|exact q2|exact c5|exact c6|exact gS)
     rfl
    ·simp only [Bool.true_and]
     rw [← hge, h.call]
     repeat (conv=>lhs;whnf;arg 2;tactic=>first|exact en|exact eo|exact q2|exact c5|exact c6|exact gS)
     rfl
 ·rw [show WorldM.nd ⟨a1, a2, term, 2, both, nets, done⟩ 2 = a2 from rfl, show WorldM.nd ⟨a1, a2, term, 2, both, nets, done⟩ (3 - 2) = a1 from rfl]
  have hl2 : ((a2.ops.map opD).length : Nat) = a2.ops.length := List.length_map ..
  have hl1 : ((a1.ops.map opD).length : Nat) = a1.ops.length := List.length_map ..
  have hle2 : decide ((k : Int) ≤ ((a2.ops.map opD).length : Int)) = decide ((k : Int) ≤ (a2.ops.length : Int)) := by rw [hl2]
  have hge : decide (((a1.ops.map opD).length : Int) ≥ (k : Int)) = decide ((a1.ops.length : Int) ≥ (k : Int)) := by rw [hl1]
  have eb2 := ev_isPrefix h ops a2.ops lm
  have en := ev_nodeM h ⟨a1, a2, term, 2, both, nets, done⟩ ⟨kind, to, mt, (k : Nat), op, ops⟩ 2 (by decide)
  have eo := ev_nodeM h ⟨a1, a2, term, 2, both, nets, done⟩ ⟨kind, to, mt, (k : Nat), op, ops⟩ (IntKind.i64.wrap (3 - 2)) (by decide)
  cases q2 : kind == 2
  ·cases q4 : kind == 4
   ·cases c4 : kind == 1
    ·simp only [cond_false, cond_true, Bool.or_false, Bool.or_true]
     cases c5 : to != 2
     ·rw [h.call]
      repeat (conv=>lhs;whnf;arg 2;tactic=>first|exact en|exact eo|exact q2|exact q4|exact c4|exact c5|exact gS)
      rfl
     ·rw [h.call]
      repeat (conv=>lhs;whnf;arg 2;tactic=>first|exact en|exact eo|exact q2|exact q4|exact c4|exact c5|exact eb2|exact gS)
      rfl
    ·simp only [cond_false, cond_true, Bool.or_false, Bool.or_true]
     cases c5 : to != 2
     ·rw [h.call]
      repeat (conv=>lhs;whnf;arg 2;tactic=>first|exact en|exact eo|exact q2|exact q4|exact c4|exact c5|exact gS)
      rfl
     ·simp only [Bool.true_and]
      cases c6 : decide ((k : Int) ≤ (a2.ops.length : Int))
      ·rw [c6] at hle2
       rw [h.call]
       repeat (conv=>lhs;whnf;arg 2;tactic=>first|exact en|exact eo|exact q2|exact q4|exact c4|exact c5|exact hle2|exact gS)
       rfl
      ·rw [c6] at hle2
       have hk1 := hk (by simpa using c4)
       have c6' := of_decide_eq_true c6
       obtain ⟨j, hj⟩ : ∃ j : Nat, k = j + 1 := ⟨k - 1, by omega⟩
       have hwj : IntKind.i64.wrap ((k : Int) - 1) = (j : Nat) := by rw [wrap_id (by omega) (by omega)]; omega
       obtain ⟨x, hx⟩ := get_some (xs := a2.ops) (i := j) (by omega)
       have hx2 : a2.ops[((k : Int) - 1).toNat]? = some x := by rw [show ((k : Int) - 1).toNat = j by omega]; exact hx
       have he := E_op h x op
       unfold hasOp
       simp only [hx2, Bool.true_and]
       rw [h.call]
       repeat (conv=>lhs;whnf;arg 2;tactic=>first|exact en|exact eo|exact q2|exact q4|exact c4|exact c5|exact hle2|exact hwj|exact map_get hx|exact he|exact gS)
       rfl
   ·simp only [cond_false, cond_true, Bool.or_false, Bool.or_true]
    cases c5 : to == 2
    ·rw [h.call]
     repeat (conv=>lhs;whnf;arg 2;tactic=>first|exact en|exact eo|exact q2|exact q4|exact c5|exact gS)
     rfl
    ·simp only [Bool.true_and]
     cases c6 : a1.term == term
     ·rw [h.call]
      repeat (conv=>lhs;whnf;arg 2;tactic=>first|exact en|exact eo|exact q2|exact q4|exact c5|exact c6|exact gS)
      rfl
     ·simp only [Bool.true_and]
      rw [← hge, h.call]
      repeat (conv=>lhs;whnf;arg 2;tactic=>first|exact en|exact eo|exact q2|exact q4|exact c5|exact c6|exact gS)
      rfl
  ·simp only [cond_false, cond_true, Bool.true_or]
   cases c5 : to == 2
   ·rw [h.call]
    repeat (conv=>lhs;whnf;arg 2;tactic=>first|exact en|exact eo|exact q2|exact c5|exact gS)
    rfl
   ·simp only [Bool.true_and]
    cases c6 : a1.term == term
    ·rw [h.call]
     repeat (conv=>lhs;whnf;arg 2;tactic=>first|exact en|exact eo|exact q2|exact c5|exact c6|exact gS)
     rfl
    ·simp only [Bool.true_and]
     rw [← hge, h.call]
     repeat (conv=>lhs;whnf;arg 2;tactic=>first|exact en|exact eo|exact q2|exact c5|exact c6|exact gS)
     rfl
theorem ev_isCorrect (w : WorldM) (hlead : w.lead = 1 ∨ w.lead = 2) (l1 : w.n1.ops.length < 2000000) (l2 : w.n2.ops.length < 2000000) (m : MsgM) (lm : m.ops.length < 2000000) (hn : 0 ≤ m.n ∧ m.n ≤ 20) (hk : m.kind = 1 → 1 ≤ m.n) :
  W f_impl_World_isCorrect [.ep .br (wDs w) 0, msgA m] [] = some (.bool (corrM (w.nd w.lead) (w.nd (3 - w.lead)) w.term w.lead w.done m), []) := by
 have ec := ev_isCurrent h w hlead m lm hn hk
 obtain ⟨a1, a2, term, lead, both, nets, done⟩ := w
 obtain ⟨kind, to, mt, mn, op, ops⟩ := m
 simp only at *
 obtain ⟨k, rfl⟩ : ∃ k : Nat, mn = k := ⟨mn.toNat, by omega⟩
 unfold corrM hasK
 simp only
 rcases hlead with rfl | rfl
 ·rw [show WorldM.nd ⟨a1, a2, term, 1, both, nets, done⟩ 1 = a1 from rfl, show WorldM.nd ⟨a1, a2, term, 1, both, nets, done⟩ (3 - 1) = a2 from rfl] at ec ⊢
  have hl2 : ((a2.ops.map opD).length : Nat) = a2.ops.length := List.length_map ..
  have hge : decide (((a2.ops.map opD).length : Int) ≥ (k : Int)) = decide ((a2.ops.length : Int) ≥ (k : Int)) := by rw [hl2]
  have eo := ev_nodeM h ⟨a1, a2, term, 1, both, nets, done⟩ ⟨kind, to, mt, (k : Nat), op, ops⟩ (IntKind.i64.wrap (3 - 1)) (by decide)
  have eb1 := ev_isPrefix h (a2.ops.take k) done (by simp; omega)
  have hv : view (a2.ops.map opD) 0 (k - 0) = (a2.ops.take k).map opD := view_take opD a2.ops k
  rw [← hv] at eb1
  cases c1 : decide (mt > term)
  ·simp only [cond_false]
   cases c2 : mt == term
   ·simp only [cond_false]
    have rest : ∀ (b2 b4 : Bool), (kind != 2) = b2 → (kind != 4) = b4 → W f_impl_World_isCorrect [.ep .br (wDs ⟨a1, a2, term, 1, both, nets, done⟩) 0, msgA ⟨kind, to, mt, (k : Nat), op, ops⟩] [] = some (.bool (bif (b2 && b4) || (to == 1) then true else bif (a2.term != mt) || !a2.leads then true else decide ((a2.ops.length : Int) ≥ (k : Int)) && pre (a2.ops.take k) done), []) := by
     intro b2 b4 q2 q4
     have body : ∀ s, W f_impl_World_isCorrect [.ep .br (wDs ⟨a1, a2, term, 1, both, nets, done⟩) 0, msgA ⟨kind, to, mt, (k : Nat), op, ops⟩] [] = s → (b2 && b4) = false → s = some (.bool (bif (to == 1) then true else bif (a2.term != mt) || !a2.leads then true else decide ((a2.ops.length : Int) ≥ (k : Int)) && pre (a2.ops.take k) done), []) := by
      intro s hs hb
      rw [← hs]
      have hb' : (b2 = false) ∨ (b2 = true ∧ b4 = false) := by cases b2 <;> cases b4 <;> simp at hb ⊢
      cases c5 : to == 1
      ·simp only [cond_false]
       cases c6 : a2.term != mt
       ·cases c7 : a2.leads
        ·rcases hb' with rfl | ⟨rfl, rfl⟩
         all_goals
          rw [h.call]
          repeat (conv=>lhs;whnf;arg 2;tactic=>first|exact eo|exact q2|exact q4|exact c1|exact c2|exact c5|exact c6|exact congrArg not c7)
          rfl
        ·simp only [Bool.false_or, Bool.not_true, cond_false]
         cases c8 : decide ((a2.ops.length : Int) ≥ (k : Int))
         ·rw [c8] at hge
          rcases hb' with rfl | ⟨rfl, rfl⟩
          all_goals
           rw [h.call]
           repeat (conv=>lhs;whnf;arg 2;tactic=>first|exact eo|exact q2|exact q4|exact c1|exact c2|exact c5|exact c6|exact hge|exact congrArg not c7)
           rfl
         ·rw [c8] at hge
          have c8' : (a2.ops.length : Int) ≥ (k : Int) := of_decide_eq_true c8
          have hkb : decide (k ≤ (a2.ops.map opD).length) = true := decide_eq_true (by rw [hl2]; omega)
          rcases hb' with rfl | ⟨rfl, rfl⟩
          all_goals
           rw [h.call]
           repeat (conv=>lhs;whnf;arg 2;tactic=>first|exact eo|exact q2|exact q4|exact c1|exact c2|exact c5|exact c6|exact hge|exact hkb|exact eb1|exact congrArg not c7)
           rfl
       ·rcases hb' with rfl | ⟨rfl, rfl⟩
        all_goals
         rw [h.call]
         repeat (conv=>lhs;whnf;arg 2;tactic=>first|exact eo|exact q2|exact q4|exact c1|exact c2|exact c5|exact c6)
         rfl
      ·rcases hb' with rfl | ⟨rfl, rfl⟩
       all_goals
        rw [h.call]
        repeat (conv=>lhs;whnf;arg 2;tactic=>first|exact q2|exact q4|exact c1|exact c2|exact c5)
        rfl
     cases hb : b2 && b4
     ·rw [Bool.false_or]
      exact body _ rfl hb
     ·obtain ⟨rfl, rfl⟩ : b2 = true ∧ b4 = true := by simpa using hb
      rw [h.call]
      repeat (conv=>lhs;whnf;arg 2;tactic=>first|exact q2|exact q4|exact c1|exact c2)
      rfl
    have hx : (!((kind == 2) || (kind == 4))) = ((kind != 2) && (kind != 4)) := by
     unfold bne
     cases kind == 2 <;> cases kind == 4 <;> rfl
    rw [hx, Int.toNat_natCast]
    exact rest _ _ rfl rfl
   ·simp only [cond_true]
    rw [h.call]
    repeat (conv=>lhs;whnf;arg 2;tactic=>first|exact c1|exact c2|exact ec)
    rfl
  ·rw [h.call]
   repeat (conv=>lhs;whnf;arg 2;tactic=>first|exact c1)
   rfl
 ·rw [show WorldM.nd ⟨a1, a2, term, 2, both, nets, done⟩ 2 = a2 from rfl, show WorldM.nd ⟨a1, a2, term, 2, both, nets, done⟩ (3 - 2) = a1 from rfl] at ec ⊢
  have hl1 : ((a1.ops.map opD).length : Nat) = a1.ops.length := List.length_map ..
  have hge : decide (((a1.ops.map opD).length : Int) ≥ (k : Int)) = decide ((a1.ops.length : Int) ≥ (k : Int)) := by rw [hl1]
  have eo := ev_nodeM h ⟨a1, a2, term, 2, both, nets, done⟩ ⟨kind, to, mt, (k : Nat), op, ops⟩ (IntKind.i64.wrap (3 - 2)) (by decide)
  have eb1 := ev_isPrefix h (a1.ops.take k) done (by simp; omega)
  have hv : view (a1.ops.map opD) 0 (k - 0) = (a1.ops.take k).map opD := view_take opD a1.ops k
  rw [← hv] at eb1
  cases c1 : decide (mt > term)
  ·simp only [cond_false]
   cases c2 : mt == term
   ·simp only [cond_false]
    have rest : ∀ (b2 b4 : Bool), (kind != 2) = b2 → (kind != 4) = b4 → W f_impl_World_isCorrect [.ep .br (wDs ⟨a1, a2, term, 2, both, nets, done⟩) 0, msgA ⟨kind, to, mt, (k : Nat), op, ops⟩] [] = some (.bool (bif (b2 && b4) || (to == 2) then true else bif (a1.term != mt) || !a1.leads then true else decide ((a1.ops.length : Int) ≥ (k : Int)) && pre (a1.ops.take k) done), []) := by
     intro b2 b4 q2 q4
     have body : ∀ s, W f_impl_World_isCorrect [.ep .br (wDs ⟨a1, a2, term, 2, both, nets, done⟩) 0, msgA ⟨kind, to, mt, (k : Nat), op, ops⟩] [] = s → (b2 && b4) = false → s = some (.bool (bif (to == 2) then true else bif (a1.term != mt) || !a1.leads then true else decide ((a1.ops.length : Int) ≥ (k : Int)) && pre (a1.ops.take k) done), []) := by
      intro s hs hb
      rw [← hs]
      have hb' : (b2 = false) ∨ (b2 = true ∧ b4 = false) := by cases b2 <;> cases b4 <;> simp at hb ⊢
      cases c5 : to == 2
      ·simp only [cond_false]
       cases c6 : a1.term != mt
       ·cases c7 : a1.leads
        ·rcases hb' with rfl | ⟨rfl, rfl⟩
         all_goals
          rw [h.call]
          repeat (conv=>lhs;whnf;arg 2;tactic=>first|exact eo|exact q2|exact q4|exact c1|exact c2|exact c5|exact c6|exact congrArg not c7)
          rfl
        ·simp only [Bool.false_or, Bool.not_true, cond_false]
         cases c8 : decide ((a1.ops.length : Int) ≥ (k : Int))
         ·rw [c8] at hge
          rcases hb' with rfl | ⟨rfl, rfl⟩
          all_goals
           rw [h.call]
           repeat (conv=>lhs;whnf;arg 2;tactic=>first|exact eo|exact q2|exact q4|exact c1|exact c2|exact c5|exact c6|exact hge|exact congrArg not c7)
           rfl
         ·rw [c8] at hge
          have c8' : (a1.ops.length : Int) ≥ (k : Int) := of_decide_eq_true c8
          have hkb : decide (k ≤ (a1.ops.map opD).length) = true := decide_eq_true (by rw [hl1]; omega)
          rcases hb' with rfl | ⟨rfl, rfl⟩
          all_goals
           rw [h.call]
           repeat (conv=>lhs;whnf;arg 2;tactic=>first|exact eo|exact q2|exact q4|exact c1|exact c2|exact c5|exact c6|exact hge|exact hkb|exact eb1|exact congrArg not c7)
           rfl
       ·rcases hb' with rfl | ⟨rfl, rfl⟩
        all_goals
         rw [h.call]
         repeat (conv=>lhs;whnf;arg 2;tactic=>first|exact eo|exact q2|exact q4|exact c1|exact c2|exact c5|exact c6)
         rfl
      ·rcases hb' with rfl | ⟨rfl, rfl⟩
       all_goals
        rw [h.call]
        repeat (conv=>lhs;whnf;arg 2;tactic=>first|exact q2|exact q4|exact c1|exact c2|exact c5)
        rfl
     cases hb : b2 && b4
     ·rw [Bool.false_or]
      exact body _ rfl hb
     ·obtain ⟨rfl, rfl⟩ : b2 = true ∧ b4 = true := by simpa using hb
      rw [h.call]
      repeat (conv=>lhs;whnf;arg 2;tactic=>first|exact q2|exact q4|exact c1|exact c2)
      rfl
    have hx : (!((kind == 2) || (kind == 4))) = ((kind != 2) && (kind != 4)) := by
     unfold bne
     cases kind == 2 <;> cases kind == 4 <;> rfl
    rw [hx, Int.toNat_natCast]
    exact rest _ _ rfl rfl
   ·simp only [cond_true]
    rw [h.call]
    repeat (conv=>lhs;whnf;arg 2;tactic=>first|exact c1|exact c2|exact ec)
    rfl
  ·rw [h.call]
   repeat (conv=>lhs;whnf;arg 2;tactic=>first|exact c1)
   rfl
end
end Go.Gn

namespace Go.Gn
open Go
set_option maxRecDepth 100000
set_option maxHeartbeats 16000000
def worldOkI (w : WorldM) : Bool := nodeOk w.n1 && (nodeOk w.n2 && (!(decide ((w.nets.length : Int) > 12)) && (rightM (w.nd w.lead) (w.nd (3 - w.lead)) w.term w.both w.done && w.nets.all (letterM w))))
theorem worldOkI_eq (w : WorldM) : worldOkI w = worldOkM w := by
 unfold worldOkI worldOkM
 cases nodeOk w.n1 <;> cases nodeOk w.n2 <;> cases decide ((w.nets.length : Int) > 12) <;> rfl
section
variable {W : CallF} {L : LoopF} {E : EqF} {T : Prop → Bool} (h : IsK G W L E T)
include h
theorem ev_WorldOk_c1 (w : WorldM) (hw : WL w) (m : MsgM) (hm : MsgSz m) : W f_impl_WorldOk_c1 [msgA m, .ep .br (wDs w) 0] [] = some (.bool (!letterM w m), []) := by
 have e1 := ev_isMsg h m hm
 unfold letterM
 cases c1 : msgOk m
 ·rw [c1] at e1
  rw [h.call]
  repeat (conv=>lhs;whnf;arg 2;tactic=>first|exact e1)
  rfl
 ·rw [c1] at e1
  have hg := MsgG.of c1 hm
  have e2 := ev_isCorrect h w hw.lead (by have := hw.o1.1; omega) (by have := hw.o2.1; omega) m (by have := hm.ops.1; omega) hg.n hg.copy
  rw [corr_eq hw.lead hg.to] at e2
  cases c2 : trueM (w.nd w.lead) (w.nd (3 - w.lead)) w.term w.lead w.done m
  ·rw [c2] at e2
   rw [h.call]
   repeat (conv=>lhs;whnf;arg 2;tactic=>first|exact e1|exact e2)
   rfl
  ·rw [c2] at e2
   rw [h.call]
   repeat (conv=>lhs;whnf;arg 2;tactic=>first|exact e1|exact e2)
   rfl
theorem msgs_loop (w : WorldM) (hw : WL w) : ∀ (m i : Nat), i + m = w.nets.length → ∃ r, L (norm 0 cf154.live) (exitN 0 cf154.out (evCW W L G cf154 0 c154l0)) ⟨[(0, .sl .br (w.nets.map msgD)), (1, .fn 94 [.ep .br (wDs w) 0]), (7, .int .i64 ((w.nets.map msgD).length : Nat)), (8, .int .i64 (i : Nat))], []⟩ = some r ∧
  if (w.nets.drop i).all (letterM w) then r = (.ext 0, ⟨[(4, .top)], []⟩) else ∃ j : Nat, r = (.ret, ⟨[(4, .int .i64 (j : Nat))], []⟩)
 | 0, i, hm => by
  rw [List.drop_eq_nil_of_le (show w.nets.length ≤ i by omega)]
  refine ⟨(.ext 0, ⟨[(4, .top)], []⟩), ?_, rfl⟩
  rw [h.loop]
  repeat (conv=>lhs;whnf;arg 2;tactic=>first|exact g1)
  rfl
 | m + 1, i, hm => by
  have hnl := hw.nl
  obtain ⟨x, hx⟩ := get_some (xs := w.nets) (i := i) (by omega)
  have e1 := ev_WorldOk_c1 h w hw x (hw.nets x (List.mem_of_getElem? hx))
  rw [drop_cons hx, List.all_cons]
  cases c1 : letterM w x
  ·rw [c1] at e1
   refine ⟨(.ret, ⟨[(4, .int .i64 (i : Nat))], []⟩), ?_, by rw [Bool.false_and, if_neg (by simp)]; exact ⟨i, rfl⟩⟩
   rw [h.loop]
   repeat (conv=>lhs;whnf;arg 2;tactic=>first|exact g1|exact map_get hx|exact e1)
   rfl
  ·rw [c1] at e1
   obtain ⟨r, b1, b2⟩ := msgs_loop w hw m (i + 1) (by omega)
   refine ⟨r, ?_, by simpa using b2⟩
   rw [← b1, h.loop]
   repeat (conv=>lhs;whnf;arg 2;tactic=>first|exact g1|exact map_get hx|exact e1)
   conv => lhs; whnf
   rw [wrap_succ (by omega)]
theorem ev_Contains (w : WorldM) (hw : WL w) : W f_slices_ContainsFunc_Msg [.sl .br (w.nets.map msgD), .fn 94 [.ep .br (wDs w) 0]] [] = some (.bool (!(w.nets.all (letterM w))), []) := by
 obtain ⟨r, e, hr⟩ := msgs_loop h w hw w.nets.length 0 (by omega)
 rw [nc0] at e
 rw [List.drop_zero] at hr
 have ei : ∃ k : Int, W f_slices_IndexFunc_Msg [.sl .br (w.nets.map msgD), .fn 94 [.ep .br (wDs w) 0]] [] = some (.int .i64 k, []) ∧ decide (k ≥ 0) = !(w.nets.all (letterM w)) := by
  cases c : w.nets.all (letterM w)
  ·rw [c] at hr
   obtain ⟨j, rfl⟩ := hr
   refine ⟨(j : Nat), ?_, by simp⟩
   rw [h.call]
   repeat (conv=>lhs;whnf;arg 2;tactic=>first|exact e)
   rfl
  ·rw [c] at hr
   simp only [if_true] at hr
   subst hr
   refine ⟨-1, ?_, by decide⟩
   rw [h.call]
   repeat (conv=>lhs;whnf;arg 2;tactic=>first|exact e)
   rfl
 obtain ⟨k, e1, e2⟩ := ei
 rw [← e2, h.call]
 repeat (conv=>lhs;whnf;arg 2;tactic=>first|exact e1)
 rfl
theorem ev_WorldOk (w : WorldM) (hw : WL w) : W f_impl_WorldOk [worldA w] [] = some (.bool (worldOkM w), []) := by
 have en1 := ev_NodeOk h w.n1 hw.o1
 have en2 := ev_NodeOk h w.n2 hw.o2
 have ein := ev_isNode h w.lead
 have hlead : inR w.lead 1 2 = true := by
  rcases hw.lead with h | h <;> rw [h] <;> decide
 have er := ev_areRight h w hw
 have ec := ev_Contains h w hw
 have hln : ((w.nets.map msgD).length : Nat) = w.nets.length := List.length_map ..
 have hgt : decide (((w.nets.map msgD).length : Int) > 12) = decide ((w.nets.length : Int) > 12) := by rw [hln]
 rw [← worldOkI_eq]
 unfold worldOkI
 cases c2 : nodeOk w.n1
 ·rw [c2] at en1
  rw [h.call]
  repeat (conv=>lhs;whnf;arg 2;tactic=>first|exact en1)
  rfl
 ·rw [c2] at en1
  cases c3 : nodeOk w.n2
  ·rw [c3] at en2
   rw [h.call]
   repeat (conv=>lhs;whnf;arg 2;tactic=>first|exact en1|exact en2)
   rfl
  ·rw [c3] at en2
   cases c1 : decide ((w.nets.length : Int) > 12)
   ·rw [c1] at hgt
    cases c4 : rightM (w.nd w.lead) (w.nd (3 - w.lead)) w.term w.both w.done
    ·rw [c4] at er
     rw [h.call]
     repeat (conv=>lhs;whnf;arg 2;tactic=>first|exact en1|exact en2|exact ein|exact hgt|exact er|exact congrArg not hlead)
     rfl
    ·rw [c4] at er
     cases c5 : w.nets.all (letterM w)
     ·rw [c5] at ec
      rw [h.call]
      repeat (conv=>lhs;whnf;arg 2;tactic=>first|exact en1|exact en2|exact ein|exact hgt|exact er|exact ec|exact congrArg not hlead)
      rfl
     ·rw [c5] at ec
      rw [h.call]
      repeat (conv=>lhs;whnf;arg 2;tactic=>first|exact en1|exact en2|exact ein|exact hgt|exact er|exact ec|exact congrArg not hlead)
      rfl
   ·rw [c1] at hgt
    rw [h.call]
    repeat (conv=>lhs;whnf;arg 2;tactic=>first|exact en1|exact en2|exact ein|exact hgt|exact congrArg not hlead)
    rfl
end
end Go.Gn

namespace Go.Gn
open Go
set_option maxRecDepth 100000
set_option maxHeartbeats 16000000
def safeM (w : WorldM) : Bool := pre w.done (w.nd w.lead).ops && (!w.both || pre w.done (w.nd (3 - w.lead)).ops)
theorem ok_safe {w : WorldM} (h : worldOkM w = true) : safeM w = true := by
 unfold worldOkM rightM at h
 simp only [Bool.and_eq_true, Bool.not_eq_true', Bool.and_eq_false_iff, Bool.not_eq_false'] at h
 unfold safeM
 have h1 := h.2.2.2.1.2.2.2.2.2.2.2.1
 have h2 := h.2.2.2.1.2.2.2.2.2.2.2.2.1
 rw [h1]
 rcases h2 with h2 | h2
 ·rw [h2]; rfl
 ·rw [h2]; simp
theorem WZ.l {w : WorldM} (h : WZ w) : WL w := ⟨h.lead, h.o1.sz, h.o2.sz, by have := h.nl; omega, fun m hm => (h.nets m hm).sz, h.done.sz⟩
section
variable {W : CallF} {L : LoopF} {E : EqF} {T : Prop → Bool} (h : IsK G W L E T)
include h
theorem ev_lgSafe (w : WorldM) (hlead : w.lead = 1 ∨ w.lead = 2) (hd : w.done.length < 2000000) : W f_laws_lgSafe [worldA w] [] = some (.bool (safeM w), []) := by
 obtain ⟨a1, a2, term, lead, both, nets, done⟩ := w
 simp only at hlead hd
 unfold safeM
 rcases hlead with rfl | rfl
 ·rw [show WorldM.nd ⟨a1, a2, term, 1, both, nets, done⟩ 1 = a1 from rfl, show WorldM.nd ⟨a1, a2, term, 1, both, nets, done⟩ (3 - 1) = a2 from rfl]
  have p1 := ev_lgBegins h done a1.ops hd
  have p2 := ev_lgBegins h done a2.ops hd
  rw [pre_begins] at p1 p2
  simp only
  cases c1 : pre done a1.ops
  ·rw [c1] at p1
   rw [h.call]
   repeat (conv=>lhs;whnf;arg 2;tactic=>first|exact p1)
   rfl
  ·rw [c1] at p1
   cases both
   ·rw [h.call]
    repeat (conv=>lhs;whnf;arg 2;tactic=>first|exact p1)
    rfl
   ·rw [h.call]
    repeat (conv=>lhs;whnf;arg 2;tactic=>first|exact p1|exact p2)
    rfl
 ·rw [show WorldM.nd ⟨a1, a2, term, 2, both, nets, done⟩ 2 = a2 from rfl, show WorldM.nd ⟨a1, a2, term, 2, both, nets, done⟩ (3 - 2) = a1 from rfl]
  have p1 := ev_lgBegins h done a2.ops hd
  have p2 := ev_lgBegins h done a1.ops hd
  rw [pre_begins] at p1 p2
  simp only
  cases c1 : pre done a2.ops
  ·rw [c1] at p1
   rw [h.call]
   repeat (conv=>lhs;whnf;arg 2;tactic=>first|exact p1)
   rfl
  ·rw [c1] at p1
   cases both
   ·rw [h.call]
    repeat (conv=>lhs;whnf;arg 2;tactic=>first|exact p1)
    rfl
   ·rw [h.call]
    repeat (conv=>lhs;whnf;arg 2;tactic=>first|exact p1|exact p2)
    rfl
end
end Go.Gn

namespace Go.Gn
open Go
set_option maxRecDepth 100000
set_option maxHeartbeats 16000000
theorem fB {b : Bool} (hb : b = true) : some (AV.bool b, ([] : List Obj)) = some (.bool true, []) := by rw [hb]
section
variable {W : CallF} {L : LoopF} {E : EqF} {T : Prop → Bool} (h : IsK G W L E T)
include h
theorem ev_FnWorldSafe (cs : List Int) (hc : BytesOk cs) : W f_laws_FnWorldSafe [.sl .sh (cs.map byD)] [] = some (.bool true, []) := by
 obtain ⟨es, hes, hl, e1⟩ := ev_DrawWorldPlay h cs hc
 cases hbig : decide (((cs.map byD).length : Int) > 1048576)
 ·rcases hl with hl | hl
  ·have hg := GoodW.new.play es
   have e2 := ev_iWorldPlay h es hes hl
   have e3 := ev_sWorldPlay h es hes hl
   have e4 := ev_lgWorld h _ hg.g.wl
   generalize hw : playM worldNew es = w at e2 e3 e4 hg
   have es := ev_lgSafe h w hg.g.lead (by have := hg.g.done.l; omega)
   rw [ok_safe hg.ok] at es
   have eo := ev_WorldOk h w hg.g.wl
   rw [hg.ok] at eo
   rw [h.call]
   repeat (conv=>lhs;whnf;arg 2;tactic=>first|exact g1|exact hbig|exact e1|exact e2|exact e3|exact e4|exact es|exact eo|exact gS|exact congrArg not hbig|exact g2)
   rfl
  ·have e2 := ev_iWorldPlayL h es hl
   have e3 := ev_sWorldPlayL h es hl
   have e4 := ev_lgWorldZ h
   rw [h.call]
   repeat (conv=>lhs;whnf;arg 2;tactic=>first|exact g1|exact hbig|exact e1|exact e2|exact e3|exact e4|exact congrArg not hbig|exact g2)
   rfl
 ·rw [h.call]
  repeat (conv=>lhs;whnf;arg 2;tactic=>first|exact g1|exact hbig|exact congrArg not hbig|exact g2)
  rfl
end
end Go.Gn

