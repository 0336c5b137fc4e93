/- Part 31 of a proof: an evaluator of the program, proved sound, and what it answers. -/
import Derived.Test.YtkgpnfeabojhcaaGreatA28
set_option linter.all false
namespace Go.Gn
open Go
set_option maxRecDepth 100000
set_option maxHeartbeats 16000000
def wDs (w : WorldM) : List D := [.sl [nodeD w.n1, nodeD w.n2], .int .i64 w.term, .int .i64 w.lead, .bool w.both, .sl (w.nets.map msgD), .sl (w.done.map opD)]
def rightI (n o : NodeM) (term : Int) (both : Bool) (done : List OpM) : Bool :=
 !(n.term != term) && (n.leads && (!(n.alone == both) && (!(decide (o.term > term)) && (!o.alone && (!(both && (o.term != term)) && (!((o.term == term) && (o.leads || !pre o.ops n.ops)) && (!(n.alone && ((done.length : Int) != (n.ops.length : Int))) && (!(both && !pre done o.ops) && pre done n.ops))))))))
theorem rightI_eq (n o : NodeM) (term : Int) (both : Bool) (done : List OpM) : rightI n o term both done = rightM n o term both done := by
 unfold rightI rightM
 generalize pre done n.ops = p
 generalize (!(both && !pre done o.ops)) = q
 generalize (!(n.alone && ((done.length : Int) != (n.ops.length : Int)))) = r
 cases p <;> cases q <;> cases r <;> rfl
def currM (n o : NodeM) (term lead : Int) (m : MsgM) : Bool :=
 bif hasK m then (m.to == lead) && ((o.term == term) && decide ((o.ops.length : Int) ≥ m.n)) else
 bif m.kind == 1 then (m.to != lead) && (decide (m.n ≤ (n.ops.length : Int)) && hasOp n.ops m.n m.op) else
 (m.to != lead) && pre m.ops n.ops
def corrM (n o : NodeM) (term lead : Int) (done : List OpM) (m : MsgM) : Bool :=
 bif decide (m.term > term) then false else
 bif m.term == term then currM n o term lead m else
 bif !hasK m || (m.to == lead) then true else
 bif (o.term != m.term) || !o.leads then true else
 decide ((o.ops.length : Int) ≥ m.n) && pre (o.ops.take m.n.toNat) done
theorem corr_eq {n o : NodeM} {term lead : Int} {done : List OpM} {m : MsgM} (hl : lead = 1 ∨ lead = 2) (ht : m.to = 1 ∨ m.to = 2) : corrM n o term lead done m = trueM n o term lead done m := by
 have h3 : (m.to == 3 - lead) = (m.to != lead) := by
  rw [Bool.eq_iff_iff]; simp; omega
 unfold corrM trueM currM
 rw [h3]
 by_cases h1 : m.term > term
 ·simp only [h1, decide_true, cond_true]
 ·simp only [h1, decide_false, cond_false]
  by_cases h2 : m.term = term
  ·have h4 : ¬ m.term < term := by omega
   simp only [h2, beq_self_eq_true, cond_true, show ¬ term < term by omega, decide_false, Bool.false_and, cond_false]
  ·have h4 : m.term < term := by omega
   have h5 : (m.term == term) = false := by simp [h2]
   simp only [h5, cond_false, h4, decide_true, Bool.true_and, cond_true]
   have h6 : (o.term != m.term) = !(o.term == m.term) := rfl
   have h7 : (m.to != lead) = !(m.to == lead) := rfl
   rw [h6, h7]
   cases hasK m <;> cases (m.to == lead) <;> cases o.leads <;> cases (o.term == m.term) <;> rfl
section
variable {W : CallF} {L : LoopF} {E : EqF} {T : Prop → Bool} (h : IsK G W L E T)
include h
theorem Equal_loop (a b : List OpM) (ha : a.length < 2000000) (hab : a.length = b.length) : ∀ (m i : Nat), i + m = a.length → L (norm 0 cf195.live) (exitN 0 cf195.out (evCW W L G cf195 0 c195l0)) ⟨[(0, .sl .br (a.map opD)), (1, .sl .br (b.map opD)), (12, .int .i64 ((a.map opD).length : Nat)), (13, .int .i64 (i : Nat))], []⟩ =
  some (if decide (a.drop i = b.drop i) then (.ext 0, ⟨[(4, .top)], []⟩) else (.ret, ⟨[(4, .bool false)], []⟩))
 | 0, i, hm => by
  rw [List.drop_eq_nil_of_le (show a.length ≤ i by omega), List.drop_eq_nil_of_le (show b.length ≤ i by omega)]
  rw [h.loop]
  repeat (conv=>lhs;whnf;arg 2;tactic=>first|exact g1)
  rfl
 | m + 1, i, hm => by
  obtain ⟨x, hx⟩ := get_some (xs := a) (i := i) (by omega)
  obtain ⟨y, hy⟩ := get_some (xs := b) (i := i) (by omega)
  have he := E_op h x y
  rw [opEq_eq] at he
  rw [take_eq_of hab hx hy, h.loop]
  cases hd : decide (x = y)
  ·rw [hd] at he
   repeat (conv=>lhs;whnf;arg 2;tactic=>first|exact g1|exact map_get hx|exact map_get hy|exact he)
   rfl
  ·rw [hd] at he
   repeat (conv=>lhs;whnf;arg 2;tactic=>first|exact g1|exact map_get hx|exact map_get hy|exact he)
   conv => lhs; whnf
   rw [wrap_succ (by omega), Equal_loop a b ha hab m (i + 1) (by omega)]
   rfl
theorem ev_Equal (a b : List OpM) (ha : a.length < 2000000) : W f_slices_Equal_Op [.sl .br (a.map opD), .sl .br (b.map opD)] [] = some (.bool (opsEq a b), []) := by
 have hla : ((a.map opD).length : Nat) = a.length := List.length_map ..
 have hlb : ((b.map opD).length : Nat) = b.length := List.length_map ..
 unfold opsEq
 rw [h.call]
 by_cases hl : a.length = b.length
 ·have e := Equal_loop h a b ha hl a.length 0 (by omega)
  rw [nc0, List.drop_zero, List.drop_zero] at e
  have hn : ((((a.map opD).length : Nat) : Int) != ((b.map opD).length : Nat)) = false := by rw [hla, hlb, hl]; exact bne_self_eq_false _
  cases hd : decide (a = b)
  ·rw [hd] at e
   repeat (conv=>lhs;whnf;arg 2;tactic=>first|exact hn|exact e)
   rfl
  ·rw [hd] at e
   repeat (conv=>lhs;whnf;arg 2;tactic=>first|exact hn|exact e)
   rfl
 ·have hn : ((((a.map opD).length : Nat) : Int) != ((b.map opD).length : Nat)) = true := by rw [hla, hlb, bne_iff_ne]; omega
  have hd : decide (a = b) = false := decide_eq_false (fun e => hl (by rw [e]))
  rw [hd]
  repeat (conv=>lhs;whnf;arg 2;tactic=>first|exact hn)
  rfl
theorem ev_isPrefix (a b : List OpM) (ha : a.length < 2000000) : W f_impl_isPrefix [.sl .br (a.map opD), .sl .br (b.map opD)] [] = some (.bool (pre a b), []) := by
 have hla : ((a.map opD).length : Nat) = a.length := List.length_map ..
 have hlb : ((b.map opD).length : Nat) = b.length := List.length_map ..
 have hle : decide ((((a.map opD).length : Nat) : Int) ≤ ((b.map opD).length : Nat)) = decide ((a.length : Int) ≤ (b.length : Int)) := by rw [hla, hlb]
 rw [← pre_begins]
 unfold beginsM
 rw [h.call]
 cases c : decide ((a.length : Int) ≤ (b.length : Int))
 ·rw [c] at hle
  repeat (conv=>lhs;whnf;arg 2;tactic=>first|exact hle)
  rfl
 ·have c' : (a.length : Int) ≤ (b.length : Int) := of_decide_eq_true c
  rw [c] at hle
  have hv : view (b.map opD) 0 ((a.map opD).length - 0) = (b.take a.length).map opD := by rw [hla]; exact view_take opD b _
  have eo := ev_Equal h a (b.take a.length) ha
  rw [← hv] at eo
  repeat (conv=>lhs;whnf;arg 2;tactic=>first|exact g1|exact eo)
  rfl
theorem ev_node (w : WorldM) (id : Int) (hid : id = 1 ∨ id = 2) : W f_impl_World_node [.ep .br (wDs w) 0, .int .i64 id] [] = some (.ep .br (nodeD (w.nd id)) 0, []) := by
 rcases hid with rfl | rfl
 all_goals
  rw [h.call]
  rfl
def mBr (m : MsgM) : Obj := .box [.int .i64 m.kind, .int .i64 m.to, .int .i64 m.term, .int .i64 m.n, .int .i64 m.op.kind, .str m.op.name, .str m.op.to, .int .i64 m.op.n, .str m.op.text, .sl .br (m.ops.map opD)]
theorem ev_nodeM (w : WorldM) (m : MsgM) (id : Int) (hid : id = 1 ∨ id = 2) : W f_impl_World_node [.ep .br (wDs w) 0, .int .i64 id] [mBr m] = some (.ep .br (nodeD (w.nd id)) 0, [mBr m]) := by
 rcases hid with rfl | rfl
 all_goals
  rw [h.call]
  rfl
theorem ev_areRight (w : WorldM) (hw : WL w) : W f_impl_World_areRight [.ep .br (wDs w) 0] [] = some (.bool (rightM (w.nd w.lead) (w.nd (3 - w.lead)) w.term w.both w.done), []) := by
 have hlead := hw.lead
 have lo1 := hw.o1.1
 have lo2 := hw.o2.1
 have ld := hw.done.1
 rw [← rightI_eq]
 obtain ⟨a1, a2, term, lead, both, nets, done⟩ := w
 simp only at *
 have hld : ((done.map opD).length : Nat) = done.length := List.length_map ..
 rcases hlead with rfl | rfl
 ·rw [show WorldM.nd ⟨a1, a2, term, 1, both, nets, done⟩ 1 = a1 from rfl, show WorldM.nd ⟨a1, a2, term, 1, both, nets, done⟩ (3 - 1) = a2 from rfl]
  have hlo : ((a1.ops.map opD).length : Nat) = a1.ops.length := List.length_map ..
  have hne : (((done.map opD).length : Int) != ((a1.ops.map opD).length : Int)) = ((done.length : Int) != (a1.ops.length : Int)) := by rw [hld, hlo]
  have en := ev_node h ⟨a1, a2, term, 1, both, nets, done⟩ 1 (by decide)
  have eo := ev_node h ⟨a1, a2, term, 1, both, nets, done⟩ (IntKind.i64.wrap (3 - 1)) (by decide)
  have p1 := ev_isPrefix h a2.ops a1.ops (by omega)
  have p2 := ev_isPrefix h done a1.ops (by omega)
  have p3 := ev_isPrefix h done a2.ops (by omega)
  unfold rightI
  cases c4 : a1.term != term
  ·cases c5 : a1.leads
   ·rw [h.call]
    repeat (conv=>lhs;whnf;arg 2;tactic=>first|exact en|exact eo|exact c4|exact gS|exact congrArg not c5)
    rfl
   ·cases al : a1.alone
    ·cases both
     ·have c6 : (a1.alone == false) = true := by rw [al]; rfl
      rw [h.call]
      repeat (conv=>lhs;whnf;arg 2;tactic=>first|exact en|exact eo|exact c4|exact c6|exact gS|exact congrArg not c5)
      rfl
     ·have c6 : (a1.alone == true) = false := by rw [al]; rfl
      cases c7 : decide (a2.term > term)
      ·cases c8 : a2.alone
       ·cases c9 : a2.term != term
        ·have q1 : (a2.term == term) = true := by simpa using c9
         rw [q1]
         cases q2 : a2.leads
         ·cases q3 : pre a2.ops a1.ops
          ·rw [q3] at p1
           rw [h.call]
           repeat (conv=>lhs;whnf;arg 2;tactic=>first|exact en|exact eo|exact c4|exact c6|exact c7|exact c8|exact c9|exact q1|exact q2|exact p1|exact gS|exact congrArg not c5)
           rfl
          ·rw [q3] at p1
           cases d3 : pre done a2.ops
           ·rw [d3] at p3
            rw [h.call]
            repeat (conv=>lhs;whnf;arg 2;tactic=>first|exact en|exact eo|exact c4|exact al|exact c6|exact c7|exact c8|exact c9|exact q1|exact q2|exact p1|exact p3|exact gS|exact congrArg not c5)
            rfl
           ·rw [d3] at p3
            cases d2 : pre done a1.ops
            ·rw [d2] at p2
             rw [h.call]
             repeat (conv=>lhs;whnf;arg 2;tactic=>first|exact en|exact eo|exact c4|exact al|exact c6|exact c7|exact c8|exact c9|exact q1|exact q2|exact p1|exact p3|exact p2|exact gS|exact congrArg not c5)
             rfl
            ·rw [d2] at p2
             rw [h.call]
             repeat (conv=>lhs;whnf;arg 2;tactic=>first|exact en|exact eo|exact c4|exact al|exact c6|exact c7|exact c8|exact c9|exact q1|exact q2|exact p1|exact p3|exact p2|exact gS|exact congrArg not c5)
             rfl
         ·rw [h.call]
          repeat (conv=>lhs;whnf;arg 2;tactic=>first|exact en|exact eo|exact c4|exact c6|exact c7|exact c8|exact c9|exact q1|exact q2|exact gS|exact congrArg not c5)
          rfl
        ·rw [h.call]
         repeat (conv=>lhs;whnf;arg 2;tactic=>first|exact en|exact eo|exact c4|exact c6|exact c7|exact c8|exact c9|exact gS|exact congrArg not c5)
         rfl
       ·rw [h.call]
        repeat (conv=>lhs;whnf;arg 2;tactic=>first|exact en|exact eo|exact c4|exact c6|exact c7|exact c8|exact gS|exact congrArg not c5)
        rfl
      ·rw [h.call]
       repeat (conv=>lhs;whnf;arg 2;tactic=>first|exact en|exact eo|exact c4|exact c6|exact c7|exact gS|exact congrArg not c5)
       rfl
    ·cases both
     ·have c6 : (a1.alone == false) = false := by rw [al]; rfl
      cases c7 : decide (a2.term > term)
      ·cases c8 : a2.alone
       ·cases q1 : a2.term == term
        ·cases d4 : (done.length : Int) != (a1.ops.length : Int)
         ·rw [d4] at hne
          cases d2 : pre done a1.ops
          ·rw [d2] at p2
           rw [h.call]
           repeat (conv=>lhs;whnf;arg 2;tactic=>first|exact en|exact eo|exact c4|exact al|exact c6|exact c7|exact c8|exact q1|exact hne|exact p2|exact gS|exact congrArg not c5)
           rfl
          ·rw [d2] at p2
           rw [h.call]
           repeat (conv=>lhs;whnf;arg 2;tactic=>first|exact en|exact eo|exact c4|exact al|exact c6|exact c7|exact c8|exact q1|exact hne|exact p2|exact gS|exact congrArg not c5)
           rfl
         ·rw [d4] at hne
          rw [h.call]
          repeat (conv=>lhs;whnf;arg 2;tactic=>first|exact en|exact eo|exact c4|exact al|exact c6|exact c7|exact c8|exact q1|exact hne|exact gS|exact congrArg not c5)
          rfl
        ·cases q2 : a2.leads
         ·cases q3 : pre a2.ops a1.ops
          ·rw [q3] at p1
           rw [h.call]
           repeat (conv=>lhs;whnf;arg 2;tactic=>first|exact en|exact eo|exact c4|exact c6|exact c7|exact c8|exact q1|exact q2|exact p1|exact gS|exact congrArg not c5)
           rfl
          ·rw [q3] at p1
           cases d4 : (done.length : Int) != (a1.ops.length : Int)
           ·rw [d4] at hne
            cases d2 : pre done a1.ops
            ·rw [d2] at p2
             rw [h.call]
             repeat (conv=>lhs;whnf;arg 2;tactic=>first|exact en|exact eo|exact c4|exact al|exact c6|exact c7|exact c8|exact q1|exact q2|exact p1|exact hne|exact p2|exact gS|exact congrArg not c5)
             rfl
            ·rw [d2] at p2
             rw [h.call]
             repeat (conv=>lhs;whnf;arg 2;tactic=>first|exact en|exact eo|exact c4|exact al|exact c6|exact c7|exact c8|exact q1|exact q2|exact p1|exact hne|exact p2|exact gS|exact congrArg not c5)
             rfl
           ·rw [d4] at hne
            rw [h.call]
            repeat (conv=>lhs;whnf;arg 2;tactic=>first|exact en|exact eo|exact c4|exact al|exact c6|exact c7|exact c8|exact q1|exact q2|exact p1|exact hne|exact gS|exact congrArg not c5)
            rfl
         ·rw [h.call]
          repeat (conv=>lhs;whnf;arg 2;tactic=>first|exact en|exact eo|exact c4|exact c6|exact c7|exact c8|exact q1|exact q2|exact gS|exact congrArg not c5)
          rfl
       ·rw [h.call]
        repeat (conv=>lhs;whnf;arg 2;tactic=>first|exact en|exact eo|exact c4|exact c6|exact c7|exact c8|exact gS|exact congrArg not c5)
        rfl
      ·rw [h.call]
       repeat (conv=>lhs;whnf;arg 2;tactic=>first|exact en|exact eo|exact c4|exact c6|exact c7|exact gS|exact congrArg not c5)
       rfl
     ·have c6 : (a1.alone == true) = true := by rw [al]; rfl
      rw [h.call]
      repeat (conv=>lhs;whnf;arg 2;tactic=>first|exact en|exact eo|exact c4|exact c6|exact gS|exact congrArg not c5)
      rfl
  ·rw [h.call]
   repeat (conv=>lhs;whnf;arg 2;tactic=>first|exact en|exact eo|exact c4|exact gS)
   rfl
 ·rw [show WorldM.nd ⟨a1, a2, term, 2, both, nets, done⟩ 2 = a2 from rfl, show WorldM.nd ⟨a1, a2, term, 2, both, nets, done⟩ (3 - 2) = a1 from rfl]
  have hlo : ((a2.ops.map opD).length : Nat) = a2.ops.length := List.length_map ..
  have hne : (((done.map opD).length : Int) != ((a2.ops.map opD).length : Int)) = ((done.length : Int) != (a2.ops.length : Int)) := by rw [hld, hlo]
  have en := ev_node h ⟨a1, a2, term, 2, both, nets, done⟩ 2 (by decide)
  have eo := ev_node h ⟨a1, a2, term, 2, both, nets, done⟩ (IntKind.i64.wrap (3 - 2)) (by decide)
  have p1 := ev_isPrefix h a1.ops a2.ops (by omega)
  have p2 := ev_isPrefix h done a2.ops (by omega)
  have p3 := ev_isPrefix h done a1.ops (by omega)
  unfold rightI
  cases c4 : a2.term != term
  ·cases c5 : a2.leads
   ·rw [h.call]
    repeat (conv=>lhs;whnf;arg 2;tactic=>first|exact en|exact eo|exact c4|exact gS|exact congrArg not c5)
    rfl
   ·cases al : a2.alone
    ·cases both
     ·have c6 : (a2.alone == false) = true := by rw [al]; rfl
      rw [h.call]
      repeat (conv=>lhs;whnf;arg 2;tactic=>first|exact en|exact eo|exact c4|exact c6|exact gS|exact congrArg not c5)
      rfl
     ·have c6 : (a2.alone == true) = false := by rw [al]; rfl
      cases c7 : decide (a1.term > term)
      ·cases c8 : a1.alone
       ·cases c9 : a1.term != term
        ·have q1 : (a1.term == term) = true := by simpa using c9
         rw [q1]
         cases q2 : a1.leads
         ·cases q3 : pre a1.ops a2.ops
          ·rw [q3] at p1
           rw [h.call]
           repeat (conv=>lhs;whnf;arg 2;tactic=>first|exact en|exact eo|exact c4|exact c6|exact c7|exact c8|exact c9|exact q1|exact q2|exact p1|exact gS|exact congrArg not c5)
           rfl
          ·rw [q3] at p1
           cases d3 : pre done a1.ops
           ·rw [d3] at p3
            rw [h.call]
            repeat (conv=>lhs;whnf;arg 2;tactic=>first|exact en|exact eo|exact c4|exact al|exact c6|exact c7|exact c8|exact c9|exact q1|exact q2|exact p1|exact p3|exact gS|exact congrArg not c5)
            rfl
           ·rw [d3] at p3
            cases d2 : pre done a2.ops
            ·rw [d2] at p2
             rw [h.call]
             repeat (conv=>lhs;whnf;arg 2;tactic=>first|exact en|exact eo|exact c4|exact al|exact c6|exact c7|exact c8|exact c9|exact q1|exact q2|exact p1|exact p3|exact p2|exact gS|exact congrArg not c5)
             rfl
            ·rw [d2] at p2
             rw [h.call]
             repeat (conv=>lhs;whnf;arg 2;tactic=>first|exact en|exact eo|exact c4|exact al|exact c6|exact c7|exact c8|exact c9|exact q1|exact q2|exact p1|exact p3|exact p2|exact gS|exact congrArg not c5)
             rfl
         ·rw [h.call]
          repeat (conv=>lhs;whnf;arg 2;tactic=>first|exact en|exact eo|exact c4|exact c6|exact c7|exact c8|exact c9|exact q1|exact q2|exact gS|exact congrArg not c5)
          rfl
        ·rw [h.call]
         repeat (conv=>lhs;whnf;arg 2;tactic=>first|exact en|exact eo|exact c4|exact c6|exact c7|exact c8|exact c9|exact gS|exact congrArg not c5)
         rfl
       ·rw [h.call]
        repeat (conv=>lhs;whnf;arg 2;tactic=>first|exact en|exact eo|exact c4|exact c6|exact c7|exact c8|exact gS|exact congrArg not c5)
        rfl
      ·rw [h.call]
       repeat (conv=>lhs;whnf;arg 2;tactic=>first|exact en|exact eo|exact c4|exact c6|exact c7|exact gS|exact congrArg not c5)
       rfl
    ·cases both
     ·have c6 : (a2.alone == false) = false := by rw [al]; rfl
      cases c7 : decide (a1.term > term)
      ·cases c8 : a1.alone
       ·cases q1 : a1.term == term
        ·cases d4 : (done.length : Int) != (a2.ops.length : Int)
         ·rw [d4] at hne
          cases d2 : pre done a2.ops
          ·rw [d2] at p2
           rw [h.call]
           repeat (conv=>lhs;whnf;arg 2;tactic=>first|exact en|exact eo|exact c4|exact al|exact c6|exact c7|exact c8|exact q1|exact hne|exact p2|exact gS|exact congrArg not c5)
           rfl
          ·rw [d2] at p2
           rw [h.call]
           repeat (conv=>lhs;whnf;arg 2;tactic=>first|exact en|exact eo|exact c4|exact al|exact c6|exact c7|exact c8|exact q1|exact hne|exact p2|exact gS|exact congrArg not c5)
           rfl
         ·rw [d4] at hne
          rw [h.call]
          repeat (conv=>lhs;whnf;arg 2;tactic=>first|exact en|exact eo|exact c4|exact al|exact c6|exact c7|exact c8|exact q1|exact hne|exact gS|exact congrArg not c5)
          rfl
        ·cases q2 : a1.leads
         ·cases q3 : pre a1.ops a2.ops
          ·rw [q3] at p1
           rw [h.call]
           repeat (conv=>lhs;whnf;arg 2;tactic=>first|exact en|exact eo|exact c4|exact c6|exact c7|exact c8|exact q1|exact q2|exact p1|exact gS|exact congrArg not c5)
           rfl
          ·rw [q3] at p1
           cases d4 : (done.length : Int) != (a2.ops.length : Int)
           ·rw [d4] at hne
            cases d2 : pre done a2.ops
            ·rw [d2] at p2
             rw [h.call]
             repeat (conv=>lhs;whnf;arg 2;tactic=>first|exact en|exact eo|exact c4|exact al|exact c6|exact c7|exact c8|exact q1|exact q2|exact p1|exact hne|exact p2|exact gS|exact congrArg not c5)
             rfl
            ·rw [d2] at p2
             rw [h.call]
             repeat (conv=>lhs;whnf;arg 2;tactic=>first|exact en|exact eo|exact c4|exact al|exact c6|exact c7|exact c8|exact q1|exact q2|exact p1|exact hne|exact p2|exact gS|exact congrArg not c5)
             rfl
           ·rw [d4] at hne
            rw [h.call]
            repeat (conv=>lhs;whnf;arg 2;tactic=>first|exact en|exact eo|exact c4|exact al|exact c6|exact c7|exact c8|exact q1|exact q2|exact p1|exact hne|exact gS|exact congrArg not c5)
            rfl
         ·rw [h.call]
          repeat (conv=>lhs;whnf;arg 2;tactic=>first|exact en|exact eo|exact c4|exact c6|exact c7|exact c8|exact q1|exact q2|exact gS|exact congrArg not c5)
          rfl
       ·rw [h.call]
        repeat (conv=>lhs;whnf;arg 2;tactic=>first|exact en|exact eo|exact c4|exact c6|exact c7|exact c8|exact gS|exact congrArg not c5)
        rfl
      ·rw [h.call]
       repeat (conv=>lhs;whnf;arg 2;tactic=>first|exact en|exact eo|exact c4|exact c6|exact c7|exact gS|exact congrArg not c5)
       rfl
     ·have c6 : (a2.alone == true) = true := by rw [al]; rfl
      rw [h.call]
      repeat (conv=>lhs;whnf;arg 2;tactic=>first|exact en|exact eo|exact c4|exact c6|exact gS|exact congrArg not c5)
      rfl
  ·rw [h.call]
   repeat (conv=>lhs;whnf;arg 2;tactic=>first|exact en|exact eo|exact c4|exact gS)
   rfl
end
end Go.Gn

