/- Part 34 of a proof: an evaluator of the program, proved sound, and what it answers. -/
import Derived.Test.YtiicdghimmpjnaaGreatA33
set_option linter.all false
namespace Go.Gn
open Go
set_option linter.unusedVariables false
set_option linter.unusedSimpArgs false
set_option maxRecDepth 100000
set_option maxHeartbeats 16000000
def rightM (n o : NodeM) (term : Int) (both : Bool) (done : List OpM) : Bool :=
 !(n.term != term) && (n.leads && (!(n.alone == both) && (!(decide (o.term > term)) && (!o.alone && (!(both && (o.term != term)) && (!((o.term == term) && (o.leads || !pre o.ops n.ops)) && (pre done n.ops && (!(both && !pre done o.ops) && !(n.alone && ((done.length : Int) != (n.ops.length : Int)))))))))))
def letterM (w : WorldM) (m : MsgM) : Bool := msgOk m && trueM (w.nd w.lead) (w.nd (3 - w.lead)) w.term w.lead w.done m
def worldOkM (w : WorldM) : Bool := !(decide ((w.nets.length : Int) > 12)) && (nodeOk w.n1 && (nodeOk w.n2 && (rightM (w.nd w.lead) (w.nd (3 - w.lead)) w.term w.both w.done && w.nets.all (letterM w))))
def wCs (w : WorldM) : List AV := [.sl .br [nodeD w.n1, nodeD w.n2], .int .i64 w.term, .int .i64 w.lead, .bool w.both, .sl .br (w.nets.map msgD), .sl .br (w.done.map opD)]
structure WL (w : WorldM) : Prop where
 lead : w.lead = 1 ∨ w.lead = 2
 o1 : OpsSz w.n1.ops
 o2 : OpsSz w.n2.ops
 nl : w.nets.length < 2000000
 nets : ∀ m ∈ w.nets, MsgSz m
 done : OpsSz w.done
section
variable {W : CallF} {L : LoopF} {E : EqF} {T : Prop → Bool} (h : IsK G W L E T)
include h
theorem wok_loop (w : WorldM) (hw : WL w) : ∀ (m i : Nat), i + m = w.nets.length → L (norm 0 cf49.live) (exitN 0 cf49.out (evCW W L G cf49 0 c49l0)) ⟨[(1, .ptr 0 0), (5, .int .i64 (i : Nat))], [.box (wCs w)]⟩ =
  some (if (w.nets.drop i).all (letterM w) then (.ext 0, ⟨[(2, .top)], []⟩) else (.ret, ⟨[(2, .bool false)], []⟩))
 | 0, i, hm => by
  rw [List.drop_eq_nil_of_le (show w.nets.length ≤ i by omega), h.loop]
  repeat (conv=>lhs;whnf;arg 2;tactic=>first|exact g1|exact g2)
  rfl
 | m + 1, i, hm => by
  have hnl := hw.nl
  obtain ⟨x, hx⟩ := get_some (xs := w.nets) (i := i) (by omega)
  have hxs := hw.nets x (List.mem_of_getElem? hx)
  have e1 := ev_l21Msg h x hxs
  rw [drop_cons hx, List.all_cons]
  unfold letterM
  cases c1 : msgOk x
  ·rw [c1] at e1
   rw [h.loop]
   repeat (conv=>lhs;whnf;arg 2;tactic=>first|exact g1|exact map_get hx|exact e1|exact gS|exact g2)
   rfl
  ·rw [c1] at e1
   have hxg := MsgG.of c1 hxs
   have e2 := ev_l22True h w hw.lead (by have := hw.o1.1; omega) (by have := hw.o2.1; omega) x (by have := hxs.ops.1; omega) hxg.n hxg.copy
   cases c2 : trueM (w.nd w.lead) (w.nd (3 - w.lead)) w.term w.lead w.done x
   ·rw [c2] at e2
    rw [h.loop]
    repeat (conv=>lhs;whnf;arg 2;tactic=>first|exact g1|exact map_get hx|exact e1|exact e2|exact gS|exact g2)
    rfl
   ·rw [c2] at e2
    simp only [Bool.true_and]
    have ih := wok_loop w hw m (i + 1) (by omega)
    unfold letterM at ih
    rw [← ih, h.loop]
    repeat (conv=>lhs;whnf;arg 2;tactic=>first|exact g1|exact map_get hx|exact e1|exact e2|exact gS|exact g2)
    conv => lhs; whnf
    rw [wrap_succ (by omega)]
    rfl
theorem ev_sWorldOk (w : WorldM) (hw : WL w) : W f_spec_WorldOk [worldA w] [] = some (.bool (worldOkM w), []) := by
 have e0 := wok_loop h w hw w.nets.length 0 (by omega)
 rw [nc0, List.drop_zero] at e0
 have hin := ev_l6In h w.lead 1 2
 have en1 := ev_sNodeOk h w.n1 hw.o1
 have en2 := ev_sNodeOk h w.n2 hw.o2
 have hlead := hw.lead
 have lo1 := hw.o1.1
 have lo2 := hw.o2.1
 have ld := hw.done.1
 unfold worldOkM
 generalize w.nets.all (letterM w) = ok at e0 ⊢
 obtain ⟨a1, a2, term, lead, both, nets, done⟩ := w
 simp only at *
 have hln : ((nets.map msgD).length : Nat) = nets.length := List.length_map ..
 have hgt : decide (((nets.map msgD).length : Int) > 12) = decide ((nets.length : Int) > 12) := by rw [hln]
 have hld : ((done.map opD).length : Nat) = done.length := List.length_map ..
 rcases hlead with rfl | rfl
 ·rw [show WorldM.nd ⟨a1, a2, term, 1, both, nets, done⟩ 1 = a1 from rfl, show WorldM.nd ⟨a1, a2, term, 1, both, nets, done⟩ (3 - 1) = a2 from rfl]
  have hlo : ((a1.ops.map opD).length : Nat) = a1.ops.length := List.length_map ..
  have hne : (((done.map opD).length : Int) != ((a1.ops.map opD).length : Int)) = ((done.length : Int) != (a1.ops.length : Int)) := by rw [hld, hlo]
  have p1 := ev_l22Begins h a2.ops a1.ops (by omega)
  have p2 := ev_l22Begins h done a1.ops (by omega)
  have p3 := ev_l22Begins h done a2.ops (by omega)
  unfold rightM
  cases c1 : decide ((nets.length : Int) > 12)
  ·rw [c1] at hgt
   cases c2 : nodeOk a1
   ·rw [c2] at en1
    rw [h.call]
    repeat (conv=>lhs;whnf;arg 2;tactic=>first|exact g1|exact hin|exact hgt|exact en1|exact gS|exact congrArg not hin|exact congrArg not hgt|exact g2)
    rfl
   ·rw [c2] at en1
    cases c3 : nodeOk a2
    ·rw [c3] at en2
     rw [h.call]
     repeat (conv=>lhs;whnf;arg 2;tactic=>first|exact g1|exact hin|exact hgt|exact en1|exact en2|exact gS|exact congrArg not hin|exact congrArg not hgt|exact g2)
     rfl
    ·rw [c3] at en2
     cases c4 : a1.term != term
     ·cases c5 : a1.leads
      ·rw [h.call]
       repeat (conv=>lhs;whnf;arg 2;tactic=>first|exact g1|exact hin|exact hgt|exact en1|exact en2|exact c4|exact c5|exact gS|exact congrArg not hin|exact congrArg not hgt|exact congrArg not c4|exact congrArg not c5|exact g2)
       rfl
      ·cases al : a1.alone
       ·cases both
        ·have c6 : (a1.alone == false) = true := by rw [al]; rfl
         rw [h.call]
         repeat (conv=>lhs;whnf;arg 2;tactic=>first|exact g1|exact hin|exact hgt|exact en1|exact en2|exact c4|exact c5|exact al|exact c6|exact gS|exact congrArg not hin|exact congrArg not hgt|exact congrArg not c4|exact congrArg not c5|exact congrArg not al|exact congrArg not c6|exact g2)
         rfl
        ·have c6 : (a1.alone == true) = false := by rw [al]; rfl
         cases c7 : decide (a2.term > term)
         ·cases c8 : a2.alone
          ·cases c9 : a2.term != term
           ·have q1 : (a2.term == term) = true := by simpa using c9
            rw [q1]
            cases q2 : a2.leads
            ·cases q3 : pre a2.ops a1.ops
             ·rw [q3] at p1
              rw [h.call]
              repeat (conv=>lhs;whnf;arg 2;tactic=>first|exact g1|exact hin|exact hgt|exact en1|exact en2|exact c4|exact c5|exact al|exact c6|exact c7|exact c8|exact c9|exact q1|exact q2|exact p1|exact gS|exact congrArg not hin|exact congrArg not hgt|exact congrArg not c4|exact congrArg not c5|exact congrArg not al|exact congrArg not c6|exact congrArg not c7|exact congrArg not c8|exact congrArg not c9|exact congrArg not q1|exact congrArg not q2|exact g2)
              rfl
             ·rw [q3] at p1
              cases d2 : pre done a1.ops
              ·rw [d2] at p2
               rw [h.call]
               repeat (conv=>lhs;whnf;arg 2;tactic=>first|exact g1|exact hin|exact hgt|exact en1|exact en2|exact c4|exact c5|exact al|exact c6|exact c7|exact c8|exact c9|exact q1|exact q2|exact p1|exact p2|exact gS|exact congrArg not hin|exact congrArg not hgt|exact congrArg not c4|exact congrArg not c5|exact congrArg not al|exact congrArg not c6|exact congrArg not c7|exact congrArg not c8|exact congrArg not c9|exact congrArg not q1|exact congrArg not q2|exact g2)
               rfl
              ·rw [d2] at p2
               cases d3 : pre done a2.ops
               ·rw [d3] at p3
                rw [h.call]
                repeat (conv=>lhs;whnf;arg 2;tactic=>first|exact g1|exact hin|exact hgt|exact en1|exact en2|exact c4|exact c5|exact al|exact c6|exact c7|exact c8|exact c9|exact q1|exact q2|exact p1|exact p2|exact p3|exact gS|exact congrArg not hin|exact congrArg not hgt|exact congrArg not c4|exact congrArg not c5|exact congrArg not al|exact congrArg not c6|exact congrArg not c7|exact congrArg not c8|exact congrArg not c9|exact congrArg not q1|exact congrArg not q2|exact g2)
                rfl
               ·rw [d3] at p3
                cases ok
                ·rw [h.call]
                 repeat (conv=>lhs;whnf;arg 2;tactic=>first|exact g1|exact hin|exact hgt|exact en1|exact en2|exact c4|exact c5|exact al|exact c6|exact c7|exact c8|exact c9|exact q1|exact q2|exact p1|exact p2|exact p3|exact e0|exact gS|exact congrArg not hin|exact congrArg not hgt|exact congrArg not c4|exact congrArg not c5|exact congrArg not al|exact congrArg not c6|exact congrArg not c7|exact congrArg not c8|exact congrArg not c9|exact congrArg not q1|exact congrArg not q2|exact g2)
                 rfl
                ·rw [h.call]
                 repeat (conv=>lhs;whnf;arg 2;tactic=>first|exact g1|exact hin|exact hgt|exact en1|exact en2|exact c4|exact c5|exact al|exact c6|exact c7|exact c8|exact c9|exact q1|exact q2|exact p1|exact p2|exact p3|exact e0|exact gS|exact congrArg not hin|exact congrArg not hgt|exact congrArg not c4|exact congrArg not c5|exact congrArg not al|exact congrArg not c6|exact congrArg not c7|exact congrArg not c8|exact congrArg not c9|exact congrArg not q1|exact congrArg not q2|exact g2)
                 rfl
            ·rw [h.call]
             repeat (conv=>lhs;whnf;arg 2;tactic=>first|exact g1|exact hin|exact hgt|exact en1|exact en2|exact c4|exact c5|exact al|exact c6|exact c7|exact c8|exact c9|exact q1|exact q2|exact gS|exact congrArg not hin|exact congrArg not hgt|exact congrArg not c4|exact congrArg not c5|exact congrArg not al|exact congrArg not c6|exact congrArg not c7|exact congrArg not c8|exact congrArg not c9|exact congrArg not q1|exact congrArg not q2|exact g2)
             rfl
           ·rw [h.call]
            repeat (conv=>lhs;whnf;arg 2;tactic=>first|exact g1|exact hin|exact hgt|exact en1|exact en2|exact c4|exact c5|exact al|exact c6|exact c7|exact c8|exact c9|exact gS|exact congrArg not hin|exact congrArg not hgt|exact congrArg not c4|exact congrArg not c5|exact congrArg not al|exact congrArg not c6|exact congrArg not c7|exact congrArg not c8|exact congrArg not c9|exact g2)
            rfl
          ·rw [h.call]
           repeat (conv=>lhs;whnf;arg 2;tactic=>first|exact g1|exact hin|exact hgt|exact en1|exact en2|exact c4|exact c5|exact al|exact c6|exact c7|exact c8|exact gS|exact congrArg not hin|exact congrArg not hgt|exact congrArg not c4|exact congrArg not c5|exact congrArg not al|exact congrArg not c6|exact congrArg not c7|exact congrArg not c8|exact g2)
           rfl
         ·rw [h.call]
          repeat (conv=>lhs;whnf;arg 2;tactic=>first|exact g1|exact hin|exact hgt|exact en1|exact en2|exact c4|exact c5|exact al|exact c6|exact c7|exact gS|exact congrArg not hin|exact congrArg not hgt|exact congrArg not c4|exact congrArg not c5|exact congrArg not al|exact congrArg not c6|exact congrArg not c7|exact g2)
          rfl
       ·cases both
        ·have c6 : (a1.alone == false) = false := by rw [al]; rfl
         cases c7 : decide (a2.term > term)
         ·cases c8 : a2.alone
          ·cases q1 : a2.term == term
           ·cases d2 : pre done a1.ops
            ·rw [d2] at p2
             rw [h.call]
             repeat (conv=>lhs;whnf;arg 2;tactic=>first|exact g1|exact hin|exact hgt|exact en1|exact en2|exact c4|exact c5|exact al|exact c6|exact c7|exact c8|exact q1|exact p2|exact gS|exact congrArg not hin|exact congrArg not hgt|exact congrArg not c4|exact congrArg not c5|exact congrArg not al|exact congrArg not c6|exact congrArg not c7|exact congrArg not c8|exact congrArg not q1|exact g2)
             rfl
            ·rw [d2] at p2
             cases d4 : (done.length : Int) != (a1.ops.length : Int)
             ·rw [d4] at hne
              cases ok
              ·rw [h.call]
               repeat (conv=>lhs;whnf;arg 2;tactic=>first|exact g1|exact hin|exact hgt|exact en1|exact en2|exact c4|exact c5|exact al|exact c6|exact c7|exact c8|exact q1|exact p2|exact hne|exact e0|exact gS|exact congrArg not hin|exact congrArg not hgt|exact congrArg not c4|exact congrArg not c5|exact congrArg not al|exact congrArg not c6|exact congrArg not c7|exact congrArg not c8|exact congrArg not q1|exact congrArg not hne|exact g2)
               rfl
              ·rw [h.call]
               repeat (conv=>lhs;whnf;arg 2;tactic=>first|exact g1|exact hin|exact hgt|exact en1|exact en2|exact c4|exact c5|exact al|exact c6|exact c7|exact c8|exact q1|exact p2|exact hne|exact e0|exact gS|exact congrArg not hin|exact congrArg not hgt|exact congrArg not c4|exact congrArg not c5|exact congrArg not al|exact congrArg not c6|exact congrArg not c7|exact congrArg not c8|exact congrArg not q1|exact congrArg not hne|exact g2)
               rfl
             ·rw [d4] at hne
              rw [h.call]
              repeat (conv=>lhs;whnf;arg 2;tactic=>first|exact g1|exact hin|exact hgt|exact en1|exact en2|exact c4|exact c5|exact al|exact c6|exact c7|exact c8|exact q1|exact p2|exact hne|exact gS|exact congrArg not hin|exact congrArg not hgt|exact congrArg not c4|exact congrArg not c5|exact congrArg not al|exact congrArg not c6|exact congrArg not c7|exact congrArg not c8|exact congrArg not q1|exact congrArg not hne|exact g2)
              rfl
           ·cases q2 : a2.leads
            ·cases q3 : pre a2.ops a1.ops
             ·rw [q3] at p1
              rw [h.call]
              repeat (conv=>lhs;whnf;arg 2;tactic=>first|exact g1|exact hin|exact hgt|exact en1|exact en2|exact c4|exact c5|exact al|exact c6|exact c7|exact c8|exact q1|exact q2|exact p1|exact gS|exact congrArg not hin|exact congrArg not hgt|exact congrArg not c4|exact congrArg not c5|exact congrArg not al|exact congrArg not c6|exact congrArg not c7|exact congrArg not c8|exact congrArg not q1|exact congrArg not q2|exact g2)
              rfl
             ·rw [q3] at p1
              cases d2 : pre done a1.ops
              ·rw [d2] at p2
               rw [h.call]
               repeat (conv=>lhs;whnf;arg 2;tactic=>first|exact g1|exact hin|exact hgt|exact en1|exact en2|exact c4|exact c5|exact al|exact c6|exact c7|exact c8|exact q1|exact q2|exact p1|exact p2|exact gS|exact congrArg not hin|exact congrArg not hgt|exact congrArg not c4|exact congrArg not c5|exact congrArg not al|exact congrArg not c6|exact congrArg not c7|exact congrArg not c8|exact congrArg not q1|exact congrArg not q2|exact g2)
               rfl
              ·rw [d2] at p2
               cases d4 : (done.length : Int) != (a1.ops.length : Int)
               ·rw [d4] at hne
                cases ok
                ·rw [h.call]
                 repeat (conv=>lhs;whnf;arg 2;tactic=>first|exact g1|exact hin|exact hgt|exact en1|exact en2|exact c4|exact c5|exact al|exact c6|exact c7|exact c8|exact q1|exact q2|exact p1|exact p2|exact hne|exact e0|exact gS|exact congrArg not hin|exact congrArg not hgt|exact congrArg not c4|exact congrArg not c5|exact congrArg not al|exact congrArg not c6|exact congrArg not c7|exact congrArg not c8|exact congrArg not q1|exact congrArg not q2|exact congrArg not hne|exact g2)
                 rfl
                ·rw [h.call]
                 repeat (conv=>lhs;whnf;arg 2;tactic=>first|exact g1|exact hin|exact hgt|exact en1|exact en2|exact c4|exact c5|exact al|exact c6|exact c7|exact c8|exact q1|exact q2|exact p1|exact p2|exact hne|exact e0|exact gS|exact congrArg not hin|exact congrArg not hgt|exact congrArg not c4|exact congrArg not c5|exact congrArg not al|exact congrArg not c6|exact congrArg not c7|exact congrArg not c8|exact congrArg not q1|exact congrArg not q2|exact congrArg not hne|exact g2)
                 rfl
               ·rw [d4] at hne
                rw [h.call]
                repeat (conv=>lhs;whnf;arg 2;tactic=>first|exact g1|exact hin|exact hgt|exact en1|exact en2|exact c4|exact c5|exact al|exact c6|exact c7|exact c8|exact q1|exact q2|exact p1|exact p2|exact hne|exact gS|exact congrArg not hin|exact congrArg not hgt|exact congrArg not c4|exact congrArg not c5|exact congrArg not al|exact congrArg not c6|exact congrArg not c7|exact congrArg not c8|exact congrArg not q1|exact congrArg not q2|exact congrArg not hne|exact g2)
                rfl
            ·rw [h.call]
             repeat (conv=>lhs;whnf;arg 2;tactic=>first|exact g1|exact hin|exact hgt|exact en1|exact en2|exact c4|exact c5|exact al|exact c6|exact c7|exact c8|exact q1|exact q2|exact gS|exact congrArg not hin|exact congrArg not hgt|exact congrArg not c4|exact congrArg not c5|exact congrArg not al|exact congrArg not c6|exact congrArg not c7|exact congrArg not c8|exact congrArg not q1|exact congrArg not q2|exact g2)
             rfl
          ·rw [h.call]
           repeat (conv=>lhs;whnf;arg 2;tactic=>first|exact g1|exact hin|exact hgt|exact en1|exact en2|exact c4|exact c5|exact al|exact c6|exact c7|exact c8|exact gS|exact congrArg not hin|exact congrArg not hgt|exact congrArg not c4|exact congrArg not c5|exact congrArg not al|exact congrArg not c6|exact congrArg not c7|exact congrArg not c8|exact g2)
           rfl
         ·rw [h.call]
          repeat (conv=>lhs;whnf;arg 2;tactic=>first|exact g1|exact hin|exact hgt|exact en1|exact en2|exact c4|exact c5|exact al|exact c6|exact c7|exact gS|exact congrArg not hin|exact congrArg not hgt|exact congrArg not c4|exact congrArg not c5|exact congrArg not al|exact congrArg not c6|exact congrArg not c7|exact g2)
          rfl
        ·have c6 : (a1.alone == true) = true := by rw [al]; rfl
         rw [h.call]
         repeat (conv=>lhs;whnf;arg 2;tactic=>first|exact g1|exact hin|exact hgt|exact en1|exact en2|exact c4|exact c5|exact al|exact c6|exact gS|exact congrArg not hin|exact congrArg not hgt|exact congrArg not c4|exact congrArg not c5|exact congrArg not al|exact congrArg not c6|exact g2)
         rfl
     ·rw [h.call]
      repeat (conv=>lhs;whnf;arg 2;tactic=>first|exact g1|exact hin|exact hgt|exact en1|exact en2|exact c4|exact gS|exact congrArg not hin|exact congrArg not hgt|exact congrArg not c4|exact g2)
      rfl
  ·rw [c1] at hgt
   rw [h.call]
   repeat (conv=>lhs;whnf;arg 2;tactic=>first|exact g1|exact hin|exact hgt|exact gS|exact congrArg not hin|exact congrArg not hgt|exact g2)
   rfl
 ·rw [show WorldM.nd ⟨a1, a2, term, 2, both, nets, done⟩ 2 = a2 from rfl, show WorldM.nd ⟨a1, a2, term, 2, both, nets, done⟩ (3 - 2) = a1 from rfl]
  have hlo : ((a2.ops.map opD).length : Nat) = a2.ops.length := List.length_map ..
  have hne : (((done.map opD).length : Int) != ((a2.ops.map opD).length : Int)) = ((done.length : Int) != (a2.ops.length : Int)) := by rw [hld, hlo]
  have p1 := ev_l22Begins h a1.ops a2.ops (by omega)
  have p2 := ev_l22Begins h done a2.ops (by omega)
  have p3 := ev_l22Begins h done a1.ops (by omega)
  unfold rightM
  cases c1 : decide ((nets.length : Int) > 12)
  ·rw [c1] at hgt
   cases c2 : nodeOk a1
   ·rw [c2] at en1
    rw [h.call]
    repeat (conv=>lhs;whnf;arg 2;tactic=>first|exact g1|exact hin|exact hgt|exact en1|exact gS|exact congrArg not hin|exact congrArg not hgt|exact g2)
    rfl
   ·rw [c2] at en1
    cases c3 : nodeOk a2
    ·rw [c3] at en2
     rw [h.call]
     repeat (conv=>lhs;whnf;arg 2;tactic=>first|exact g1|exact hin|exact hgt|exact en1|exact en2|exact gS|exact congrArg not hin|exact congrArg not hgt|exact g2)
     rfl
    ·rw [c3] at en2
     cases c4 : a2.term != term
     ·cases c5 : a2.leads
      ·rw [h.call]
       repeat (conv=>lhs;whnf;arg 2;tactic=>first|exact g1|exact hin|exact hgt|exact en1|exact en2|exact c4|exact c5|exact gS|exact congrArg not hin|exact congrArg not hgt|exact congrArg not c4|exact congrArg not c5|exact g2)
       rfl
      ·cases al : a2.alone
       ·cases both
        ·have c6 : (a2.alone == false) = true := by rw [al]; rfl
         rw [h.call]
         repeat (conv=>lhs;whnf;arg 2;tactic=>first|exact g1|exact hin|exact hgt|exact en1|exact en2|exact c4|exact c5|exact al|exact c6|exact gS|exact congrArg not hin|exact congrArg not hgt|exact congrArg not c4|exact congrArg not c5|exact congrArg not al|exact congrArg not c6|exact g2)
         rfl
        ·have c6 : (a2.alone == true) = false := by rw [al]; rfl
         cases c7 : decide (a1.term > term)
         ·cases c8 : a1.alone
          ·cases c9 : a1.term != term
           ·have q1 : (a1.term == term) = true := by simpa using c9
            rw [q1]
            cases q2 : a1.leads
            ·cases q3 : pre a1.ops a2.ops
             ·rw [q3] at p1
              rw [h.call]
              repeat (conv=>lhs;whnf;arg 2;tactic=>first|exact g1|exact hin|exact hgt|exact en1|exact en2|exact c4|exact c5|exact al|exact c6|exact c7|exact c8|exact c9|exact q1|exact q2|exact p1|exact gS|exact congrArg not hin|exact congrArg not hgt|exact congrArg not c4|exact congrArg not c5|exact congrArg not al|exact congrArg not c6|exact congrArg not c7|exact congrArg not c8|exact congrArg not c9|exact congrArg not q1|exact congrArg not q2|exact g2)
              rfl
             ·rw [q3] at p1
              cases d2 : pre done a2.ops
              ·rw [d2] at p2
               rw [h.call]
               repeat (conv=>lhs;whnf;arg 2;tactic=>first|exact g1|exact hin|exact hgt|exact en1|exact en2|exact c4|exact c5|exact al|exact c6|exact c7|exact c8|exact c9|exact q1|exact q2|exact p1|exact p2|exact gS|exact congrArg not hin|exact congrArg not hgt|exact congrArg not c4|exact congrArg not c5|exact congrArg not al|exact congrArg not c6|exact congrArg not c7|exact congrArg not c8|exact congrArg not c9|exact congrArg not q1|exact congrArg not q2|exact g2)
               rfl
              ·rw [d2] at p2
               cases d3 : pre done a1.ops
               ·rw [d3] at p3
                rw [h.call]
                repeat (conv=>lhs;whnf;arg 2;tactic=>first|exact g1|exact hin|exact hgt|exact en1|exact en2|exact c4|exact c5|exact al|exact c6|exact c7|exact c8|exact c9|exact q1|exact q2|exact p1|exact p2|exact p3|exact gS|exact congrArg not hin|exact congrArg not hgt|exact congrArg not c4|exact congrArg not c5|exact congrArg not al|exact congrArg not c6|exact congrArg not c7|exact congrArg not c8|exact congrArg not c9|exact congrArg not q1|exact congrArg not q2|exact g2)
                rfl
               ·rw [d3] at p3
                cases ok
                ·rw [h.call]
                 repeat (conv=>lhs;whnf;arg 2;tactic=>first|exact g1|exact hin|exact hgt|exact en1|exact en2|exact c4|exact c5|exact al|exact c6|exact c7|exact c8|exact c9|exact q1|exact q2|exact p1|exact p2|exact p3|exact e0|exact gS|exact congrArg not hin|exact congrArg not hgt|exact congrArg not c4|exact congrArg not c5|exact congrArg not al|exact congrArg not c6|exact congrArg not c7|exact congrArg not c8|exact congrArg not c9|exact congrArg not q1|exact congrArg not q2|exact g2)
                 rfl
                ·rw [h.call]
                 repeat (conv=>lhs;whnf;arg 2;tactic=>first|exact g1|exact hin|exact hgt|exact en1|exact en2|exact c4|exact c5|exact al|exact c6|exact c7|exact c8|exact c9|exact q1|exact q2|exact p1|exact p2|exact p3|exact e0|exact gS|exact congrArg not hin|exact congrArg not hgt|exact congrArg not c4|exact congrArg not c5|exact congrArg not al|exact congrArg not c6|exact congrArg not c7|exact congrArg not c8|exact congrArg not c9|exact congrArg not q1|exact congrArg not q2|exact g2)
                 rfl
            ·rw [h.call]
             repeat (conv=>lhs;whnf;arg 2;tactic=>first|exact g1|exact hin|exact hgt|exact en1|exact en2|exact c4|exact c5|exact al|exact c6|exact c7|exact c8|exact c9|exact q1|exact q2|exact gS|exact congrArg not hin|exact congrArg not hgt|exact congrArg not c4|exact congrArg not c5|exact congrArg not al|exact congrArg not c6|exact congrArg not c7|exact congrArg not c8|exact congrArg not c9|exact congrArg not q1|exact congrArg not q2|exact g2)
             rfl
           ·rw [h.call]
            repeat (conv=>lhs;whnf;arg 2;tactic=>first|exact g1|exact hin|exact hgt|exact en1|exact en2|exact c4|exact c5|exact al|exact c6|exact c7|exact c8|exact c9|exact gS|exact congrArg not hin|exact congrArg not hgt|exact congrArg not c4|exact congrArg not c5|exact congrArg not al|exact congrArg not c6|exact congrArg not c7|exact congrArg not c8|exact congrArg not c9|exact g2)
            rfl
          ·rw [h.call]
           repeat (conv=>lhs;whnf;arg 2;tactic=>first|exact g1|exact hin|exact hgt|exact en1|exact en2|exact c4|exact c5|exact al|exact c6|exact c7|exact c8|exact gS|exact congrArg not hin|exact congrArg not hgt|exact congrArg not c4|exact congrArg not c5|exact congrArg not al|exact congrArg not c6|exact congrArg not c7|exact congrArg not c8|exact g2)
           rfl
         ·rw [h.call]
          repeat (conv=>lhs;whnf;arg 2;tactic=>first|exact g1|exact hin|exact hgt|exact en1|exact en2|exact c4|exact c5|exact al|exact c6|exact c7|exact gS|exact congrArg not hin|exact congrArg not hgt|exact congrArg not c4|exact congrArg not c5|exact congrArg not al|exact congrArg not c6|exact congrArg not c7|exact g2)
          rfl
       ·cases both
        ·have c6 : (a2.alone == false) = false := by rw [al]; rfl
         cases c7 : decide (a1.term > term)
         ·cases c8 : a1.alone
          ·cases q1 : a1.term == term
           ·cases d2 : pre done a2.ops
            ·rw [d2] at p2
             rw [h.call]
             repeat (conv=>lhs;whnf;arg 2;tactic=>first|exact g1|exact hin|exact hgt|exact en1|exact en2|exact c4|exact c5|exact al|exact c6|exact c7|exact c8|exact q1|exact p2|exact gS|exact congrArg not hin|exact congrArg not hgt|exact congrArg not c4|exact congrArg not c5|exact congrArg not al|exact congrArg not c6|exact congrArg not c7|exact congrArg not c8|exact congrArg not q1|exact g2)
             rfl
            ·rw [d2] at p2
             cases d4 : (done.length : Int) != (a2.ops.length : Int)
             ·rw [d4] at hne
              cases ok
              ·rw [h.call]
               repeat (conv=>lhs;whnf;arg 2;tactic=>first|exact g1|exact hin|exact hgt|exact en1|exact en2|exact c4|exact c5|exact al|exact c6|exact c7|exact c8|exact q1|exact p2|exact hne|exact e0|exact gS|exact congrArg not hin|exact congrArg not hgt|exact congrArg not c4|exact congrArg not c5|exact congrArg not al|exact congrArg not c6|exact congrArg not c7|exact congrArg not c8|exact congrArg not q1|exact congrArg not hne|exact g2)
               rfl
              ·rw [h.call]
               repeat (conv=>lhs;whnf;arg 2;tactic=>first|exact g1|exact hin|exact hgt|exact en1|exact en2|exact c4|exact c5|exact al|exact c6|exact c7|exact c8|exact q1|exact p2|exact hne|exact e0|exact gS|exact congrArg not hin|exact congrArg not hgt|exact congrArg not c4|exact congrArg not c5|exact congrArg not al|exact congrArg not c6|exact congrArg not c7|exact congrArg not c8|exact congrArg not q1|exact congrArg not hne|exact g2)
               rfl
             ·rw [d4] at hne
              rw [h.call]
              repeat (conv=>lhs;whnf;arg 2;tactic=>first|exact g1|exact hin|exact hgt|exact en1|exact en2|exact c4|exact c5|exact al|exact c6|exact c7|exact c8|exact q1|exact p2|exact hne|exact gS|exact congrArg not hin|exact congrArg not hgt|exact congrArg not c4|exact congrArg not c5|exact congrArg not al|exact congrArg not c6|exact congrArg not c7|exact congrArg not c8|exact congrArg not q1|exact congrArg not hne|exact g2)
              rfl
           ·cases q2 : a1.leads
            ·cases q3 : pre a1.ops a2.ops
             ·rw [q3] at p1
              rw [h.call]
              repeat (conv=>lhs;whnf;arg 2;tactic=>first|exact g1|exact hin|exact hgt|exact en1|exact en2|exact c4|exact c5|exact al|exact c6|exact c7|exact c8|exact q1|exact q2|exact p1|exact gS|exact congrArg not hin|exact congrArg not hgt|exact congrArg not c4|exact congrArg not c5|exact congrArg not al|exact congrArg not c6|exact congrArg not c7|exact congrArg not c8|exact congrArg not q1|exact congrArg not q2|exact g2)
              rfl
             ·rw [q3] at p1
              cases d2 : pre done a2.ops
              ·rw [d2] at p2
               rw [h.call]
               repeat (conv=>lhs;whnf;arg 2;tactic=>first|exact g1|exact hin|exact hgt|exact en1|exact en2|exact c4|exact c5|exact al|exact c6|exact c7|exact c8|exact q1|exact q2|exact p1|exact p2|exact gS|exact congrArg not hin|exact congrArg not hgt|exact congrArg not c4|exact congrArg not c5|exact congrArg not al|exact congrArg not c6|exact congrArg not c7|exact congrArg not c8|exact congrArg not q1|exact congrArg not q2|exact g2)
               rfl
              ·rw [d2] at p2
               cases d4 : (done.length : Int) != (a2.ops.length : Int)
               ·rw [d4] at hne
                cases ok
                ·rw [h.call]
                 repeat (conv=>lhs;whnf;arg 2;tactic=>first|exact g1|exact hin|exact hgt|exact en1|exact en2|exact c4|exact c5|exact al|exact c6|exact c7|exact c8|exact q1|exact q2|exact p1|exact p2|exact hne|exact e0|exact gS|exact congrArg not hin|exact congrArg not hgt|exact congrArg not c4|exact congrArg not c5|exact congrArg not al|exact congrArg not c6|exact congrArg not c7|exact congrArg not c8|exact congrArg not q1|exact congrArg not q2|exact congrArg not hne|exact g2)
                 rfl
                ·rw [h.call]
                 repeat (conv=>lhs;whnf;arg 2;tactic=>first|exact g1|exact hin|exact hgt|exact en1|exact en2|exact c4|exact c5|exact al|exact c6|exact c7|exact c8|exact q1|exact q2|exact p1|exact p2|exact hne|exact e0|exact gS|exact congrArg not hin|exact congrArg not hgt|exact congrArg not c4|exact congrArg not c5|exact congrArg not al|exact congrArg not c6|exact congrArg not c7|exact congrArg not c8|exact congrArg not q1|exact congrArg not q2|exact congrArg not hne|exact g2)
                 rfl
               ·rw [d4] at hne
                rw [h.call]
                repeat (conv=>lhs;whnf;arg 2;tactic=>first|exact g1|exact hin|exact hgt|exact en1|exact en2|exact c4|exact c5|exact al|exact c6|exact c7|exact c8|exact q1|exact q2|exact p1|exact p2|exact hne|exact gS|exact congrArg not hin|exact congrArg not hgt|exact congrArg not c4|exact congrArg not c5|exact congrArg not al|exact congrArg not c6|exact congrArg not c7|exact congrArg not c8|exact congrArg not q1|exact congrArg not q2|exact congrArg not hne|exact g2)
                rfl
            ·rw [h.call]
             repeat (conv=>lhs;whnf;arg 2;tactic=>first|exact g1|exact hin|exact hgt|exact en1|exact en2|exact c4|exact c5|exact al|exact c6|exact c7|exact c8|exact q1|exact q2|exact gS|exact congrArg not hin|exact congrArg not hgt|exact congrArg not c4|exact congrArg not c5|exact congrArg not al|exact congrArg not c6|exact congrArg not c7|exact congrArg not c8|exact congrArg not q1|exact congrArg not q2|exact g2)
             rfl
          ·rw [h.call]
           repeat (conv=>lhs;whnf;arg 2;tactic=>first|exact g1|exact hin|exact hgt|exact en1|exact en2|exact c4|exact c5|exact al|exact c6|exact c7|exact c8|exact gS|exact congrArg not hin|exact congrArg not hgt|exact congrArg not c4|exact congrArg not c5|exact congrArg not al|exact congrArg not c6|exact congrArg not c7|exact congrArg not c8|exact g2)
           rfl
         ·rw [h.call]
          repeat (conv=>lhs;whnf;arg 2;tactic=>first|exact g1|exact hin|exact hgt|exact en1|exact en2|exact c4|exact c5|exact al|exact c6|exact c7|exact gS|exact congrArg not hin|exact congrArg not hgt|exact congrArg not c4|exact congrArg not c5|exact congrArg not al|exact congrArg not c6|exact congrArg not c7|exact g2)
          rfl
        ·have c6 : (a2.alone == true) = true := by rw [al]; rfl
         rw [h.call]
         repeat (conv=>lhs;whnf;arg 2;tactic=>first|exact g1|exact hin|exact hgt|exact en1|exact en2|exact c4|exact c5|exact al|exact c6|exact gS|exact congrArg not hin|exact congrArg not hgt|exact congrArg not c4|exact congrArg not c5|exact congrArg not al|exact congrArg not c6|exact g2)
         rfl
     ·rw [h.call]
      repeat (conv=>lhs;whnf;arg 2;tactic=>first|exact g1|exact hin|exact hgt|exact en1|exact en2|exact c4|exact gS|exact congrArg not hin|exact congrArg not hgt|exact congrArg not c4|exact g2)
      rfl
  ·rw [c1] at hgt
   rw [h.call]
   repeat (conv=>lhs;whnf;arg 2;tactic=>first|exact g1|exact hin|exact hgt|exact gS|exact congrArg not hin|exact congrArg not hgt|exact g2)
   rfl
end
end Go.Gn

