/- Part 35 of a proof: an evaluator of the program, proved sound, and what it answers. -/
import Derived.Test.YtkgpnfeabojhcaaGreatA11
import Derived.Test.YtkgpnfeabojhcaaGreatA21
import Derived.Test.YtkgpnfeabojhcaaGreatA30
import Derived.Test.YtkgpnfeabojhcaaGreatA32
set_option linter.all false
namespace Go.Gn
open Go
set_option maxRecDepth 100000
set_option maxHeartbeats 16000000
theorem mod_le (a b : Nat) (hb : b < 4611686018427387904) : ∃ k, k ≤ b ∧ binAV .rem (.int .i64 (a : Nat)) (.int .i64 (IntKind.i64.wrap ((b : Nat) + 1 : Int))) = some (.int .i64 (k : Nat)) := by
 refine ⟨a % (b + 1), by have := Nat.mod_lt a (show 0 < b + 1 by omega); omega, ?_⟩
 rw [wrap_succ hb]
 have hz : ¬ ((b + 1 : Nat) : Int) = 0 := by omega
 simp only [binAV, binI, hz, if_false, if_true, reduceCtorEq]
 rfl
section
variable {W : CallF} {L : LoopF} {E : EqF} {T : Prop → Bool} (h : IsK G W L E T)
include h
theorem ev_FnWorldTold (cs : List Int) (hc : BytesOk cs) (ds : List Int) (hd : BytesOk ds) : W f_laws_FnWorldTold [.sl .sh (cs.map byD), .sl .sh (ds.map byD)] [] = some (.bool true, []) := by
 obtain ⟨es, hes, hl, e1⟩ := ev_DrawWorldPlay h cs hc
 cases hbig : decide (((cs.map byD).length : Int) > 1048576)
 ·cases hbig2 : decide (((ds.map byD).length : Int) > 1048576)
  ·rcases hl with hl | hl
   ·have hg := GoodW.new.play es
    have e2 := ev_iWorldPlay h es hes hl
    have e3 := ev_sWorldPlay h es hes hl
    have e4 := ev_lgWorld h _ hg.g.wl
    generalize hw : playM worldNew es = w at e2 e3 e4 hg
    have hel : ((es.map evD).length : Nat) = es.length := List.length_map ..
    obtain ⟨k, hk, hmod⟩ := mod_le (ds.map byD).length (es.map evD).length (by omega)
    have hv : view (es.map evD) 0 (k - 0) = (es.take k).map evD := view_take evD es k
    have e6 := ev_iWorldPlay h (es.take k) (fun e he => hes e (List.mem_of_mem_take he)) (by rw [List.length_take]; omega)
    have hgx := GoodW.new.play (es.take k)
    have hL := later_take es k
    rw [hw] at hL
    have eb := ev_lgBegins h (playM worldNew (es.take k)).done w.done (by have := hgx.g.done.l; omega)
    rw [pre_begins, (pre_iff _ _).2 hL.d] at eb
    have eS := ev_lgSafe h _ hgx.g.lead (by have := hgx.g.done.l; omega)
    rw [ok_safe hgx.ok] at eS
    generalize playM worldNew (es.take k) = x at e6 eb eS
    rw [← hv] at e6
    rw [h.call]
    repeat (conv=>lhs;whnf;arg 2;tactic=>first|exact g1|exact hbig|exact hbig2|exact e1|exact e2|exact e3|exact e4|exact hmod|exact e6|exact eb|exact eS|exact gS|exact congrArg not hbig|exact congrArg not hbig2|exact congrArg not eS|exact g2)
    rfl
   ·have e2 := ev_iWorldPlayL h es hl
    have e3 := ev_sWorldPlayL h es hl
    have e4 := ev_lgWorldZ h
    rw [h.call]
    repeat (conv=>lhs;whnf;arg 2;tactic=>first|exact g1|exact hbig|exact hbig2|exact e1|exact e2|exact e3|exact e4|exact congrArg not hbig|exact congrArg not hbig2|exact g2)
    rfl
  ·rw [h.call]
   repeat (conv=>lhs;whnf;arg 2;tactic=>first|exact g1|exact hbig|exact hbig2|exact congrArg not hbig|exact congrArg not hbig2|exact g2)
   rfl
 ·rw [h.call]
  repeat (conv=>lhs;whnf;arg 2;tactic=>first|exact g1|exact hbig|exact congrArg not hbig|exact g2)
  rfl
end
end Go.Gn

