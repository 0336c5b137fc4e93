/- Part 22 of a proof: an evaluator of the program, proved sound, and what it answers. -/
import Derived.Test.YtkgpnfeabojhcaaGreatA19
set_option linter.all false
namespace Go.Gn
open Go
set_option maxRecDepth 100000
set_option maxHeartbeats 8000000
inductive RA (w : WorldM) : Option (AV × List Obj) → Prop
 | s0000 (c1 c2 c3 c4 : Nat) : RA w (some (wV w 3 4, [wB w 1 2, oR c1 w.n1.ops, oR c2 w.n2.ops, nR c3 w.nets, oR c4 w.done]))
 | sD000 (c1 c2 c3 c4 : Nat) : RA w (some (wV w 3 4, [wB w 5 2, .dead, oR c2 w.n2.ops, nR c3 w.nets, oR c4 w.done, oR c1 w.n1.ops]))
 | sD00R (c1 c2 c3 c4 : Nat) (b4 : Nat) (x4 : List (List D)) : RA w (some (wV w 3 6, [wB w 5 2, .dead, oR c2 w.n2.ops, nR c3 w.nets, .row 5 0 b4 x4, oR c1 w.n1.ops, oR c4 w.done]))
 | sD0D0 (c1 c2 c3 c4 : Nat) : RA w (some (wV w 6 4, [wB w 5 2, .dead, oR c2 w.n2.ops, .dead, oR c4 w.done, oR c1 w.n1.ops, nR c3 w.nets]))
 | sD0DR (c1 c2 c3 c4 : Nat) (b4 : Nat) (x4 : List (List D)) : RA w (some (wV w 6 7, [wB w 5 2, .dead, oR c2 w.n2.ops, .dead, .row 5 0 b4 x4, oR c1 w.n1.ops, nR c3 w.nets, oR c4 w.done]))
 | s0D00 (c1 c2 c3 c4 : Nat) : RA w (some (wV w 3 4, [wB w 1 5, oR c1 w.n1.ops, .dead, nR c3 w.nets, oR c4 w.done, oR c2 w.n2.ops]))
 | s0D0R (c1 c2 c3 c4 : Nat) (b4 : Nat) (x4 : List (List D)) : RA w (some (wV w 3 6, [wB w 1 5, oR c1 w.n1.ops, .dead, nR c3 w.nets, .row 5 0 b4 x4, oR c2 w.n2.ops, oR c4 w.done]))
 | s0DD0 (c1 c2 c3 c4 : Nat) : RA w (some (wV w 6 4, [wB w 1 5, oR c1 w.n1.ops, .dead, .dead, oR c4 w.done, oR c2 w.n2.ops, nR c3 w.nets]))
 | s0DDR (c1 c2 c3 c4 : Nat) (b4 : Nat) (x4 : List (List D)) : RA w (some (wV w 6 7, [wB w 1 5, oR c1 w.n1.ops, .dead, .dead, .row 5 0 b4 x4, oR c2 w.n2.ops, nR c3 w.nets, oR c4 w.done]))
section
variable {W : CallF} {L : LoopF} {E : EqF} {T : Prop → Bool} (h : IsK G W L E T)
include h
theorem ev_l22Ask (w : WorldM) (hw : WG w) (cn : Nat) (id : Int) (hid : id = 1 ∨ id = 2) (o : OpM) (ho : o.Sz) : RA (askM w id o) (W f_spec_l22Ask [wV w 3 4, .int .i64 id, .agg (opC o)] (wS w cn)) := by
 have hl := hw.nl
 rcases hid with rfl | rfl
 ·have ea := ev_l21Ask h w.n1 hw.o1.sz hw.o1.run 1 (by omega) o ho
  cases ha : askOk w.n1 o
  ·rw [show askM w 1 o = w from by unfold askM; rw [show w.nd 1 = w.n1 from rfl, ha]; rfl]
   rw [ha] at ea
   rw [h.call]
   repeat (conv=>arg 2;whnf;arg 2;tactic=>first|exact ea)
   conv => arg 2; whnf
   exact .s0000 ..
  ·rw [ha] at ea
   have hop := (askOk_G ha).2
   have hld : (w.n1.ops ++ [o]).length < 2000000 := by have := hop.l; omega
   have hal : ∀ b, w.n1.alone = b → (nodeAdd w.n1 o).alone = b := fun b hb => hb
   cases al : w.n1.alone
   ·rw [show askM w 1 o = sendM (w.setN 1 (nodeAdd w.n1 o)) (askMsg w.n1 1 o) from by unfold askM; rw [show w.nd 1 = w.n1 from rfl, ha, al]; rfl]
    have es := ev_send h (w.setN 1 (nodeAdd w.n1 o)) cn (askMsg w.n1 1 o) .nils (.inl ⟨rfl, rfl⟩) hl
    cases hc : decide (((w.setN 1 (nodeAdd w.n1 o)).nets.length : Int) < 12)
    ·rw [hc] at es
     unfold sendM
     rw [hc, h.call]
     repeat (conv=>arg 2;whnf;arg 2;tactic=>first|exact ea|exact al|exact es)
     conv => arg 2; whnf
     exact .sD000 ..
    ·rw [hc] at es
     unfold sendM
     rw [hc, h.call]
     repeat (conv=>arg 2;whnf;arg 2;tactic=>first|exact ea|exact al|exact es)
     conv => arg 2; whnf
     exact .sD0D0 ..
   ·have hk : (((w.n1.ops ++ [o]).length : Nat) : Int) = (((w.n1.ops ++ [o]).map opD).length : Nat) := by rw [List.length_map]
    rw [show askM w 1 o = sendM (doneM (w.setN 1 (nodeAdd w.n1 o)) (w.n1.ops ++ [o]) (((w.n1.ops ++ [o]).map opD).length : Nat)) (askMsg w.n1 1 o) from by unfold askM; rw [show w.nd 1 = w.n1 from rfl, ha, al, hk]; rfl]
    have ed := ev_l22Done h (w.setN 1 (nodeAdd w.n1 o)) cn (nodeAdd w.n1 o) 1 (by first | exact .inl ⟨rfl, rfl⟩ | exact .inr ⟨rfl, rfl⟩) ((w.n1.ops ++ [o]).map opD).length hld
    unfold doneM
    cases hd : decide ((((w.n1.ops ++ [o]).map opD).length : Int) > ((w.setN 1 (nodeAdd w.n1 o)).done.length : Int)) && decide ((((w.n1.ops ++ [o]).map opD).length : Int) ≤ ((w.n1.ops ++ [o]).length : Int))
    ·rw [show (nodeAdd w.n1 o).ops = w.n1.ops ++ [o] from rfl, hd] at ed
     have es := ev_send h (w.setN 1 (nodeAdd w.n1 o)) 10 (askMsg w.n1 1 o) .nils (.inl ⟨rfl, rfl⟩) hl
     cases hc : decide (((w.setN 1 (nodeAdd w.n1 o)).nets.length : Int) < 12)
     ·rw [hc] at es
      unfold sendM
      simp only [Bool.false_eq_true, if_false, hc]
      rw [h.call]
      repeat (conv=>arg 2;whnf;arg 2;tactic=>first|exact ea|exact al|exact ed|exact es)
      conv => arg 2; whnf
      exact .sD000 ..
     ·rw [hc] at es
      unfold sendM
      simp only [Bool.false_eq_true, if_false, if_true, hc]
      rw [h.call]
      repeat (conv=>arg 2;whnf;arg 2;tactic=>first|exact ea|exact al|exact ed|exact es)
      conv => arg 2; whnf
      exact .sD0D0 ..
    ·rw [show (nodeAdd w.n1 o).ops = w.n1.ops ++ [o] from rfl, hd] at ed
     have es := ev_send h { w.setN 1 (nodeAdd w.n1 o) with done := (w.n1.ops ++ [o]).take ((w.n1.ops ++ [o]).map opD).length } 10 (askMsg w.n1 1 o) .nils (.inl ⟨rfl, rfl⟩) hl
     cases hc : decide (((w.setN 1 (nodeAdd w.n1 o)).nets.length : Int) < 12)
     ·rw [show decide ((({ w.setN 1 (nodeAdd w.n1 o) with done := (w.n1.ops ++ [o]).take ((w.n1.ops ++ [o]).map opD).length } : WorldM).nets.length : Int) < 12) = false from hc] at es
      unfold sendM
      simp only [if_true, Int.toNat_natCast]
      rw [show decide ((({ w.setN 1 (nodeAdd w.n1 o) with done := (w.n1.ops ++ [o]).take ((w.n1.ops ++ [o]).map opD).length } : WorldM).nets.length : Int) < 12) = false from hc]
      rw [h.call]
      repeat (conv=>arg 2;whnf;arg 2;tactic=>first|exact ea|exact al|exact ed|exact es)
      conv => arg 2; whnf
      exact .sD00R ..
     ·rw [show decide ((({ w.setN 1 (nodeAdd w.n1 o) with done := (w.n1.ops ++ [o]).take ((w.n1.ops ++ [o]).map opD).length } : WorldM).nets.length : Int) < 12) = true from hc] at es
      unfold sendM
      simp only [if_true, Int.toNat_natCast]
      rw [show decide ((({ w.setN 1 (nodeAdd w.n1 o) with done := (w.n1.ops ++ [o]).take ((w.n1.ops ++ [o]).map opD).length } : WorldM).nets.length : Int) < 12) = true from hc]
      rw [h.call]
      repeat (conv=>arg 2;whnf;arg 2;tactic=>first|exact ea|exact al|exact ed|exact es)
      conv => arg 2; whnf
      exact .sD0DR ..
 ·have ea := ev_l21Ask h w.n2 hw.o2.sz hw.o2.run 2 (by omega) o ho
  cases ha : askOk w.n2 o
  ·rw [show askM w 2 o = w from by unfold askM; rw [show w.nd 2 = w.n2 from rfl, ha]; rfl]
   rw [ha] at ea
   rw [h.call]
   repeat (conv=>arg 2;whnf;arg 2;tactic=>first|exact ea)
   conv => arg 2; whnf
   exact .s0000 ..
  ·rw [ha] at ea
   have hop := (askOk_G ha).2
   have hld : (w.n2.ops ++ [o]).length < 2000000 := by have := hop.l; omega
   have hal : ∀ b, w.n2.alone = b → (nodeAdd w.n2 o).alone = b := fun b hb => hb
   cases al : w.n2.alone
   ·rw [show askM w 2 o = sendM (w.setN 2 (nodeAdd w.n2 o)) (askMsg w.n2 2 o) from by unfold askM; rw [show w.nd 2 = w.n2 from rfl, ha, al]; rfl]
    have es := ev_send h (w.setN 2 (nodeAdd w.n2 o)) cn (askMsg w.n2 2 o) .nils (.inl ⟨rfl, rfl⟩) hl
    cases hc : decide (((w.setN 2 (nodeAdd w.n2 o)).nets.length : Int) < 12)
    ·rw [hc] at es
     unfold sendM
     rw [hc, h.call]
     repeat (conv=>arg 2;whnf;arg 2;tactic=>first|exact ea|exact al|exact es)
     conv => arg 2; whnf
     exact .s0D00 ..
    ·rw [hc] at es
     unfold sendM
     rw [hc, h.call]
     repeat (conv=>arg 2;whnf;arg 2;tactic=>first|exact ea|exact al|exact es)
     conv => arg 2; whnf
     exact .s0DD0 ..
   ·have hk : (((w.n2.ops ++ [o]).length : Nat) : Int) = (((w.n2.ops ++ [o]).map opD).length : Nat) := by rw [List.length_map]
    rw [show askM w 2 o = sendM (doneM (w.setN 2 (nodeAdd w.n2 o)) (w.n2.ops ++ [o]) (((w.n2.ops ++ [o]).map opD).length : Nat)) (askMsg w.n2 2 o) from by unfold askM; rw [show w.nd 2 = w.n2 from rfl, ha, al, hk]; rfl]
    have ed := ev_l22Done h (w.setN 2 (nodeAdd w.n2 o)) cn (nodeAdd w.n2 o) 2 (by first | exact .inl ⟨rfl, rfl⟩ | exact .inr ⟨rfl, rfl⟩) ((w.n2.ops ++ [o]).map opD).length hld
    unfold doneM
    cases hd : decide ((((w.n2.ops ++ [o]).map opD).length : Int) > ((w.setN 2 (nodeAdd w.n2 o)).done.length : Int)) && decide ((((w.n2.ops ++ [o]).map opD).length : Int) ≤ ((w.n2.ops ++ [o]).length : Int))
    ·rw [show (nodeAdd w.n2 o).ops = w.n2.ops ++ [o] from rfl, hd] at ed
     have es := ev_send h (w.setN 2 (nodeAdd w.n2 o)) 10 (askMsg w.n2 2 o) .nils (.inl ⟨rfl, rfl⟩) hl
     cases hc : decide (((w.setN 2 (nodeAdd w.n2 o)).nets.length : Int) < 12)
     ·rw [hc] at es
      unfold sendM
      simp only [Bool.false_eq_true, if_false, hc]
      rw [h.call]
      repeat (conv=>arg 2;whnf;arg 2;tactic=>first|exact ea|exact al|exact ed|exact es)
      conv => arg 2; whnf
      exact .s0D00 ..
     ·rw [hc] at es
      unfold sendM
      simp only [Bool.false_eq_true, if_false, if_true, hc]
      rw [h.call]
      repeat (conv=>arg 2;whnf;arg 2;tactic=>first|exact ea|exact al|exact ed|exact es)
      conv => arg 2; whnf
      exact .s0DD0 ..
    ·rw [show (nodeAdd w.n2 o).ops = w.n2.ops ++ [o] from rfl, hd] at ed
     have es := ev_send h { w.setN 2 (nodeAdd w.n2 o) with done := (w.n2.ops ++ [o]).take ((w.n2.ops ++ [o]).map opD).length } 10 (askMsg w.n2 2 o) .nils (.inl ⟨rfl, rfl⟩) hl
     cases hc : decide (((w.setN 2 (nodeAdd w.n2 o)).nets.length : Int) < 12)
     ·rw [show decide ((({ w.setN 2 (nodeAdd w.n2 o) with done := (w.n2.ops ++ [o]).take ((w.n2.ops ++ [o]).map opD).length } : WorldM).nets.length : Int) < 12) = false from hc] at es
      unfold sendM
      simp only [if_true, Int.toNat_natCast]
      rw [show decide ((({ w.setN 2 (nodeAdd w.n2 o) with done := (w.n2.ops ++ [o]).take ((w.n2.ops ++ [o]).map opD).length } : WorldM).nets.length : Int) < 12) = false from hc]
      rw [h.call]
      repeat (conv=>arg 2;whnf;arg 2;tactic=>first|exact ea|exact al|exact ed|exact es)
      conv => arg 2; whnf
      exact .s0D0R ..
     ·rw [show decide ((({ w.setN 2 (nodeAdd w.n2 o) with done := (w.n2.ops ++ [o]).take ((w.n2.ops ++ [o]).map opD).length } : WorldM).nets.length : Int) < 12) = true from hc] at es
      unfold sendM
      simp only [if_true, Int.toNat_natCast]
      rw [show decide ((({ w.setN 2 (nodeAdd w.n2 o) with done := (w.n2.ops ++ [o]).take ((w.n2.ops ++ [o]).map opD).length } : WorldM).nets.length : Int) < 12) = true from hc]
      rw [h.call]
      repeat (conv=>arg 2;whnf;arg 2;tactic=>first|exact ea|exact al|exact ed|exact es)
      conv => arg 2; whnf
      exact .s0DDR ..
end
end Go.Gn

