/- Part 24 of a proof: an evaluator of the program, proved sound, and what it answers. -/
import Derived.Test.YtkgpnfeabojhcaaGreatA19
import Derived.Test.YtkgpnfeabojhcaaGreatA23
set_option linter.all false
namespace Go.Gn
open Go
set_option maxRecDepth 100000
set_option maxHeartbeats 8000000
inductive RL (w : WorldM) : Option (AV × List Obj) → Prop
 | s0000 (c1 c2 c3 c4 : Nat) : RL w (some (wV w 3 4, [wB w 1 2, oR c1 w.n1.ops, oR c2 w.n2.ops, nR c3 w.nets, oR c4 w.done]))
 | s000R (c1 c2 c3 c4 : Nat) (b4 : Nat) (x4 : List (List D)) : RL w (some (wV w 3 5, [wB w 1 2, oR c1 w.n1.ops, oR c2 w.n2.ops, nR c3 w.nets, .row 5 0 b4 x4, oR c4 w.done]))
inductive RN (w : WorldM) : Option (AV × List Obj) → Prop
 | s0000 (c1 c2 c3 c4 : Nat) : RN w (some (wV w 3 4, [wB w 1 2, oR c1 w.n1.ops, oR c2 w.n2.ops, nR c3 w.nets, oR c4 w.done]))
 | s00D0 (c1 c2 c3 c4 : Nat) : RN w (some (wV w 5 4, [wB w 1 2, oR c1 w.n1.ops, oR c2 w.n2.ops, .dead, oR c4 w.done, nR c3 w.nets]))
 | s00R0 (c1 c2 c3 c4 : Nat) (b3 : Nat) (x3 : List (List D)) : RN w (some (wV w 5 4, [wB w 1 2, oR c1 w.n1.ops, oR c2 w.n2.ops, .row 10 0 b3 x3, oR c4 w.done, nR c3 w.nets]))
 | s00RR (c1 c2 c3 c4 : Nat) (b3 : Nat) (x3 : List (List D)) (b4 : Nat) (x4 : List (List D)) : RN w (some (wV w 5 6, [wB w 1 2, oR c1 w.n1.ops, oR c2 w.n2.ops, .row 10 0 b3 x3, .row 5 0 b4 x4, nR c3 w.nets, oR c4 w.done]))
 | sD0R0 (c1 c2 c3 c4 : Nat) (b3 : Nat) (x3 : List (List D)) : RN w (some (wV w 6 4, [wB w 5 2, .dead, oR c2 w.n2.ops, .row 10 0 b3 x3, oR c4 w.done, oR c1 w.n1.ops, nR c3 w.nets]))
 | sR0R0 (c1 c2 c3 c4 : Nat) (b1 : Nat) (x1 : List (List D)) (b3 : Nat) (x3 : List (List D)) : RN w (some (wV w 6 4, [wB w 5 2, .row 5 0 b1 x1, oR c2 w.n2.ops, .row 10 0 b3 x3, oR c4 w.done, oR c1 w.n1.ops, nR c3 w.nets]))
 | s0DR0 (c1 c2 c3 c4 : Nat) (b3 : Nat) (x3 : List (List D)) : RN w (some (wV w 6 4, [wB w 1 5, oR c1 w.n1.ops, .dead, .row 10 0 b3 x3, oR c4 w.done, oR c2 w.n2.ops, nR c3 w.nets]))
 | s0RR0 (c1 c2 c3 c4 : Nat) (b2 : Nat) (x2 : List (List D)) (b3 : Nat) (x3 : List (List D)) : RN w (some (wV w 6 4, [wB w 1 5, oR c1 w.n1.ops, .row 5 0 b2 x2, .row 10 0 b3 x3, oR c4 w.done, oR c2 w.n2.ops, nR c3 w.nets]))
section
variable {W : CallF} {L : LoopF} {E : EqF} {T : Prop → Bool} (h : IsK G W L E T)
include h
theorem ev_l22Lead (w : WorldM) (hw : WG w) (cn : Nat) (id : Int) (hid : id = 1 ∨ id = 2) : RL (leadM w id) (W f_spec_l22Lead [wV w 3 4, .int .i64 id] (wS w cn)) := by
 have ht := hw.t
 have hwr : IntKind.i64.wrap (w.term + 1) = w.term + 1 := wrap_id (by omega) (by omega)
 unfold leadM
 by_cases h99 : w.term ≥ 99
 ·have hd99 : decide (w.term ≥ 99) = true := decide_eq_true h99
  rw [if_pos h99, h.call]
  repeat (conv=>arg 2;whnf;arg 2;tactic=>first|exact g1)
  conv => arg 2; whnf
  exact .s0000 ..
 ·have hd99 : decide (w.term ≥ 99) = false := decide_eq_false h99
  rw [if_neg h99, ← hwr]
  rcases hid with rfl | rfl
  ·have hol : w.n1.ops.length < 2000000 := by have := hw.o1.l; omega
   rw [show w.nd 1 = w.n1 from rfl, show (((w.n1.ops).length : Nat) : Int) = ((w.n1.ops.map opD).length : Nat) from by rw [List.length_map]]
   cases hd : decide ((((w.n1.ops.map opD).length : Nat) : Int) > (w.done.length : Int)) && decide ((((w.n1.ops.map opD).length : Nat) : Int) ≤ (w.n1.ops.length : Int))
   ·have ed := ev_doneF h ⟨(w.setN 1 ⟨w.n1.up, IntKind.i64.wrap (w.term + 1), true, true, w.n1.ops⟩).n1, (w.setN 1 ⟨w.n1.up, IntKind.i64.wrap (w.term + 1), true, true, w.n1.ops⟩).n2, IntKind.i64.wrap (w.term + 1), 1, false, w.nets, w.done⟩ cn ⟨w.n1.up, IntKind.i64.wrap (w.term + 1), true, true, w.n1.ops⟩ 1 (by first | exact .inl ⟨rfl, rfl⟩ | exact .inr ⟨rfl, rfl⟩) ((w.n1.ops.map opD).length) hol hd
    rw [doneM_f]
    ·rw [h.call]
     repeat (conv=>arg 2;whnf;arg 2;tactic=>first|exact g1|exact ed)
     conv => arg 2; whnf
     exact .s0000 ..
    ·exact hd
   ·have ed := ev_doneT h ⟨(w.setN 1 ⟨w.n1.up, IntKind.i64.wrap (w.term + 1), true, true, w.n1.ops⟩).n1, (w.setN 1 ⟨w.n1.up, IntKind.i64.wrap (w.term + 1), true, true, w.n1.ops⟩).n2, IntKind.i64.wrap (w.term + 1), 1, false, w.nets, w.done⟩ cn ⟨w.n1.up, IntKind.i64.wrap (w.term + 1), true, true, w.n1.ops⟩ 1 (by first | exact .inl ⟨rfl, rfl⟩ | exact .inr ⟨rfl, rfl⟩) ((w.n1.ops.map opD).length) hol hd
    rw [doneM_t]
    ·rw [h.call]
     repeat (conv=>arg 2;whnf;arg 2;tactic=>first|exact g1|exact ed)
     conv => arg 2; whnf
     exact .s000R ..
    ·exact hd
  ·have hol : w.n2.ops.length < 2000000 := by have := hw.o2.l; omega
   rw [show w.nd 2 = w.n2 from rfl, show (((w.n2.ops).length : Nat) : Int) = ((w.n2.ops.map opD).length : Nat) from by rw [List.length_map]]
   cases hd : decide ((((w.n2.ops.map opD).length : Nat) : Int) > (w.done.length : Int)) && decide ((((w.n2.ops.map opD).length : Nat) : Int) ≤ (w.n2.ops.length : Int))
   ·have ed := ev_doneF h ⟨(w.setN 2 ⟨w.n2.up, IntKind.i64.wrap (w.term + 1), true, true, w.n2.ops⟩).n1, (w.setN 2 ⟨w.n2.up, IntKind.i64.wrap (w.term + 1), true, true, w.n2.ops⟩).n2, IntKind.i64.wrap (w.term + 1), 2, false, w.nets, w.done⟩ cn ⟨w.n2.up, IntKind.i64.wrap (w.term + 1), true, true, w.n2.ops⟩ 2 (by first | exact .inl ⟨rfl, rfl⟩ | exact .inr ⟨rfl, rfl⟩) ((w.n2.ops.map opD).length) hol hd
    rw [doneM_f]
    ·rw [h.call]
     repeat (conv=>arg 2;whnf;arg 2;tactic=>first|exact g1|exact ed)
     conv => arg 2; whnf
     exact .s0000 ..
    ·exact hd
   ·have ed := ev_doneT h ⟨(w.setN 2 ⟨w.n2.up, IntKind.i64.wrap (w.term + 1), true, true, w.n2.ops⟩).n1, (w.setN 2 ⟨w.n2.up, IntKind.i64.wrap (w.term + 1), true, true, w.n2.ops⟩).n2, IntKind.i64.wrap (w.term + 1), 2, false, w.nets, w.done⟩ cn ⟨w.n2.up, IntKind.i64.wrap (w.term + 1), true, true, w.n2.ops⟩ 2 (by first | exact .inl ⟨rfl, rfl⟩ | exact .inr ⟨rfl, rfl⟩) ((w.n2.ops.map opD).length) hol hd
    rw [doneM_t]
    ·rw [h.call]
     repeat (conv=>arg 2;whnf;arg 2;tactic=>first|exact g1|exact ed)
     conv => arg 2; whnf
     exact .s000R ..
    ·exact hd
theorem ev_l22Net (w : WorldM) (hw : WG w) (cn : Nat) (e : EvM) (he : e.kind = 2 ∨ e.kind = 3 ∨ e.kind = 4) : RN (netM w e.kind e.a) (W f_spec_l22Net [wV w 3 4, evA e] (wS w cn)) := by
 have hl := hw.nl
 have hlen : ((w.nets.map msgD).length : Nat) = w.nets.length := List.length_map ..
 have n1 : ∀ {a b : Int}, ¬ a = b → (a == b) = false := fun hab => by simp [hab]
 have y1 : ∀ {a b : Int}, a = b → (a == b) = true := fun hab => by simp [hab]
 have ein := ev_l6In h e.a 0 (IntKind.i64.wrap (((w.nets.map msgD).length : Nat) - 1))
 have hin : inR e.a 0 (IntKind.i64.wrap (((w.nets.map msgD).length : Nat) - 1)) = inR e.a 0 ((w.nets.length : Int) - 1) := by rw [hlen, wrap_id (by omega) (by omega)]
 rw [hin] at ein
 unfold netM
 obtain ⟨ek, ea, eo⟩ := e
 simp only at *
 cases hc : inR ea 0 ((w.nets.length : Int) - 1)
 ·rw [hc] at ein
  rw [if_neg (by simp), h.call]
  repeat (conv=>arg 2;whnf;arg 2;tactic=>first|exact ein)
  conv => arg 2; whnf
  exact .s0000 ..
 ·rw [hc] at ein
  rw [if_pos rfl]
  have hc' := hc
  simp only [inR, Bool.and_eq_true, decide_eq_true_eq] at hc'
  obtain ⟨k, rfl⟩ : ∃ k : Nat, ea = k := ⟨ea.toNat, by omega⟩
  obtain ⟨m, hm⟩ := get_some (xs := w.nets) (i := k) (by omega)
  have hmg := hw.nets m (List.mem_of_getElem? hm)
  rw [Int.toNat_natCast, hm]
  simp only
  by_cases k4 : ek = 4
  ·rw [if_pos k4]
   have es := ev_send h w cn m (.sl .sh (m.ops.map opD)) (.inr rfl) hl
   unfold sendM
   cases hc2 : decide ((w.nets.length : Int) < 12)
   ·rw [hc2] at es
    rw [h.call]
    repeat (conv=>arg 2;whnf;arg 2;tactic=>first|exact g1|exact ein|exact map_get hm|exact es)
    conv => arg 2; whnf
    exact .s0000 ..
   ·rw [hc2] at es
    rw [h.call]
    repeat (conv=>arg 2;whnf;arg 2;tactic=>first|exact g1|exact ein|exact map_get hm|exact es)
    conv => arg 2; whnf
    exact .s00D0 ..
  ·rw [if_neg k4]
   have hwk : IntKind.i64.wrap ((k : Int) + 1) = ((k + 1 : Nat) : Int) := wrap_succ (by omega)
   have hcap1 : ∀ x : List (List D), x.length ≤ 12 → decide ((0 + x.length) * 120 ≤ 140737488355328) = true := fun x hx => decide_eq_true (by omega)
   have hcap2 : ∀ x y : List (List D), x.length ≤ 12 → y.length ≤ 12 → decide ((x.length + y.length) * 120 ≤ 140737488355328) = true := fun x y hx hy => decide_eq_true (by omega)
   have hv : (chunks 10 0 ([] : List D) ++ view (w.nets.map msgD) 0 (k - 0)) ++ view (w.nets.map msgD) (k + 1) ((w.nets.map msgD).length - (k + 1)) = (w.nets.take k ++ w.nets.drop (k + 1)).map msgD := by
    rw [List.map_append, ← view_take msgD w.nets k]
    congr 1
    unfold view
    rw [← List.map_drop, List.take_of_length_le (by simp)]
   by_cases k2 : ek = 2
   ·rw [if_pos k2]
    have eb := ev_l22Bring h { w with nets := w.nets.take k ++ w.nets.drop (k + 1) } (hw.drop1 k) 0 m hmg
    unfold wS nR at eb
    simp only at eb
    rw [← hv] at eb
    obtain ⟨r, hq, hr⟩ := ex_of eb
    clear eb
    generalize bringM { w with nets := w.nets.take k ++ w.nets.drop (k + 1) } m = w' at hr ⊢
    rw [h.call]
    repeat (conv=>arg 2;whnf;arg 2;tactic=>first|exact g1|exact ein|exact map_get hm|exact hwk|exact hcap2 _ _ (by simp [view, chunks] <;> omega) (by simp [view, chunks] <;> omega)|exact gS)
    conv => arg 2; whnf; arg 2; tactic => exact hq
    cases hr
    ·conv => arg 2; whnf
     exact .s00R0 ..
    ·conv => arg 2; whnf
     exact .s00RR ..
    ·conv => arg 2; whnf
     exact .s00R0 ..
    ·conv => arg 2; whnf
     exact .sD0R0 ..
    ·conv => arg 2; whnf
     exact .sR0R0 ..
    ·conv => arg 2; whnf
     exact .s0DR0 ..
    ·conv => arg 2; whnf
     exact .s0RR0 ..
    ·conv => arg 2; whnf
     exact .sD0R0 ..
    ·conv => arg 2; whnf
     exact .sR0R0 ..
    ·conv => arg 2; whnf
     exact .s0DR0 ..
    ·conv => arg 2; whnf
     exact .s0RR0 ..
   ·rw [if_neg k2]
    rw [h.call]
    repeat (conv=>arg 2;whnf;arg 2;tactic=>first|exact g1|exact ein|exact map_get hm|exact hwk|exact hcap2 _ _ (by simp [view, chunks] <;> omega) (by simp [view, chunks] <;> omega)|exact gS)
    conv => arg 2; whnf
    rw [hv]
    exact .s00R0 ..
end
end Go.Gn

