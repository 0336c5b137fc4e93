/- Part 25 of a proof: an evaluator of the program, proved sound, and what it answers. -/
import Derived.Test.YtkgpnfeabojhcaaGreatA24
set_option linter.all false
namespace Go.Gn
open Go
set_option maxRecDepth 100000
set_option maxHeartbeats 16000000
inductive RO (w : WorldM) : Option (AV × List Obj) → Prop
 | s0000 (c1 c2 c3 c4 : Nat) : RO w (some (wV w 3 4, [wB w 1 2, oR c1 w.n1.ops, oR c2 w.n2.ops, nR c3 w.nets, oR c4 w.done]))
 | s000R (c1 c2 c3 c4 : Nat) (b4 : Nat) (x4 : List (List D)) : RO w (some (wV w 3 5, [wB w 1 2, oR c1 w.n1.ops, oR c2 w.n2.ops, nR c3 w.nets, .row 5 0 b4 x4, oR c4 w.done]))
 | s00D0 (c1 c2 c3 c4 : Nat) : RO w (some (wV w 5 4, [wB w 1 2, oR c1 w.n1.ops, oR c2 w.n2.ops, .dead, oR c4 w.done, nR c3 w.nets]))
 | s00R0 (c1 c2 c3 c4 : Nat) (b3 : Nat) (x3 : List (List D)) : RO w (some (wV w 5 4, [wB w 1 2, oR c1 w.n1.ops, oR c2 w.n2.ops, .row 10 0 b3 x3, oR c4 w.done, nR c3 w.nets]))
 | s00RR (c1 c2 c3 c4 : Nat) (b3 : Nat) (x3 : List (List D)) (b4 : Nat) (x4 : List (List D)) : RO w (some (wV w 5 6, [wB w 1 2, oR c1 w.n1.ops, oR c2 w.n2.ops, .row 10 0 b3 x3, .row 5 0 b4 x4, nR c3 w.nets, oR c4 w.done]))
 | sD000 (c1 c2 c3 c4 : Nat) : RO w (some (wV w 3 4, [wB w 5 2, .dead, oR c2 w.n2.ops, nR c3 w.nets, oR c4 w.done, oR c1 w.n1.ops]))
 | sD00R (c1 c2 c3 c4 : Nat) (b4 : Nat) (x4 : List (List D)) : RO w (some (wV w 3 6, [wB w 5 2, .dead, oR c2 w.n2.ops, nR c3 w.nets, .row 5 0 b4 x4, oR c1 w.n1.ops, oR c4 w.done]))
 | sD0D0 (c1 c2 c3 c4 : Nat) : RO w (some (wV w 6 4, [wB w 5 2, .dead, oR c2 w.n2.ops, .dead, oR c4 w.done, oR c1 w.n1.ops, nR c3 w.nets]))
 | sD0DR (c1 c2 c3 c4 : Nat) (b4 : Nat) (x4 : List (List D)) : RO w (some (wV w 6 7, [wB w 5 2, .dead, oR c2 w.n2.ops, .dead, .row 5 0 b4 x4, oR c1 w.n1.ops, nR c3 w.nets, oR c4 w.done]))
 | s0D00 (c1 c2 c3 c4 : Nat) : RO w (some (wV w 3 4, [wB w 1 5, oR c1 w.n1.ops, .dead, nR c3 w.nets, oR c4 w.done, oR c2 w.n2.ops]))
 | s0D0R (c1 c2 c3 c4 : Nat) (b4 : Nat) (x4 : List (List D)) : RO w (some (wV w 3 6, [wB w 1 5, oR c1 w.n1.ops, .dead, nR c3 w.nets, .row 5 0 b4 x4, oR c2 w.n2.ops, oR c4 w.done]))
 | s0DD0 (c1 c2 c3 c4 : Nat) : RO w (some (wV w 6 4, [wB w 1 5, oR c1 w.n1.ops, .dead, .dead, oR c4 w.done, oR c2 w.n2.ops, nR c3 w.nets]))
 | s0DDR (c1 c2 c3 c4 : Nat) (b4 : Nat) (x4 : List (List D)) : RO w (some (wV w 6 7, [wB w 1 5, oR c1 w.n1.ops, .dead, .dead, .row 5 0 b4 x4, oR c2 w.n2.ops, nR c3 w.nets, oR c4 w.done]))
 | sD0R0 (c1 c2 c3 c4 : Nat) (b3 : Nat) (x3 : List (List D)) : RO w (some (wV w 6 4, [wB w 5 2, .dead, oR c2 w.n2.ops, .row 10 0 b3 x3, oR c4 w.done, oR c1 w.n1.ops, nR c3 w.nets]))
 | sR0R0 (c1 c2 c3 c4 : Nat) (b1 : Nat) (x1 : List (List D)) (b3 : Nat) (x3 : List (List D)) : RO w (some (wV w 6 4, [wB w 5 2, .row 5 0 b1 x1, oR c2 w.n2.ops, .row 10 0 b3 x3, oR c4 w.done, oR c1 w.n1.ops, nR c3 w.nets]))
 | s0DR0 (c1 c2 c3 c4 : Nat) (b3 : Nat) (x3 : List (List D)) : RO w (some (wV w 6 4, [wB w 1 5, oR c1 w.n1.ops, .dead, .row 10 0 b3 x3, oR c4 w.done, oR c2 w.n2.ops, nR c3 w.nets]))
 | s0RR0 (c1 c2 c3 c4 : Nat) (b2 : Nat) (x2 : List (List D)) (b3 : Nat) (x3 : List (List D)) : RO w (some (wV w 6 4, [wB w 1 5, oR c1 w.n1.ops, .row 5 0 b2 x2, .row 10 0 b3 x3, oR c4 w.done, oR c2 w.n2.ops, nR c3 w.nets]))
section
variable {W : CallF} {L : LoopF} {E : EqF} {T : Prop → Bool} (h : IsK G W L E T)
include h
theorem ev_l22Do (w : WorldM) (hw : WG w) (cn : Nat) (e : EvM) (he : e.op.Sz) : RO (doM w e) (W f_spec_l22Do [wV w 3 4, evA e] (wS w cn)) := by
 have hl := hw.nl
 have n1 : ∀ {a b : Int}, ¬ a = b → (a == b) = false := fun hab => by simp [hab]
 have y1 : ∀ {a b : Int}, a = b → (a == b) = true := fun hab => by simp [hab]
 have ein := ev_l6In h e.a 1 2
 have hlead := hw.lead
 have eask : inR e.a 1 2 = true → RA (askM w e.a e.op) (W f_spec_l22Ask [wV w 3 4, .int .i64 e.a, .agg (opC e.op)] (wS w cn)) := fun hc => ev_l22Ask h w hw cn e.a (inR12 hc) e.op he
 have enet := ev_l22Net h w hw cn e
 have elead := fun (id : Int) hid => ev_l22Lead h w hw cn id hid
 unfold doM
 obtain ⟨ek, ea, eo⟩ := e
 obtain ⟨a1, a2, term, lead, both, nets, done⟩ := w
 simp only at *
 by_cases k1 : ek = 1
 ·rw [if_pos k1]
  cases hc : inR ea 1 2
  ·rw [hc] at ein
   rw [if_neg (by simp), h.call]
   repeat (conv=>arg 2;whnf;arg 2;tactic=>first|exact g1|exact ein)
   conv => arg 2; whnf
   exact .s0000 ..
  ·rw [hc] at ein
   rw [if_pos rfl]
   obtain ⟨r, hq, hr⟩ := ex_of (eask hc)
   clear eask
   generalize askM ⟨a1, a2, term, lead, both, nets, done⟩ ea eo = w' at hr ⊢
   rw [h.call]
   repeat (conv=>arg 2;whnf;arg 2;tactic=>first|exact g1|exact ein)
   conv => arg 2; whnf; arg 2; tactic => exact hq
   cases hr
   ·conv => arg 2; whnf
    exact .s0000 ..
   ·conv => arg 2; whnf
    exact .sD000 ..
   ·conv => arg 2; whnf
    exact .sD00R ..
   ·conv => arg 2; whnf
    exact .sD0D0 ..
   ·conv => arg 2; whnf
    exact .sD0DR ..
   ·conv => arg 2; whnf
    exact .s0D00 ..
   ·conv => arg 2; whnf
    exact .s0D0R ..
   ·conv => arg 2; whnf
    exact .s0DD0 ..
   ·conv => arg 2; whnf
    exact .s0DDR ..
 ·rw [if_neg k1]
  by_cases k2 : ek = 2 ∨ ek = 3 ∨ ek = 4
  ·rw [if_pos k2]
   obtain ⟨r, hq, hr⟩ := ex_of (enet k2)
   clear enet
   generalize netM ⟨a1, a2, term, lead, both, nets, done⟩ ek ea = w' at hr ⊢
   have ek2 : (ek == 2) = true ∨ ((ek == 2) = false ∧ (ek == 3) = true) ∨ ((ek == 2) = false ∧ (ek == 3) = false ∧ (ek == 4) = true) := by
    rcases k2 with rfl | rfl | rfl
    ·exact .inl rfl
    ·exact .inr (.inl ⟨rfl, rfl⟩)
    ·exact .inr (.inr ⟨rfl, rfl, rfl⟩)
   rw [h.call]
   rcases ek2 with q2 | ⟨q2, q3⟩ | ⟨q2, q3, q4⟩
   ·repeat (conv=>arg 2;whnf;arg 2;tactic=>first|exact g1|exact q2)
    conv => arg 2; whnf; arg 2; tactic => exact hq
    cases hr
    ·conv => arg 2; whnf
     exact .s0000 ..
    ·conv => arg 2; whnf
     exact .s00D0 ..
    ·conv => arg 2; whnf
     exact .s00R0 ..
    ·conv => arg 2; whnf
     exact .s00RR ..
    ·conv => arg 2; whnf
     exact .sD0R0 ..
    ·conv => arg 2; whnf
     exact .sR0R0 ..
    ·conv => arg 2; whnf
     exact .s0DR0 ..
    ·conv => arg 2; whnf
     exact .s0RR0 ..
   ·repeat (conv=>arg 2;whnf;arg 2;tactic=>first|exact g1|exact q2|exact q3)
    conv => arg 2; whnf; arg 2; tactic => exact hq
    cases hr
    ·conv => arg 2; whnf
     exact .s0000 ..
    ·conv => arg 2; whnf
     exact .s00D0 ..
    ·conv => arg 2; whnf
     exact .s00R0 ..
    ·conv => arg 2; whnf
     exact .s00RR ..
    ·conv => arg 2; whnf
     exact .sD0R0 ..
    ·conv => arg 2; whnf
     exact .sR0R0 ..
    ·conv => arg 2; whnf
     exact .s0DR0 ..
    ·conv => arg 2; whnf
     exact .s0RR0 ..
   ·repeat (conv=>arg 2;whnf;arg 2;tactic=>first|exact g1|exact q2|exact q3|exact q4)
    conv => arg 2; whnf; arg 2; tactic => exact hq
    cases hr
    ·conv => arg 2; whnf
     exact .s0000 ..
    ·conv => arg 2; whnf
     exact .s00D0 ..
    ·conv => arg 2; whnf
     exact .s00R0 ..
    ·conv => arg 2; whnf
     exact .s00RR ..
    ·conv => arg 2; whnf
     exact .sD0R0 ..
    ·conv => arg 2; whnf
     exact .sR0R0 ..
    ·conv => arg 2; whnf
     exact .s0DR0 ..
    ·conv => arg 2; whnf
     exact .s0RR0 ..
  ·rw [if_neg k2]
   have q2 : ¬ ek = 2 := fun e => k2 (.inl e)
   have q3 : ¬ ek = 3 := fun e => k2 (.inr (.inl e))
   have q4 : ¬ ek = 4 := fun e => k2 (.inr (.inr e))
   by_cases k5 : ek = 5 ∨ ek = 6
   ·rw [if_pos k5]
    have ek5 : (ek == 5) = true ∨ ((ek == 5) = false ∧ (ek == 6) = true) := by
     rcases k5 with rfl | rfl
     ·exact .inl rfl
     ·exact .inr ⟨rfl, rfl⟩
    cases hc : inR ea 1 2
    ·rw [hc] at ein
     rw [if_neg (by simp), h.call]
     rcases ek5 with q5 | ⟨q5, q6⟩
     ·repeat (conv=>arg 2;whnf;arg 2;tactic=>first|exact g1|exact q5|exact ein)
      conv => arg 2; whnf
      exact .s0000 ..
     ·repeat (conv=>arg 2;whnf;arg 2;tactic=>first|exact g1|exact q5|exact q6|exact ein)
      conv => arg 2; whnf
      exact .s0000 ..
    ·rw [hc] at ein
     rw [if_pos rfl, h.call]
     rcases inR12 hc with rfl | rfl
     ·rcases ek5 with q5 | ⟨q5, q6⟩
      ·repeat (conv=>arg 2;whnf;arg 2;tactic=>first|exact g1|exact q5|exact ein)
       conv => arg 2; whnf
       exact .s0000 ..
      ·repeat (conv=>arg 2;whnf;arg 2;tactic=>first|exact g1|exact q5|exact q6|exact ein)
       conv => arg 2; whnf
       exact .s0000 ..
     ·rcases ek5 with q5 | ⟨q5, q6⟩
      ·repeat (conv=>arg 2;whnf;arg 2;tactic=>first|exact g1|exact q5|exact ein)
       conv => arg 2; whnf
       exact .s0000 ..
      ·repeat (conv=>arg 2;whnf;arg 2;tactic=>first|exact g1|exact q5|exact q6|exact ein)
       conv => arg 2; whnf
       exact .s0000 ..
   ·rw [if_neg k5]
    have q5 : ¬ ek = 5 := fun e => k5 (.inl e)
    have q6 : ¬ ek = 6 := fun e => k5 (.inr e)
    by_cases k7 : ek = 7
    ·rw [if_pos k7]
     cases both
     ·rw [if_neg (by simp), h.call]
      repeat (conv=>arg 2;whnf;arg 2;tactic=>first|exact g1)
      conv => arg 2; whnf
      exact .s0000 ..
     ·rcases hlead with rfl | rfl
      ·rw [show (3 : Int) - 1 = IntKind.i64.wrap (3 - 1) from rfl]
       simp only [Bool.true_and]
       cases hup : a2.up
       ·rw [show (WorldM.nd ⟨a1, a2, term, 1, true, nets, done⟩ (IntKind.i64.wrap (3 - 1))).up = false from hup, if_neg (by simp), h.call]
        repeat (conv=>arg 2;whnf;arg 2;tactic=>first|exact g1|exact hup)
        conv => arg 2; whnf
        exact .s0000 ..
       ·rw [show (WorldM.nd ⟨a1, a2, term, 1, true, nets, done⟩ (IntKind.i64.wrap (3 - 1))).up = true from hup, if_pos rfl]
        obtain ⟨r, hq, hr⟩ := ex_of (elead (IntKind.i64.wrap (3 - 1)) (by decide))
        generalize leadM _ _ = w' at hr ⊢
        rw [h.call]
        repeat (conv=>arg 2;whnf;arg 2;tactic=>first|exact g1|exact hup)
        conv => arg 2; whnf; arg 2; tactic => exact hq
        cases hr
        ·conv => arg 2; whnf
         exact .s0000 ..
        ·conv => arg 2; whnf
         exact .s000R ..
      ·rw [show (3 : Int) - 2 = IntKind.i64.wrap (3 - 2) from rfl]
       simp only [Bool.true_and]
       cases hup : a1.up
       ·rw [show (WorldM.nd ⟨a1, a2, term, 2, true, nets, done⟩ (IntKind.i64.wrap (3 - 2))).up = false from hup, if_neg (by simp), h.call]
        repeat (conv=>arg 2;whnf;arg 2;tactic=>first|exact g1|exact hup)
        conv => arg 2; whnf
        exact .s0000 ..
       ·rw [show (WorldM.nd ⟨a1, a2, term, 2, true, nets, done⟩ (IntKind.i64.wrap (3 - 2))).up = true from hup, if_pos rfl]
        obtain ⟨r, hq, hr⟩ := ex_of (elead (IntKind.i64.wrap (3 - 2)) (by decide))
        generalize leadM _ _ = w' at hr ⊢
        rw [h.call]
        repeat (conv=>arg 2;whnf;arg 2;tactic=>first|exact g1|exact hup)
        conv => arg 2; whnf; arg 2; tactic => exact hq
        cases hr
        ·conv => arg 2; whnf
         exact .s0000 ..
        ·conv => arg 2; whnf
         exact .s000R ..
    ·rw [if_neg k7]
     by_cases k8 : ek = 8
     ·rw [if_pos k8]
      cases both
      ·rw [if_neg (by simp), h.call]
       repeat (conv=>arg 2;whnf;arg 2;tactic=>first|exact g1)
       conv => arg 2; whnf
       exact .s0000 ..
      ·rcases hlead with rfl | rfl
       ·simp only [Bool.true_and]
        cases hup : a1.up
        ·rw [show (WorldM.nd ⟨a1, a2, term, 1, true, nets, done⟩ 1).up = false from hup, if_neg (by simp), h.call]
         repeat (conv=>arg 2;whnf;arg 2;tactic=>first|exact g1|exact hup)
         conv => arg 2; whnf
         exact .s0000 ..
        ·rw [show (WorldM.nd ⟨a1, a2, term, 1, true, nets, done⟩ 1).up = true from hup, if_pos rfl]
         obtain ⟨r, hq, hr⟩ := ex_of (elead 1 (by decide))
         generalize leadM _ _ = w' at hr ⊢
         rw [h.call]
         repeat (conv=>arg 2;whnf;arg 2;tactic=>first|exact g1|exact hup)
         conv => arg 2; whnf; arg 2; tactic => exact hq
         cases hr
         ·conv => arg 2; whnf
          exact .s0000 ..
         ·conv => arg 2; whnf
          exact .s000R ..
       ·simp only [Bool.true_and]
        cases hup : a2.up
        ·rw [show (WorldM.nd ⟨a1, a2, term, 2, true, nets, done⟩ 2).up = false from hup, if_neg (by simp), h.call]
         repeat (conv=>arg 2;whnf;arg 2;tactic=>first|exact g1|exact hup)
         conv => arg 2; whnf
         exact .s0000 ..
        ·rw [show (WorldM.nd ⟨a1, a2, term, 2, true, nets, done⟩ 2).up = true from hup, if_pos rfl]
         obtain ⟨r, hq, hr⟩ := ex_of (elead 2 (by decide))
         generalize leadM _ _ = w' at hr ⊢
         rw [h.call]
         repeat (conv=>arg 2;whnf;arg 2;tactic=>first|exact g1|exact hup)
         conv => arg 2; whnf; arg 2; tactic => exact hq
         cases hr
         ·conv => arg 2; whnf
          exact .s0000 ..
         ·conv => arg 2; whnf
          exact .s000R ..
     ·rw [if_neg k8]
      by_cases k9 : ek = 9
      ·rw [if_pos k9]
       unfold joinM
       rcases hlead with rfl | rfl
       ·cases hup : a1.up
        ·rw [show (WorldM.nd ⟨a1, a2, term, 1, both, nets, done⟩ 1).up = false from hup, if_neg (by simp), h.call]
         repeat (conv=>arg 2;whnf;arg 2;tactic=>first|exact g1|exact hup)
         conv => arg 2; whnf
         exact .s0000 ..
        ·rw [show (WorldM.nd ⟨a1, a2, term, 1, both, nets, done⟩ 1).up = true from hup, if_pos rfl]
         have hln : ((a1.ops.map opD).length : Nat) = a1.ops.length := List.length_map ..
         have hol := hw.o1.l
         simp only at hol
         rw [show joinMsg ⟨a1, a2, term, 1, both, nets, done⟩ = ⟨3, IntKind.i64.wrap (3 - 1), a1.term, ((a1.ops.map opD).length : Nat), noOp, a1.ops⟩ from by rw [hln]; rfl]
         have es := ev_sendH h ⟨a1, a2, term, 1, both, nets, done⟩ cn 0 ⟨3, IntKind.i64.wrap (3 - 1), a1.term, ((a1.ops.map opD).length : Nat), noOp, a1.ops⟩ hl
         have hcap : ∀ x : List (List D), x.length ≤ 20 → decide ((0 + x.length) * 64 ≤ 140737488355328) = true := fun x hx => decide_eq_true (by omega)
         unfold sendM
         simp only
         cases hc2 : decide ((nets.length : Int) < 12)
         ·rw [hc2] at es
          rw [h.call]
          repeat (conv=>arg 2;whnf;arg 2;tactic=>first|exact g1|exact hup|exact es|exact hcap _ (by rw [hln]; exact hol)|exact gS)
          conv => arg 2; whnf
          exact .s0000 ..
         ·rw [hc2] at es
          rw [h.call]
          repeat (conv=>arg 2;whnf;arg 2;tactic=>first|exact g1|exact hup|exact es|exact hcap _ (by rw [hln]; exact hol)|exact gS)
          conv => arg 2; whnf
          exact .s00D0 ..
       ·cases hup : a2.up
        ·rw [show (WorldM.nd ⟨a1, a2, term, 2, both, nets, done⟩ 2).up = false from hup, if_neg (by simp), h.call]
         repeat (conv=>arg 2;whnf;arg 2;tactic=>first|exact g1|exact hup)
         conv => arg 2; whnf
         exact .s0000 ..
        ·rw [show (WorldM.nd ⟨a1, a2, term, 2, both, nets, done⟩ 2).up = true from hup, if_pos rfl]
         have hln : ((a2.ops.map opD).length : Nat) = a2.ops.length := List.length_map ..
         have hol := hw.o2.l
         simp only at hol
         rw [show joinMsg ⟨a1, a2, term, 2, both, nets, done⟩ = ⟨3, IntKind.i64.wrap (3 - 2), a2.term, ((a2.ops.map opD).length : Nat), noOp, a2.ops⟩ from by rw [hln]; rfl]
         have es := ev_sendH h ⟨a1, a2, term, 2, both, nets, done⟩ cn 0 ⟨3, IntKind.i64.wrap (3 - 2), a2.term, ((a2.ops.map opD).length : Nat), noOp, a2.ops⟩ hl
         have hcap : ∀ x : List (List D), x.length ≤ 20 → decide ((0 + x.length) * 64 ≤ 140737488355328) = true := fun x hx => decide_eq_true (by omega)
         unfold sendM
         simp only
         cases hc2 : decide ((nets.length : Int) < 12)
         ·rw [hc2] at es
          rw [h.call]
          repeat (conv=>arg 2;whnf;arg 2;tactic=>first|exact g1|exact hup|exact es|exact hcap _ (by rw [hln]; exact hol)|exact gS)
          conv => arg 2; whnf
          exact .s0000 ..
         ·rw [hc2] at es
          rw [h.call]
          repeat (conv=>arg 2;whnf;arg 2;tactic=>first|exact g1|exact hup|exact es|exact hcap _ (by rw [hln]; exact hol)|exact gS)
          conv => arg 2; whnf
          exact .s00D0 ..
      ·rw [if_neg k9, h.call]
       repeat (conv=>arg 2;whnf;arg 2;tactic=>first|exact g1)
       conv => arg 2; whnf
       exact .s0000 ..
end
end Go.Gn

