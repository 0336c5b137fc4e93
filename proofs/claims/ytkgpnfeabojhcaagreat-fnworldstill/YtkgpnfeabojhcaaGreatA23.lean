/- Part 23 of a proof: an evaluator of the program, proved sound, and what it answers. -/
import Derived.Test.YtkgpnfeabojhcaaGreatA18
import Derived.Test.YtkgpnfeabojhcaaGreatA22
set_option linter.all false
namespace Go.Gn
open Go
set_option maxRecDepth 100000
set_option maxHeartbeats 8000000
inductive RB (w : WorldM) : Option (AV × List Obj) → Prop
 | s0000 (c1 c2 c3 c4 : Nat) : RB w (some (wV w 3 4, [wB w 1 2, oR c1 w.n1.ops, oR c2 w.n2.ops, nR c3 w.nets, oR c4 w.done]))
 | s000R (c1 c2 c3 c4 : Nat) (b4 : Nat) (x4 : List (List D)) : RB w (some (wV w 3 5, [wB w 1 2, oR c1 w.n1.ops, oR c2 w.n2.ops, nR c3 w.nets, .row 5 0 b4 x4, oR c4 w.done]))
 | s00D0 (c1 c2 c3 c4 : Nat) : RB w (some (wV w 5 4, [wB w 1 2, oR c1 w.n1.ops, oR c2 w.n2.ops, .dead, oR c4 w.done, nR c3 w.nets]))
 | sD000 (c1 c2 c3 c4 : Nat) : RB w (some (wV w 3 4, [wB w 5 2, .dead, oR c2 w.n2.ops, nR c3 w.nets, oR c4 w.done, oR c1 w.n1.ops]))
 | sR000 (c1 c2 c3 c4 : Nat) (b1 : Nat) (x1 : List (List D)) : RB w (some (wV w 3 4, [wB w 5 2, .row 5 0 b1 x1, oR c2 w.n2.ops, nR c3 w.nets, oR c4 w.done, oR c1 w.n1.ops]))
 | s0D00 (c1 c2 c3 c4 : Nat) : RB w (some (wV w 3 4, [wB w 1 5, oR c1 w.n1.ops, .dead, nR c3 w.nets, oR c4 w.done, oR c2 w.n2.ops]))
 | s0R00 (c1 c2 c3 c4 : Nat) (b2 : Nat) (x2 : List (List D)) : RB w (some (wV w 3 4, [wB w 1 5, oR c1 w.n1.ops, .row 5 0 b2 x2, nR c3 w.nets, oR c4 w.done, oR c2 w.n2.ops]))
 | sD0D0 (c1 c2 c3 c4 : Nat) : RB w (some (wV w 6 4, [wB w 5 2, .dead, oR c2 w.n2.ops, .dead, oR c4 w.done, oR c1 w.n1.ops, nR c3 w.nets]))
 | sR0D0 (c1 c2 c3 c4 : Nat) (b1 : Nat) (x1 : List (List D)) : RB w (some (wV w 6 4, [wB w 5 2, .row 5 0 b1 x1, oR c2 w.n2.ops, .dead, oR c4 w.done, oR c1 w.n1.ops, nR c3 w.nets]))
 | s0DD0 (c1 c2 c3 c4 : Nat) : RB w (some (wV w 6 4, [wB w 1 5, oR c1 w.n1.ops, .dead, .dead, oR c4 w.done, oR c2 w.n2.ops, nR c3 w.nets]))
 | s0RD0 (c1 c2 c3 c4 : Nat) (b2 : Nat) (x2 : List (List D)) : RB w (some (wV w 6 4, [wB w 1 5, oR c1 w.n1.ops, .row 5 0 b2 x2, .dead, oR c4 w.done, oR c2 w.n2.ops, nR c3 w.nets]))
theorem hearK_no {n : NodeM} {id : Int} {m : MsgM} (h : (hearK n id m).2.2 = false) : (hearK n id m).1 = n := by
 unfold hearK at h ⊢
 split
 ·rename_i h1
  rw [if_pos h1] at h
  cases hc : (hearCopy n m).2
  ·simp only [hc, Bool.false_eq_true, if_false]
   unfold hearCopy at hc ⊢
   split at hc
   ·rename_i h2; rw [if_pos h2]
   ·rename_i h2
    rw [if_neg h2]
    split at hc
    ·rename_i h3; rw [if_pos h3]
    ·rename_i h3
     rw [if_neg h3]
     split at hc
     ·rename_i h4; rw [if_pos h4]
     ·cases hc
  ·simp only [hc, if_true, Bool.true_eq_false] at h
 ·rename_i h1
  rw [if_neg h1] at h
  split
  ·rename_i h2
   rw [if_pos h2] at h
   cases hc : (hearJoin n m).2
   ·simp only [hc, Bool.false_eq_true, if_false]
    unfold hearJoin at hc ⊢
    split at hc
    ·rename_i h2; rw [if_pos h2]
    ·split at hc <;> cases hc
   ·simp only [hc, if_true, Bool.true_eq_false] at h
  ·rfl
theorem doneM_t {w : WorldM} {os : List OpM} {k : Nat} (h : (decide ((k : Int) > (w.done.length : Int)) && decide ((k : Int) ≤ (os.length : Int))) = true) : doneM w os (k : Nat) = { w with done := os.take k } := by
 unfold doneM; rw [if_pos h]; rfl
theorem doneM_f {w : WorldM} {os : List OpM} {k : Nat} (h : (decide ((k : Int) > (w.done.length : Int)) && decide ((k : Int) ≤ (os.length : Int))) = false) : doneM w os (k : Nat) = w := by
 unfold doneM; rw [if_neg (by rw [h]; simp)]
section
variable {W : CallF} {L : LoopF} {E : EqF} {T : Prop → Bool} (h : IsK G W L E T)
include h
theorem ev_doneT (w : WorldM) (cn : Nat) (n : NodeM) (j : Nat) (hj : (j = 1 ∧ n.ops = w.n1.ops) ∨ (j = 2 ∧ n.ops = w.n2.ops)) (k : Nat) (hk : n.ops.length < 2000000) (hc : (decide ((k : Int) > (w.done.length : Int)) && decide ((k : Int) ≤ (n.ops.length : Int))) = true) : W f_spec_l22Done [wV w 3 4, nodeW n j, .int .i64 (k : Nat)] (wS w cn) =
  some (wV w 3 5, [wB w 1 2, opsRow w.n1.ops, opsRow w.n2.ops, nR cn w.nets, opsRow w.done, oR 0 (n.ops.take k)]) := by
 rw [ev_l22Done h w cn n j hj k hk, if_pos hc]
theorem ev_doneF (w : WorldM) (cn : Nat) (n : NodeM) (j : Nat) (hj : (j = 1 ∧ n.ops = w.n1.ops) ∨ (j = 2 ∧ n.ops = w.n2.ops)) (k : Nat) (hk : n.ops.length < 2000000) (hc : (decide ((k : Int) > (w.done.length : Int)) && decide ((k : Int) ≤ (n.ops.length : Int))) = false) : W f_spec_l22Done [wV w 3 4, nodeW n j, .int .i64 (k : Nat)] (wS w cn) =
  some (wV w 3 4, wS w cn) := by
 rw [ev_l22Done h w cn n j hj k hk, if_neg (by rw [hc]; simp)]
theorem ev_l22Bring1 (w : WorldM) (hw : WG w) (cn : Nat) (m : MsgM) (hm : MsgG m) (hto : m.to = 1) : RB (bringM w m) (W f_spec_l22Bring [wV w 3 4, msgA m] (wS w cn)) := by
 have hl := hw.nl
 have n1 : ∀ {a b : Int}, ¬ a = b → (a == b) = false := fun hab => by simp [hab]
 have y1 : ∀ {a b : Int}, a = b → (a == b) = true := fun hab => by simp [hab]
 have n2 : ∀ {a b : Int}, ¬ a = b → (a != b) = true := fun hab => by simp [hab]
 have y2 : ∀ {a b : Int}, a = b → (a != b) = false := fun hab => by simp [hab]
 have hms := hm.sz
 have hbb : ∀ b : Bool, b = false ∨ b = true := fun b => by cases b <;> simp
 ·have eh := ev_l21Hear h w.n1 hw.o1.sz hw.o1.run hw.o1.l 1 (by omega) m hms (fun hk => ⟨hm.copy hk, hm.n.2⟩)
  have hnd : w.nd m.to = w.n1 := by rw [hto]; rfl
  have hgG := fun hk hok => hearK_G hw.o1 hw.t1 (id := 1) (by omega) hm hk hok
  unfold bringM
  rw [hnd, hto]
  obtain ⟨kind, to, term, mn, op, ops⟩ := m
  simp only at hto hm hgG
  subst hto
  cases hup : w.n1.up
  ·rw [if_neg (by simp), h.call]
   repeat (conv=>arg 2;whnf;arg 2;tactic=>first|exact congrArg not hup)
   conv => arg 2; whnf
   exact .s0000 ..
  ·rw [if_pos rfl]
   by_cases hk : kind = 1 ∨ kind = 3
   ·have ek : (kind = 1 ∧ (kind == 1) = true) ∨ ((kind == 1) = false ∧ (kind == 3) = true) := by
     rcases hk with rfl | rfl
     ·exact .inl ⟨rfl, rfl⟩
     ·exact .inr ⟨rfl, rfl⟩
    rw [if_pos hk]
    have hg := hgG hk
    cases hok : (hearK w.n1 1 ⟨kind, 1, term, mn, op, ops⟩).2.2
    ·rw [if_neg (by simp)]
     simp only [hearK_no hok, hok] at eh
     rcases eh with e | ⟨c, x, _, e, hx⟩
     ·rcases ek with ⟨_, k1⟩ | ⟨k1, k3⟩
      ·rw [h.call]
       repeat (conv=>arg 2;whnf;arg 2;tactic=>first|exact g1|exact e|exact congrArg not hup)
       conv => arg 2; whnf
       exact .s0000 ..
      ·rw [h.call]
       repeat (conv=>arg 2;whnf;arg 2;tactic=>first|exact k1|exact k3|exact e|exact congrArg not hup)
       conv => arg 2; whnf
       exact .s0000 ..
     ·rcases ek with ⟨_, k1⟩ | ⟨k1, k3⟩
      ·rw [h.call]
       rcases hx with rfl | rfl
       ·repeat (conv=>arg 2;whnf;arg 2;tactic=>first|exact g1|exact e|exact congrArg not hup)
        conv => arg 2; whnf
        exact .sD000 ..
       ·repeat (conv=>arg 2;whnf;arg 2;tactic=>first|exact g1|exact e|exact congrArg not hup)
        conv => arg 2; whnf
        exact .sR000 ..
      ·rw [h.call]
       rcases hx with rfl | rfl
       ·repeat (conv=>arg 2;whnf;arg 2;tactic=>first|exact k1|exact k3|exact e|exact congrArg not hup)
        conv => arg 2; whnf
        exact .sD000 ..
       ·repeat (conv=>arg 2;whnf;arg 2;tactic=>first|exact k1|exact k3|exact e|exact congrArg not hup)
        conv => arg 2; whnf
        exact .sR000 ..
    ·rw [if_pos rfl]
     obtain ⟨b1, b2, b3, b4⟩ := hg hok
     simp only [hok] at eh
     generalize hearK w.n1 1 ⟨kind, 1, term, mn, op, ops⟩ = r at *
     obtain ⟨r1, r2, r3⟩ := r
     simp only at *
     have es := ev_send h (w.setN 1 r1) cn r2 .nils (.inl ⟨rfl, b4⟩) hl
     unfold sendM
     cases hc : decide (((w.setN 1 r1).nets.length : Int) < 12)
     ·rw [hc] at es
      rcases eh with e | ⟨c, x, _, e, hx⟩
      ·rcases ek with ⟨_, k1⟩ | ⟨k1, k3⟩
       ·rw [h.call]
        repeat (conv=>arg 2;whnf;arg 2;tactic=>first|exact g1|exact e|exact es|exact congrArg not hup)
        conv => arg 2; whnf
        exact .s0000 ..
       ·rw [h.call]
        repeat (conv=>arg 2;whnf;arg 2;tactic=>first|exact k1|exact k3|exact e|exact es|exact congrArg not hup)
        conv => arg 2; whnf
        exact .s0000 ..
      ·rcases ek with ⟨_, k1⟩ | ⟨k1, k3⟩
       ·rw [h.call]
        rcases hx with rfl | rfl
        ·repeat (conv=>arg 2;whnf;arg 2;tactic=>first|exact g1|exact e|exact es|exact congrArg not hup)
         conv => arg 2; whnf
         exact .sD000 ..
        ·repeat (conv=>arg 2;whnf;arg 2;tactic=>first|exact g1|exact e|exact es|exact congrArg not hup)
         conv => arg 2; whnf
         exact .sR000 ..
       ·rw [h.call]
        rcases hx with rfl | rfl
        ·repeat (conv=>arg 2;whnf;arg 2;tactic=>first|exact k1|exact k3|exact e|exact es|exact congrArg not hup)
         conv => arg 2; whnf
         exact .sD000 ..
        ·repeat (conv=>arg 2;whnf;arg 2;tactic=>first|exact k1|exact k3|exact e|exact es|exact congrArg not hup)
         conv => arg 2; whnf
         exact .sR000 ..
     ·rw [hc] at es
      rcases eh with e | ⟨c, x, _, e, hx⟩
      ·rcases ek with ⟨_, k1⟩ | ⟨k1, k3⟩
       ·rw [h.call]
        repeat (conv=>arg 2;whnf;arg 2;tactic=>first|exact g1|exact e|exact es|exact congrArg not hup)
        conv => arg 2; whnf
        exact .s00D0 ..
       ·rw [h.call]
        repeat (conv=>arg 2;whnf;arg 2;tactic=>first|exact k1|exact k3|exact e|exact es|exact congrArg not hup)
        conv => arg 2; whnf
        exact .s00D0 ..
      ·rcases ek with ⟨_, k1⟩ | ⟨k1, k3⟩
       ·rw [h.call]
        rcases hx with rfl | rfl
        ·repeat (conv=>arg 2;whnf;arg 2;tactic=>first|exact g1|exact e|exact es|exact congrArg not hup)
         conv => arg 2; whnf
         exact .sD0D0 ..
        ·repeat (conv=>arg 2;whnf;arg 2;tactic=>first|exact g1|exact e|exact es|exact congrArg not hup)
         conv => arg 2; whnf
         exact .sR0D0 ..
       ·rw [h.call]
        rcases hx with rfl | rfl
        ·repeat (conv=>arg 2;whnf;arg 2;tactic=>first|exact k1|exact k3|exact e|exact es|exact congrArg not hup)
         conv => arg 2; whnf
         exact .sD0D0 ..
        ·repeat (conv=>arg 2;whnf;arg 2;tactic=>first|exact k1|exact k3|exact e|exact es|exact congrArg not hup)
         conv => arg 2; whnf
         exact .sR0D0 ..
   ·have k1 : ¬ kind = 1 := fun e => hk (.inl e)
    have k3 : ¬ kind = 3 := fun e => hk (.inr e)
    rw [if_neg hk]
    simp only
    by_cases ht : term = w.n1.term
    ·rcases hbb w.n1.leads with hle | hle
     ·rw [if_neg (fun hh => by rw [hle] at hh; cases hh.2), h.call]
      repeat (conv=>arg 2;whnf;arg 2;tactic=>first|exact g1|exact y2 ht|exact congrArg not hup|exact congrArg not hle)
      conv => arg 2; whnf
      exact .s0000 ..
     ·rw [if_pos ⟨ht, hle⟩]
      have hn0 := hm.n
      simp only at hn0
      obtain ⟨k, rfl⟩ : ∃ k : Nat, mn = k := ⟨mn.toNat, by omega⟩
      have hln : ((w.n1.ops.map opD).length : Nat) = w.n1.ops.length := List.length_map ..
      have hol : w.n1.ops.length < 2000000 := by have := hw.o1.l; omega
      have ed0 := fun hc => ev_doneF h w cn w.n1 1 (by first | exact .inl ⟨rfl, rfl⟩ | exact .inr ⟨rfl, rfl⟩) k hol hc
      have ed0t := fun hc => ev_doneT h w cn w.n1 1 (by first | exact .inl ⟨rfl, rfl⟩ | exact .inr ⟨rfl, rfl⟩) k hol hc
      have ed1 := fun hc => ev_doneF h ⟨(w.setN 1 { w.n1 with alone := false }).n1, (w.setN 1 { w.n1 with alone := false }).n2, w.term, w.lead, true, w.nets, w.done⟩ cn w.n1 1 (by first | exact .inl ⟨rfl, rfl⟩ | exact .inr ⟨rfl, rfl⟩) k hol hc
      have ed1t := fun hc => ev_doneT h ⟨(w.setN 1 { w.n1 with alone := false }).n1, (w.setN 1 { w.n1 with alone := false }).n2, w.term, w.lead, true, w.nets, w.done⟩ cn w.n1 1 (by first | exact .inl ⟨rfl, rfl⟩ | exact .inr ⟨rfl, rfl⟩) k hol hc
      have hnope : ∀ {b1 b2 b3 : Bool}, (b1 && (b2 && b3)) = false → (b1 = true → b2 = true → b3 = false) ∧ True := by
       intro b1 b2 b3 hb
       exact ⟨fun e1 e2 => by subst e1 e2; simpa using hb, trivial⟩
      have hm1 : (((k : Nat) : Int) == ((w.n1.ops.map opD).length : Nat)) = decide (((k : Nat) : Int) = (w.n1.ops.length : Nat)) := by rw [hln]; rfl
      by_cases k4 : kind = 4
      ·cases hnn : decide (((k : Nat) : Int) = (w.n1.ops.length : Nat))
       ·rw [hnn] at hm1
        rw [if_neg (fun hh => (of_decide_eq_false hnn) hh.2.1)]
        cases hd : decide ((k : Int) > (w.done.length : Int)) && decide ((k : Int) ≤ (w.n1.ops.length : Int))
        ·rw [doneM_f]
         ·rw [h.call]
          repeat (conv=>arg 2;whnf;arg 2;tactic=>first|exact g1|exact y2 ht|exact hm1|exact ed0 hd|exact congrArg not hup|exact congrArg not hle)
          conv => arg 2; whnf
          exact .s0000 ..
         ·exact hd
        ·rw [doneM_t]
         ·rw [h.call]
          repeat (conv=>arg 2;whnf;arg 2;tactic=>first|exact g1|exact y2 ht|exact hm1|exact ed0t hd|exact congrArg not hup|exact congrArg not hle)
          conv => arg 2; whnf
          exact .s000R ..
         ·exact hd
       ·rw [hnn] at hm1
        rcases hbb w.n1.alone with hal | hal
        ·rw [if_neg (fun hh => by rw [hal] at hh; cases hh.2.2)]
         cases hd : decide ((k : Int) > (w.done.length : Int)) && decide ((k : Int) ≤ (w.n1.ops.length : Int))
         ·rw [doneM_f]
          ·rw [h.call]
           repeat (conv=>arg 2;whnf;arg 2;tactic=>first|exact g1|exact y2 ht|exact hm1|exact hal|exact ed0 hd|exact congrArg not hup|exact congrArg not hle)
           conv => arg 2; whnf
           exact .s0000 ..
          ·exact hd
         ·rw [doneM_t]
          ·rw [h.call]
           repeat (conv=>arg 2;whnf;arg 2;tactic=>first|exact g1|exact y2 ht|exact hm1|exact hal|exact ed0t hd|exact congrArg not hup|exact congrArg not hle)
           conv => arg 2; whnf
           exact .s000R ..
          ·exact hd
        ·rw [if_pos ⟨k4, of_decide_eq_true hnn, hal⟩]
         cases hd : decide ((k : Int) > (w.done.length : Int)) && decide ((k : Int) ≤ (w.n1.ops.length : Int))
         ·rw [doneM_f]
          ·rw [h.call]
           repeat (conv=>arg 2;whnf;arg 2;tactic=>first|exact g1|exact y2 ht|exact hm1|exact hal|exact ed1 hd|exact congrArg not hup|exact congrArg not hle)
           conv => arg 2; whnf
           exact .s0000 ..
          ·exact hd
         ·rw [doneM_t]
          ·rw [h.call]
           repeat (conv=>arg 2;whnf;arg 2;tactic=>first|exact g1|exact y2 ht|exact hm1|exact hal|exact ed1t hd|exact congrArg not hup|exact congrArg not hle)
           conv => arg 2; whnf
           exact .s000R ..
          ·exact hd
      ·rw [if_neg (fun hh => k4 hh.1)]
       cases hd : decide ((k : Int) > (w.done.length : Int)) && decide ((k : Int) ≤ (w.n1.ops.length : Int))
       ·rw [doneM_f]
        ·rw [h.call]
         repeat (conv=>arg 2;whnf;arg 2;tactic=>first|exact g1|exact y2 ht|exact ed0 hd|exact congrArg not hup|exact congrArg not hle)
         conv => arg 2; whnf
         exact .s0000 ..
        ·exact hd
       ·rw [doneM_t]
        ·rw [h.call]
         repeat (conv=>arg 2;whnf;arg 2;tactic=>first|exact g1|exact y2 ht|exact ed0t hd|exact congrArg not hup|exact congrArg not hle)
         conv => arg 2; whnf
         exact .s000R ..
        ·exact hd
    ·rw [if_neg (fun hh => ht hh.1), h.call]
     repeat (conv=>arg 2;whnf;arg 2;tactic=>first|exact g1|exact n2 ht|exact congrArg not hup)
     conv => arg 2; whnf
     exact .s0000 ..
theorem ev_l22Bring2 (w : WorldM) (hw : WG w) (cn : Nat) (m : MsgM) (hm : MsgG m) (hto : m.to = 2) : RB (bringM w m) (W f_spec_l22Bring [wV w 3 4, msgA m] (wS w cn)) := by
 have hl := hw.nl
 have n1 : ∀ {a b : Int}, ¬ a = b → (a == b) = false := fun hab => by simp [hab]
 have y1 : ∀ {a b : Int}, a = b → (a == b) = true := fun hab => by simp [hab]
 have n2 : ∀ {a b : Int}, ¬ a = b → (a != b) = true := fun hab => by simp [hab]
 have y2 : ∀ {a b : Int}, a = b → (a != b) = false := fun hab => by simp [hab]
 have hms := hm.sz
 have hbb : ∀ b : Bool, b = false ∨ b = true := fun b => by cases b <;> simp
 ·have eh := ev_l21Hear h w.n2 hw.o2.sz hw.o2.run hw.o2.l 2 (by omega) m hms (fun hk => ⟨hm.copy hk, hm.n.2⟩)
  have hnd : w.nd m.to = w.n2 := by rw [hto]; rfl
  have hgG := fun hk hok => hearK_G hw.o2 hw.t2 (id := 2) (by omega) hm hk hok
  unfold bringM
  rw [hnd, hto]
  obtain ⟨kind, to, term, mn, op, ops⟩ := m
  simp only at hto hm hgG
  subst hto
  cases hup : w.n2.up
  ·rw [if_neg (by simp), h.call]
   repeat (conv=>arg 2;whnf;arg 2;tactic=>first|exact congrArg not hup)
   conv => arg 2; whnf
   exact .s0000 ..
  ·rw [if_pos rfl]
   by_cases hk : kind = 1 ∨ kind = 3
   ·have ek : (kind = 1 ∧ (kind == 1) = true) ∨ ((kind == 1) = false ∧ (kind == 3) = true) := by
     rcases hk with rfl | rfl
     ·exact .inl ⟨rfl, rfl⟩
     ·exact .inr ⟨rfl, rfl⟩
    rw [if_pos hk]
    have hg := hgG hk
    cases hok : (hearK w.n2 2 ⟨kind, 2, term, mn, op, ops⟩).2.2
    ·rw [if_neg (by simp)]
     simp only [hearK_no hok, hok] at eh
     rcases eh with e | ⟨c, x, _, e, hx⟩
     ·rcases ek with ⟨_, k1⟩ | ⟨k1, k3⟩
      ·rw [h.call]
       repeat (conv=>arg 2;whnf;arg 2;tactic=>first|exact g1|exact e|exact congrArg not hup)
       conv => arg 2; whnf
       exact .s0000 ..
      ·rw [h.call]
       repeat (conv=>arg 2;whnf;arg 2;tactic=>first|exact k1|exact k3|exact e|exact congrArg not hup)
       conv => arg 2; whnf
       exact .s0000 ..
     ·rcases ek with ⟨_, k1⟩ | ⟨k1, k3⟩
      ·rw [h.call]
       rcases hx with rfl | rfl
       ·repeat (conv=>arg 2;whnf;arg 2;tactic=>first|exact g1|exact e|exact congrArg not hup)
        conv => arg 2; whnf
        exact .s0D00 ..
       ·repeat (conv=>arg 2;whnf;arg 2;tactic=>first|exact g1|exact e|exact congrArg not hup)
        conv => arg 2; whnf
        exact .s0R00 ..
      ·rw [h.call]
       rcases hx with rfl | rfl
       ·repeat (conv=>arg 2;whnf;arg 2;tactic=>first|exact k1|exact k3|exact e|exact congrArg not hup)
        conv => arg 2; whnf
        exact .s0D00 ..
       ·repeat (conv=>arg 2;whnf;arg 2;tactic=>first|exact k1|exact k3|exact e|exact congrArg not hup)
        conv => arg 2; whnf
        exact .s0R00 ..
    ·rw [if_pos rfl]
     obtain ⟨b1, b2, b3, b4⟩ := hg hok
     simp only [hok] at eh
     generalize hearK w.n2 2 ⟨kind, 2, term, mn, op, ops⟩ = r at *
     obtain ⟨r1, r2, r3⟩ := r
     simp only at *
     have es := ev_send h (w.setN 2 r1) cn r2 .nils (.inl ⟨rfl, b4⟩) hl
     unfold sendM
     cases hc : decide (((w.setN 2 r1).nets.length : Int) < 12)
     ·rw [hc] at es
      rcases eh with e | ⟨c, x, _, e, hx⟩
      ·rcases ek with ⟨_, k1⟩ | ⟨k1, k3⟩
       ·rw [h.call]
        repeat (conv=>arg 2;whnf;arg 2;tactic=>first|exact g1|exact e|exact es|exact congrArg not hup)
        conv => arg 2; whnf
        exact .s0000 ..
       ·rw [h.call]
        repeat (conv=>arg 2;whnf;arg 2;tactic=>first|exact k1|exact k3|exact e|exact es|exact congrArg not hup)
        conv => arg 2; whnf
        exact .s0000 ..
      ·rcases ek with ⟨_, k1⟩ | ⟨k1, k3⟩
       ·rw [h.call]
        rcases hx with rfl | rfl
        ·repeat (conv=>arg 2;whnf;arg 2;tactic=>first|exact g1|exact e|exact es|exact congrArg not hup)
         conv => arg 2; whnf
         exact .s0D00 ..
        ·repeat (conv=>arg 2;whnf;arg 2;tactic=>first|exact g1|exact e|exact es|exact congrArg not hup)
         conv => arg 2; whnf
         exact .s0R00 ..
       ·rw [h.call]
        rcases hx with rfl | rfl
        ·repeat (conv=>arg 2;whnf;arg 2;tactic=>first|exact k1|exact k3|exact e|exact es|exact congrArg not hup)
         conv => arg 2; whnf
         exact .s0D00 ..
        ·repeat (conv=>arg 2;whnf;arg 2;tactic=>first|exact k1|exact k3|exact e|exact es|exact congrArg not hup)
         conv => arg 2; whnf
         exact .s0R00 ..
     ·rw [hc] at es
      rcases eh with e | ⟨c, x, _, e, hx⟩
      ·rcases ek with ⟨_, k1⟩ | ⟨k1, k3⟩
       ·rw [h.call]
        repeat (conv=>arg 2;whnf;arg 2;tactic=>first|exact g1|exact e|exact es|exact congrArg not hup)
        conv => arg 2; whnf
        exact .s00D0 ..
       ·rw [h.call]
        repeat (conv=>arg 2;whnf;arg 2;tactic=>first|exact k1|exact k3|exact e|exact es|exact congrArg not hup)
        conv => arg 2; whnf
        exact .s00D0 ..
      ·rcases ek with ⟨_, k1⟩ | ⟨k1, k3⟩
       ·rw [h.call]
        rcases hx with rfl | rfl
        ·repeat (conv=>arg 2;whnf;arg 2;tactic=>first|exact g1|exact e|exact es|exact congrArg not hup)
         conv => arg 2; whnf
         exact .s0DD0 ..
        ·repeat (conv=>arg 2;whnf;arg 2;tactic=>first|exact g1|exact e|exact es|exact congrArg not hup)
         conv => arg 2; whnf
         exact .s0RD0 ..
       ·rw [h.call]
        rcases hx with rfl | rfl
        ·repeat (conv=>arg 2;whnf;arg 2;tactic=>first|exact k1|exact k3|exact e|exact es|exact congrArg not hup)
         conv => arg 2; whnf
         exact .s0DD0 ..
        ·repeat (conv=>arg 2;whnf;arg 2;tactic=>first|exact k1|exact k3|exact e|exact es|exact congrArg not hup)
         conv => arg 2; whnf
         exact .s0RD0 ..
   ·have k1 : ¬ kind = 1 := fun e => hk (.inl e)
    have k3 : ¬ kind = 3 := fun e => hk (.inr e)
    rw [if_neg hk]
    simp only
    by_cases ht : term = w.n2.term
    ·rcases hbb w.n2.leads with hle | hle
     ·rw [if_neg (fun hh => by rw [hle] at hh; cases hh.2), h.call]
      repeat (conv=>arg 2;whnf;arg 2;tactic=>first|exact g1|exact y2 ht|exact congrArg not hup|exact congrArg not hle)
      conv => arg 2; whnf
      exact .s0000 ..
     ·rw [if_pos ⟨ht, hle⟩]
      have hn0 := hm.n
      simp only at hn0
      obtain ⟨k, rfl⟩ : ∃ k : Nat, mn = k := ⟨mn.toNat, by omega⟩
      have hln : ((w.n2.ops.map opD).length : Nat) = w.n2.ops.length := List.length_map ..
      have hol : w.n2.ops.length < 2000000 := by have := hw.o2.l; omega
      have ed0 := fun hc => ev_doneF h w cn w.n2 2 (by first | exact .inl ⟨rfl, rfl⟩ | exact .inr ⟨rfl, rfl⟩) k hol hc
      have ed0t := fun hc => ev_doneT h w cn w.n2 2 (by first | exact .inl ⟨rfl, rfl⟩ | exact .inr ⟨rfl, rfl⟩) k hol hc
      have ed1 := fun hc => ev_doneF h ⟨(w.setN 2 { w.n2 with alone := false }).n1, (w.setN 2 { w.n2 with alone := false }).n2, w.term, w.lead, true, w.nets, w.done⟩ cn w.n2 2 (by first | exact .inl ⟨rfl, rfl⟩ | exact .inr ⟨rfl, rfl⟩) k hol hc
      have ed1t := fun hc => ev_doneT h ⟨(w.setN 2 { w.n2 with alone := false }).n1, (w.setN 2 { w.n2 with alone := false }).n2, w.term, w.lead, true, w.nets, w.done⟩ cn w.n2 2 (by first | exact .inl ⟨rfl, rfl⟩ | exact .inr ⟨rfl, rfl⟩) k hol hc
      have hnope : ∀ {b1 b2 b3 : Bool}, (b1 && (b2 && b3)) = false → (b1 = true → b2 = true → b3 = false) ∧ True := by
       intro b1 b2 b3 hb
       exact ⟨fun e1 e2 => by subst e1 e2; simpa using hb, trivial⟩
      have hm1 : (((k : Nat) : Int) == ((w.n2.ops.map opD).length : Nat)) = decide (((k : Nat) : Int) = (w.n2.ops.length : Nat)) := by rw [hln]; rfl
      by_cases k4 : kind = 4
      ·cases hnn : decide (((k : Nat) : Int) = (w.n2.ops.length : Nat))
       ·rw [hnn] at hm1
        rw [if_neg (fun hh => (of_decide_eq_false hnn) hh.2.1)]
        cases hd : decide ((k : Int) > (w.done.length : Int)) && decide ((k : Int) ≤ (w.n2.ops.length : Int))
        ·rw [doneM_f]
         ·rw [h.call]
          repeat (conv=>arg 2;whnf;arg 2;tactic=>first|exact g1|exact y2 ht|exact hm1|exact ed0 hd|exact congrArg not hup|exact congrArg not hle)
          conv => arg 2; whnf
          exact .s0000 ..
         ·exact hd
        ·rw [doneM_t]
         ·rw [h.call]
          repeat (conv=>arg 2;whnf;arg 2;tactic=>first|exact g1|exact y2 ht|exact hm1|exact ed0t hd|exact congrArg not hup|exact congrArg not hle)
          conv => arg 2; whnf
          exact .s000R ..
         ·exact hd
       ·rw [hnn] at hm1
        rcases hbb w.n2.alone with hal | hal
        ·rw [if_neg (fun hh => by rw [hal] at hh; cases hh.2.2)]
         cases hd : decide ((k : Int) > (w.done.length : Int)) && decide ((k : Int) ≤ (w.n2.ops.length : Int))
         ·rw [doneM_f]
          ·rw [h.call]
           repeat (conv=>arg 2;whnf;arg 2;tactic=>first|exact g1|exact y2 ht|exact hm1|exact hal|exact ed0 hd|exact congrArg not hup|exact congrArg not hle)
           conv => arg 2; whnf
           exact .s0000 ..
          ·exact hd
         ·rw [doneM_t]
          ·rw [h.call]
           repeat (conv=>arg 2;whnf;arg 2;tactic=>first|exact g1|exact y2 ht|exact hm1|exact hal|exact ed0t hd|exact congrArg not hup|exact congrArg not hle)
           conv => arg 2; whnf
           exact .s000R ..
          ·exact hd
        ·rw [if_pos ⟨k4, of_decide_eq_true hnn, hal⟩]
         cases hd : decide ((k : Int) > (w.done.length : Int)) && decide ((k : Int) ≤ (w.n2.ops.length : Int))
         ·rw [doneM_f]
          ·rw [h.call]
           repeat (conv=>arg 2;whnf;arg 2;tactic=>first|exact g1|exact y2 ht|exact hm1|exact hal|exact ed1 hd|exact congrArg not hup|exact congrArg not hle)
           conv => arg 2; whnf
           exact .s0000 ..
          ·exact hd
         ·rw [doneM_t]
          ·rw [h.call]
           repeat (conv=>arg 2;whnf;arg 2;tactic=>first|exact g1|exact y2 ht|exact hm1|exact hal|exact ed1t hd|exact congrArg not hup|exact congrArg not hle)
           conv => arg 2; whnf
           exact .s000R ..
          ·exact hd
      ·rw [if_neg (fun hh => k4 hh.1)]
       cases hd : decide ((k : Int) > (w.done.length : Int)) && decide ((k : Int) ≤ (w.n2.ops.length : Int))
       ·rw [doneM_f]
        ·rw [h.call]
         repeat (conv=>arg 2;whnf;arg 2;tactic=>first|exact g1|exact y2 ht|exact ed0 hd|exact congrArg not hup|exact congrArg not hle)
         conv => arg 2; whnf
         exact .s0000 ..
        ·exact hd
       ·rw [doneM_t]
        ·rw [h.call]
         repeat (conv=>arg 2;whnf;arg 2;tactic=>first|exact g1|exact y2 ht|exact ed0t hd|exact congrArg not hup|exact congrArg not hle)
         conv => arg 2; whnf
         exact .s000R ..
        ·exact hd
    ·rw [if_neg (fun hh => ht hh.1), h.call]
     repeat (conv=>arg 2;whnf;arg 2;tactic=>first|exact g1|exact n2 ht|exact congrArg not hup)
     conv => arg 2; whnf
     exact .s0000 ..
theorem ev_l22Bring (w : WorldM) (hw : WG w) (cn : Nat) (m : MsgM) (hm : MsgG m) : RB (bringM w m) (W f_spec_l22Bring [wV w 3 4, msgA m] (wS w cn)) := by
 rcases hm.to with hto | hto
 ·exact ev_l22Bring1 h w hw cn m hm hto
 ·exact ev_l22Bring2 h w hw cn m hm hto
end
end Go.Gn

