/- Part 30 of a proof: an evaluator of the program, proved sound, and what it answers. -/
import Derived.Test.YtkgpnfeabojhcaaGreatA10
import Derived.Test.YtkgpnfeabojhcaaGreatA21
import Derived.Test.YtkgpnfeabojhcaaGreatA26
import Derived.Test.YtkgpnfeabojhcaaGreatA29
set_option linter.all false
namespace Go.Gn
open Go
set_option maxRecDepth 100000
set_option maxHeartbeats 16000000
section
variable {W : CallF} {L : LoopF} {E : EqF} {T : Prop → Bool} (h : IsK G W L E T)
include h
theorem ev_ideliver (w : WorldM) (hw : WG w) (hi : WInv w) (m : MsgM) (hmo : msgOk m = true) (hm : MsgG m) (hup : (w.nd m.to).up = true) : IR (bringM w m) (W f_impl_World_deliver [.ptr 0 0, msgA m] (iS w)) := by
 have hl := hw.nl
 have n1 : ∀ {a b : Int}, ¬ a = b → (a == b) = false := fun hab => by simp [hab]
 have y1 : ∀ {a b : Int}, a = b → (a == b) = true := fun hab => by simp [hab]
 have n2 : ∀ {a b : Int}, ¬ a = b → (a != b) = true := fun hab => by simp [hab]
 have y2 : ∀ {a b : Int}, a = b → (a != b) = false := fun hab => by simp [hab]
 have hms := hm.sz
 obtain ⟨hto, hkd, _⟩ := msg_kind hmo
 rcases hto with hto | hto
 ·have hnd : w.nd m.to = w.n1 := by rw [hto]; rfl
  rw [hnd] at hup
  have eh := ev_NodeHear h w.n1 hw.o1.sz 1 m hms
  have hcond : (nodeOk w.n1 && (msgOk m && (inR 1 1 2 && (!(m.to != 1) && w.n1.up)))) = true := by
   rw [hi.k1, hmo, hto, hup]; decide
  unfold nodeHear at eh
  rw [if_pos hcond] at eh
  unfold bringM
  rw [hnd, hto, if_pos hup]
  obtain ⟨kind, to, term, mn, op, ops⟩ := m
  simp only at hto hm hmo hkd
  subst hto
  by_cases hk : kind = 1 ∨ kind = 3
  ·have ek : (kind == 1) = true ∨ ((kind == 1) = false ∧ (kind == 3) = true) := by
    rcases hk with rfl | rfl
    ·exact .inl rfl
    ·exact .inr ⟨rfl, rfl⟩
   rw [if_pos hk]
   have hgG := hearK_G hw.o1 hw.t1 (id := 1) (by omega) hm hk
   cases hok : (hearK w.n1 1 ⟨kind, 1, term, mn, op, ops⟩).2.2
   ·rw [if_neg (by simp)]
    unfold hearV at eh
    simp only [hok] at eh
    rcases ek with k1 | ⟨k1, k3⟩
    ·rw [h.call]
     repeat (conv=>arg 2;whnf;arg 2;tactic=>first|exact g1|exact k1|exact eh|exact gS|exact gN|exact congrArg not k1|exact g2)
     conv => arg 2; whnf
     exact .s00 ..
    ·rw [h.call]
     repeat (conv=>arg 2;whnf;arg 2;tactic=>first|exact g1|exact k1|exact k3|exact eh|exact gS|exact gN|exact congrArg not k1|exact congrArg not k3|exact g2)
     conv => arg 2; whnf
     exact .s00 ..
   ·rw [if_pos rfl]
    obtain ⟨b1, b2, b3, b4⟩ := hgG hok
    unfold hearV at eh
    simp only [hok] at eh
    generalize hearK w.n1 1 ⟨kind, 1, term, mn, op, ops⟩ = r at *
    obtain ⟨r1, r2, r3⟩ := r
    simp only at *
    have es := ev_isend h (w.setN 1 r1) r2 b4 hl
    unfold sendM
    cases hc : decide (((w.setN 1 r1).nets.length : Int) < 12)
    ·simp only [hc, Bool.false_eq_true, if_false] at es ⊢
     rcases ek with k1 | ⟨k1, k3⟩
     ·rw [h.call]
      repeat (conv=>arg 2;whnf;arg 2;tactic=>first|exact g1|exact k1|exact eh|exact gS|exact es|exact gN|exact congrArg not k1|exact g2)
      conv => arg 2; whnf
      exact .s00 ..
     ·rw [h.call]
      repeat (conv=>arg 2;whnf;arg 2;tactic=>first|exact g1|exact k1|exact k3|exact eh|exact gS|exact es|exact gN|exact congrArg not k1|exact congrArg not k3|exact g2)
      conv => arg 2; whnf
      exact .s00 ..
    ·simp only [hc, if_true] at es ⊢
     rcases ek with k1 | ⟨k1, k3⟩
     ·rw [h.call]
      repeat (conv=>arg 2;whnf;arg 2;tactic=>first|exact g1|exact k1|exact eh|exact gS|exact es|exact gN|exact congrArg not k1|exact g2)
      conv => arg 2; whnf
      exact .sD0 ..
     ·rw [h.call]
      repeat (conv=>arg 2;whnf;arg 2;tactic=>first|exact g1|exact k1|exact k3|exact eh|exact gS|exact es|exact gN|exact congrArg not k1|exact congrArg not k3|exact g2)
      conv => arg 2; whnf
      exact .sD0 ..
  ·rw [if_neg hk]
   have k1 : (kind == 1) = false := by simp; omega
   have k3 : (kind == 3) = false := by simp; omega
   cases hle : w.n1.leads
   ·rw [if_neg (by simp), h.call]
    repeat (conv=>arg 2;whnf;arg 2;tactic=>first|exact g1|exact k1|exact k3|exact hle|exact gN|exact congrArg not k1|exact congrArg not k3|exact congrArg not hle|exact g2)
    conv => arg 2; whnf
    exact .s00 ..
   ·by_cases ht : term = w.n1.term
    ·rw [if_pos ⟨ht, rfl⟩]
     have ht' := y2 ht.symm
     have hn0 := hm.n
     simp only at hn0
     obtain ⟨k, rfl⟩ : ∃ k : Nat, mn = k := ⟨mn.toNat, by omega⟩
     have hlo := hw.o1.l
     have hlen : ((w.n1.ops.map opD).length : Nat) = w.n1.ops.length := List.length_map ..
     have plain : ∀ w2 : WorldM, w2 = w → IR (doneM w w.n1.ops (k : Nat)) (W f_impl_World_acknowledge [.ptr 0 0, .rp 1 0 0, .int .i64 (k : Nat)] (iS w2)) := by
      rintro w2 rfl
      rw [ev_iack h w2 0 w2.n1 (by first | exact .inl ⟨rfl, rfl⟩ | exact .inr ⟨rfl, rfl⟩) k (by omega)]
      unfold doneM
      split
      ·exact .s0R ..
      ·exact .s00 ..
     have fin : ∀ s, IR (doneM w w.n1.ops (k : Nat)) s → W f_impl_World_acknowledge [.ptr 0 0, .rp 1 0 0, .int .i64 (k : Nat)] (iS w) = s → ((kind == 4) = false ∨ ((kind == 4) = true ∧ ((k : Int) == ((w.n1.ops.map opD).length : Nat)) = false) ∨ ((kind == 4) = true ∧ ((k : Int) == ((w.n1.ops.map opD).length : Nat)) = true ∧ w.n1.alone = false)) →
       IR (doneM w w.n1.ops (k : Nat)) (W f_impl_World_deliver [.ptr 0 0, msgA ⟨kind, 1, term, (k : Nat), op, ops⟩] (iS w)) := by
      intro s hs hq hcase
      generalize doneM w w.n1.ops (k : Nat) = w' at hs ⊢
      rcases hcase with c1 | ⟨c1, c2⟩ | ⟨c1, c2, c3⟩
      ·rw [h.call]
       repeat (conv=>arg 2;whnf;arg 2;tactic=>first|exact g1|exact k1|exact k3|exact hle|exact ht'|exact c1|exact gN|exact congrArg not k1|exact congrArg not k3|exact congrArg not hle|exact congrArg not ht'|exact congrArg not c1|exact g2)
       conv => arg 2; whnf; arg 2; tactic => exact hq
       cases hs
       ·repeat (conv=>arg 2;whnf;arg 2;tactic=>first|exact g1|exact gN|exact g2)
        conv => arg 2; whnf
        exact .s00 ..
       ·repeat (conv=>arg 2;whnf;arg 2;tactic=>first|exact g1|exact gN|exact g2)
        conv => arg 2; whnf
        exact .sD0 ..
       ·repeat (conv=>arg 2;whnf;arg 2;tactic=>first|exact g1|exact gN|exact g2)
        conv => arg 2; whnf
        exact .s0R ..
       ·repeat (conv=>arg 2;whnf;arg 2;tactic=>first|exact g1|exact gN|exact g2)
        conv => arg 2; whnf
        exact .sDR ..
      ·rw [h.call]
       repeat (conv=>arg 2;whnf;arg 2;tactic=>first|exact g1|exact k1|exact k3|exact hle|exact ht'|exact c1|exact c2|exact gN|exact congrArg not k1|exact congrArg not k3|exact congrArg not hle|exact congrArg not ht'|exact congrArg not c1|exact congrArg not c2|exact g2)
       conv => arg 2; whnf; arg 2; tactic => exact hq
       cases hs
       ·repeat (conv=>arg 2;whnf;arg 2;tactic=>first|exact g1|exact gN|exact g2)
        conv => arg 2; whnf
        exact .s00 ..
       ·repeat (conv=>arg 2;whnf;arg 2;tactic=>first|exact g1|exact gN|exact g2)
        conv => arg 2; whnf
        exact .sD0 ..
       ·repeat (conv=>arg 2;whnf;arg 2;tactic=>first|exact g1|exact gN|exact g2)
        conv => arg 2; whnf
        exact .s0R ..
       ·repeat (conv=>arg 2;whnf;arg 2;tactic=>first|exact g1|exact gN|exact g2)
        conv => arg 2; whnf
        exact .sDR ..
      ·rw [h.call]
       repeat (conv=>arg 2;whnf;arg 2;tactic=>first|exact g1|exact k1|exact k3|exact hle|exact ht'|exact c1|exact c2|exact c3|exact gN|exact congrArg not k1|exact congrArg not k3|exact congrArg not hle|exact congrArg not ht'|exact congrArg not c1|exact congrArg not c2|exact congrArg not c3|exact g2)
       conv => arg 2; whnf; arg 2; tactic => exact hq
       cases hs
       ·repeat (conv=>arg 2;whnf;arg 2;tactic=>first|exact g1|exact gN|exact g2)
        conv => arg 2; whnf
        exact .s00 ..
       ·repeat (conv=>arg 2;whnf;arg 2;tactic=>first|exact g1|exact gN|exact g2)
        conv => arg 2; whnf
        exact .sD0 ..
       ·repeat (conv=>arg 2;whnf;arg 2;tactic=>first|exact g1|exact gN|exact g2)
        conv => arg 2; whnf
        exact .s0R ..
       ·repeat (conv=>arg 2;whnf;arg 2;tactic=>first|exact g1|exact gN|exact g2)
        conv => arg 2; whnf
        exact .sDR ..
     by_cases c4 : kind = 4 ∧ (k : Int) = (w.n1.ops.length : Nat) ∧ w.n1.alone = true
     ·rw [if_pos c4]
      obtain ⟨c1, c2, c3⟩ := c4
      have d1 := y1 c1
      have d2 : ((k : Int) == ((w.n1.ops.map opD).length : Nat)) = true := by rw [hlen, c2]; simp
      have ea := ev_iack h { w.setN 1 { w.n1 with alone := false } with both := true } 0 { w.n1 with alone := false } (by first | exact .inl ⟨rfl, rfl⟩ | exact .inr ⟨rfl, rfl⟩) k (by show w.n1.ops.length < _; omega)
      unfold doneM
      cases hd : decide ((k : Int) > (w.done.length : Int)) && decide ((k : Int) ≤ (w.n1.ops.length : Int))
      ·rw [if_neg (by exact fun e => by rw [show (decide ((k : Int) > (({ w.setN 1 { w.n1 with alone := false } with both := true } : WorldM).done.length : Int)) && decide ((k : Int) ≤ (w.n1.ops.length : Int))) = false from hd] at e; cases e)]
       rw [if_neg (by exact fun e => by rw [show (decide ((k : Int) > (({ w.setN 1 { w.n1 with alone := false } with both := true } : WorldM).done.length : Int)) && decide ((k : Int) ≤ (({ w.n1 with alone := false } : NodeM).ops.length : Int))) = false from hd] at e; cases e)] at ea
       rw [h.call]
       repeat (conv=>arg 2;whnf;arg 2;tactic=>first|exact g1|exact k1|exact k3|exact hle|exact ht'|exact d1|exact d2|exact c3|exact ea|exact gS|exact gN|exact congrArg not k1|exact congrArg not k3|exact congrArg not hle|exact congrArg not ht'|exact congrArg not c3|exact g2)
       conv => arg 2; whnf
       exact .s00 ..
      ·rw [if_pos (by exact hd)]
       rw [if_pos (by exact hd)] at ea
       rw [h.call]
       repeat (conv=>arg 2;whnf;arg 2;tactic=>first|exact g1|exact k1|exact k3|exact hle|exact ht'|exact d1|exact d2|exact c3|exact ea|exact gS|exact gN|exact congrArg not k1|exact congrArg not k3|exact congrArg not hle|exact congrArg not ht'|exact congrArg not c3|exact g2)
       conv => arg 2; whnf
       exact .s0R ..
     ·rw [if_neg c4]
      refine fin _ (plain w rfl) rfl ?_
      by_cases d1 : kind = 4
      ·by_cases d2 : (k : Int) = (w.n1.ops.length : Nat)
       ·refine .inr (.inr ⟨y1 d1, by rw [hlen, d2]; simp, ?_⟩)
        cases ha : w.n1.alone
        ·rfl
        ·exact absurd ⟨d1, d2, ha⟩ c4
       ·exact .inr (.inl ⟨y1 d1, by rw [hlen]; exact n1 d2⟩)
      ·exact .inl (n1 d1)
    ·rw [if_neg (fun e => ht e.1), h.call]
     have ht' := n2 (fun e : w.n1.term = term => ht e.symm)
     repeat (conv=>arg 2;whnf;arg 2;tactic=>first|exact g1|exact k1|exact k3|exact hle|exact ht'|exact gN|exact congrArg not k1|exact congrArg not k3|exact congrArg not hle|exact congrArg not ht'|exact g2)
     conv => arg 2; whnf
     exact .s00 ..
 ·have hnd : w.nd m.to = w.n2 := by rw [hto]; rfl
  rw [hnd] at hup
  have eh := ev_NodeHear h w.n2 hw.o2.sz 2 m hms
  have hcond : (nodeOk w.n2 && (msgOk m && (inR 2 1 2 && (!(m.to != 2) && w.n2.up)))) = true := by
   rw [hi.k2, hmo, hto, hup]; decide
  unfold nodeHear at eh
  rw [if_pos hcond] at eh
  unfold bringM
  rw [hnd, hto, if_pos hup]
  obtain ⟨kind, to, term, mn, op, ops⟩ := m
  simp only at hto hm hmo hkd
  subst hto
  by_cases hk : kind = 1 ∨ kind = 3
  ·have ek : (kind == 1) = true ∨ ((kind == 1) = false ∧ (kind == 3) = true) := by
    rcases hk with rfl | rfl
    ·exact .inl rfl
    ·exact .inr ⟨rfl, rfl⟩
   rw [if_pos hk]
   have hgG := hearK_G hw.o2 hw.t2 (id := 2) (by omega) hm hk
   cases hok : (hearK w.n2 2 ⟨kind, 2, term, mn, op, ops⟩).2.2
   ·rw [if_neg (by simp)]
    unfold hearV at eh
    simp only [hok] at eh
    rcases ek with k1 | ⟨k1, k3⟩
    ·rw [h.call]
     repeat (conv=>arg 2;whnf;arg 2;tactic=>first|exact g1|exact k1|exact eh|exact gS|exact gN|exact congrArg not k1|exact g2)
     conv => arg 2; whnf
     exact .s00 ..
    ·rw [h.call]
     repeat (conv=>arg 2;whnf;arg 2;tactic=>first|exact g1|exact k1|exact k3|exact eh|exact gS|exact gN|exact congrArg not k1|exact congrArg not k3|exact g2)
     conv => arg 2; whnf
     exact .s00 ..
   ·rw [if_pos rfl]
    obtain ⟨b1, b2, b3, b4⟩ := hgG hok
    unfold hearV at eh
    simp only [hok] at eh
    generalize hearK w.n2 2 ⟨kind, 2, term, mn, op, ops⟩ = r at *
    obtain ⟨r1, r2, r3⟩ := r
    simp only at *
    have es := ev_isend h (w.setN 2 r1) r2 b4 hl
    unfold sendM
    cases hc : decide (((w.setN 2 r1).nets.length : Int) < 12)
    ·simp only [hc, Bool.false_eq_true, if_false] at es ⊢
     rcases ek with k1 | ⟨k1, k3⟩
     ·rw [h.call]
      repeat (conv=>arg 2;whnf;arg 2;tactic=>first|exact g1|exact k1|exact eh|exact gS|exact es|exact gN|exact congrArg not k1|exact g2)
      conv => arg 2; whnf
      exact .s00 ..
     ·rw [h.call]
      repeat (conv=>arg 2;whnf;arg 2;tactic=>first|exact g1|exact k1|exact k3|exact eh|exact gS|exact es|exact gN|exact congrArg not k1|exact congrArg not k3|exact g2)
      conv => arg 2; whnf
      exact .s00 ..
    ·simp only [hc, if_true] at es ⊢
     rcases ek with k1 | ⟨k1, k3⟩
     ·rw [h.call]
      repeat (conv=>arg 2;whnf;arg 2;tactic=>first|exact g1|exact k1|exact eh|exact gS|exact es|exact gN|exact congrArg not k1|exact g2)
      conv => arg 2; whnf
      exact .sD0 ..
     ·rw [h.call]
      repeat (conv=>arg 2;whnf;arg 2;tactic=>first|exact g1|exact k1|exact k3|exact eh|exact gS|exact es|exact gN|exact congrArg not k1|exact congrArg not k3|exact g2)
      conv => arg 2; whnf
      exact .sD0 ..
  ·rw [if_neg hk]
   have k1 : (kind == 1) = false := by simp; omega
   have k3 : (kind == 3) = false := by simp; omega
   cases hle : w.n2.leads
   ·rw [if_neg (by simp), h.call]
    repeat (conv=>arg 2;whnf;arg 2;tactic=>first|exact g1|exact k1|exact k3|exact hle|exact gN|exact congrArg not k1|exact congrArg not k3|exact congrArg not hle|exact g2)
    conv => arg 2; whnf
    exact .s00 ..
   ·by_cases ht : term = w.n2.term
    ·rw [if_pos ⟨ht, rfl⟩]
     have ht' := y2 ht.symm
     have hn0 := hm.n
     simp only at hn0
     obtain ⟨k, rfl⟩ : ∃ k : Nat, mn = k := ⟨mn.toNat, by omega⟩
     have hlo := hw.o2.l
     have hlen : ((w.n2.ops.map opD).length : Nat) = w.n2.ops.length := List.length_map ..
     have plain : ∀ w2 : WorldM, w2 = w → IR (doneM w w.n2.ops (k : Nat)) (W f_impl_World_acknowledge [.ptr 0 0, .rp 1 1 0, .int .i64 (k : Nat)] (iS w2)) := by
      rintro w2 rfl
      rw [ev_iack h w2 1 w2.n2 (by first | exact .inl ⟨rfl, rfl⟩ | exact .inr ⟨rfl, rfl⟩) k (by omega)]
      unfold doneM
      split
      ·exact .s0R ..
      ·exact .s00 ..
     have fin : ∀ s, IR (doneM w w.n2.ops (k : Nat)) s → W f_impl_World_acknowledge [.ptr 0 0, .rp 1 1 0, .int .i64 (k : Nat)] (iS w) = s → ((kind == 4) = false ∨ ((kind == 4) = true ∧ ((k : Int) == ((w.n2.ops.map opD).length : Nat)) = false) ∨ ((kind == 4) = true ∧ ((k : Int) == ((w.n2.ops.map opD).length : Nat)) = true ∧ w.n2.alone = false)) →
       IR (doneM w w.n2.ops (k : Nat)) (W f_impl_World_deliver [.ptr 0 0, msgA ⟨kind, 2, term, (k : Nat), op, ops⟩] (iS w)) := by
      intro s hs hq hcase
      generalize doneM w w.n2.ops (k : Nat) = w' at hs ⊢
      rcases hcase with c1 | ⟨c1, c2⟩ | ⟨c1, c2, c3⟩
      ·rw [h.call]
       repeat (conv=>arg 2;whnf;arg 2;tactic=>first|exact g1|exact k1|exact k3|exact hle|exact ht'|exact c1|exact gN|exact congrArg not k1|exact congrArg not k3|exact congrArg not hle|exact congrArg not ht'|exact congrArg not c1|exact g2)
       conv => arg 2; whnf; arg 2; tactic => exact hq
       cases hs
       ·repeat (conv=>arg 2;whnf;arg 2;tactic=>first|exact g1|exact gN|exact g2)
        conv => arg 2; whnf
        exact .s00 ..
       ·repeat (conv=>arg 2;whnf;arg 2;tactic=>first|exact g1|exact gN|exact g2)
        conv => arg 2; whnf
        exact .sD0 ..
       ·repeat (conv=>arg 2;whnf;arg 2;tactic=>first|exact g1|exact gN|exact g2)
        conv => arg 2; whnf
        exact .s0R ..
       ·repeat (conv=>arg 2;whnf;arg 2;tactic=>first|exact g1|exact gN|exact g2)
        conv => arg 2; whnf
        exact .sDR ..
      ·rw [h.call]
       repeat (conv=>arg 2;whnf;arg 2;tactic=>first|exact g1|exact k1|exact k3|exact hle|exact ht'|exact c1|exact c2|exact gN|exact congrArg not k1|exact congrArg not k3|exact congrArg not hle|exact congrArg not ht'|exact congrArg not c1|exact congrArg not c2|exact g2)
       conv => arg 2; whnf; arg 2; tactic => exact hq
       cases hs
       ·repeat (conv=>arg 2;whnf;arg 2;tactic=>first|exact g1|exact gN|exact g2)
        conv => arg 2; whnf
        exact .s00 ..
       ·repeat (conv=>arg 2;whnf;arg 2;tactic=>first|exact g1|exact gN|exact g2)
        conv => arg 2; whnf
        exact .sD0 ..
       ·repeat (conv=>arg 2;whnf;arg 2;tactic=>first|exact g1|exact gN|exact g2)
        conv => arg 2; whnf
        exact .s0R ..
       ·repeat (conv=>arg 2;whnf;arg 2;tactic=>first|exact g1|exact gN|exact g2)
        conv => arg 2; whnf
        exact .sDR ..
      ·rw [h.call]
       repeat (conv=>arg 2;whnf;arg 2;tactic=>first|exact g1|exact k1|exact k3|exact hle|exact ht'|exact c1|exact c2|exact c3|exact gN|exact congrArg not k1|exact congrArg not k3|exact congrArg not hle|exact congrArg not ht'|exact congrArg not c1|exact congrArg not c2|exact congrArg not c3|exact g2)
       conv => arg 2; whnf; arg 2; tactic => exact hq
       cases hs
       ·repeat (conv=>arg 2;whnf;arg 2;tactic=>first|exact g1|exact gN|exact g2)
        conv => arg 2; whnf
        exact .s00 ..
       ·repeat (conv=>arg 2;whnf;arg 2;tactic=>first|exact g1|exact gN|exact g2)
        conv => arg 2; whnf
        exact .sD0 ..
       ·repeat (conv=>arg 2;whnf;arg 2;tactic=>first|exact g1|exact gN|exact g2)
        conv => arg 2; whnf
        exact .s0R ..
       ·repeat (conv=>arg 2;whnf;arg 2;tactic=>first|exact g1|exact gN|exact g2)
        conv => arg 2; whnf
        exact .sDR ..
     by_cases c4 : kind = 4 ∧ (k : Int) = (w.n2.ops.length : Nat) ∧ w.n2.alone = true
     ·rw [if_pos c4]
      obtain ⟨c1, c2, c3⟩ := c4
      have d1 := y1 c1
      have d2 : ((k : Int) == ((w.n2.ops.map opD).length : Nat)) = true := by rw [hlen, c2]; simp
      have ea := ev_iack h { w.setN 2 { w.n2 with alone := false } with both := true } 1 { w.n2 with alone := false } (by first | exact .inl ⟨rfl, rfl⟩ | exact .inr ⟨rfl, rfl⟩) k (by show w.n2.ops.length < _; omega)
      unfold doneM
      cases hd : decide ((k : Int) > (w.done.length : Int)) && decide ((k : Int) ≤ (w.n2.ops.length : Int))
      ·rw [if_neg (by exact fun e => by rw [show (decide ((k : Int) > (({ w.setN 2 { w.n2 with alone := false } with both := true } : WorldM).done.length : Int)) && decide ((k : Int) ≤ (w.n2.ops.length : Int))) = false from hd] at e; cases e)]
       rw [if_neg (by exact fun e => by rw [show (decide ((k : Int) > (({ w.setN 2 { w.n2 with alone := false } with both := true } : WorldM).done.length : Int)) && decide ((k : Int) ≤ (({ w.n2 with alone := false } : NodeM).ops.length : Int))) = false from hd] at e; cases e)] at ea
       rw [h.call]
       repeat (conv=>arg 2;whnf;arg 2;tactic=>first|exact g1|exact k1|exact k3|exact hle|exact ht'|exact d1|exact d2|exact c3|exact ea|exact gS|exact gN|exact congrArg not k1|exact congrArg not k3|exact congrArg not hle|exact congrArg not ht'|exact congrArg not c3|exact g2)
       conv => arg 2; whnf
       exact .s00 ..
      ·rw [if_pos (by exact hd)]
       rw [if_pos (by exact hd)] at ea
       rw [h.call]
       repeat (conv=>arg 2;whnf;arg 2;tactic=>first|exact g1|exact k1|exact k3|exact hle|exact ht'|exact d1|exact d2|exact c3|exact ea|exact gS|exact gN|exact congrArg not k1|exact congrArg not k3|exact congrArg not hle|exact congrArg not ht'|exact congrArg not c3|exact g2)
       conv => arg 2; whnf
       exact .s0R ..
     ·rw [if_neg c4]
      refine fin _ (plain w rfl) rfl ?_
      by_cases d1 : kind = 4
      ·by_cases d2 : (k : Int) = (w.n2.ops.length : Nat)
       ·refine .inr (.inr ⟨y1 d1, by rw [hlen, d2]; simp, ?_⟩)
        cases ha : w.n2.alone
        ·rfl
        ·exact absurd ⟨d1, d2, ha⟩ c4
       ·exact .inr (.inl ⟨y1 d1, by rw [hlen]; exact n1 d2⟩)
      ·exact .inl (n1 d1)
    ·rw [if_neg (fun e => ht e.1), h.call]
     have ht' := n2 (fun e : w.n2.term = term => ht e.symm)
     repeat (conv=>arg 2;whnf;arg 2;tactic=>first|exact g1|exact k1|exact k3|exact hle|exact ht'|exact gN|exact congrArg not k1|exact congrArg not k3|exact congrArg not hle|exact congrArg not ht'|exact g2)
     conv => arg 2; whnf
     exact .s00 ..
theorem ev_DeleteM (ms : List MsgM) (i : Nat) (hi : i < ms.length) : W f_slices_Delete_Msg [.hw 0, .int .i64 (i : Nat), .int .i64 ((i + 1 : Nat) : Int)] [nR 0 ms] = some (.hw 1, [.dead, nR 0 (ms.take i ++ ms.drop (i + 1))]) := by
 rw [h.call, bodyX rfl (cf := cf184) (g := deleteX 10) rfl rfl]
 have e0 : (ms.map msgD).length = ms.length := List.length_map ..
 unfold nR
 rw [deleteX, if_pos ⟨rfl, by omega, by omega, by rw [e0]; omega, .inl rfl⟩]
 simp only [Int.toNat_natCast, List.map_append, List.map_take, List.map_drop]
 rw [show i + 1 - i = 1 by omega]
theorem ev_Msg_clone (m : MsgM) (hm : m.ops.length < 2000000) : W f_impl_Msg_clone [msgA m] [] = some (msgV m (.hw 0), [oR 5 m.ops]) := by
 have ec := ev_cloneOp h m.ops (by omega)
 rw [h.call]
 repeat (conv=>lhs;whnf;arg 2;tactic=>first|exact g1|exact ec|exact gS|exact gN|exact g2)
 rfl
theorem ev_inet (w : WorldM) (hw : WG w) (hi : WInv w) (kind : Int) (hk : kind = 2 ∨ kind = 3 ∨ kind = 4) (i : Int) : IR (netM w kind i) (W f_impl_World_net [.ptr 0 0, .int .i64 kind, .int .i64 i] (iS w)) := by
 have hl := hw.nl
 have hlen : ((w.nets.map msgD).length : Nat) = w.nets.length := List.length_map ..
 have hwr : IntKind.i64.wrap (((w.nets.map msgD).length : Nat) - 1 : Int) = (w.nets.length : Int) - 1 := by rw [hlen]; exact wrap_id (by omega) (by omega)
 have ein := ev_within h i 0 (IntKind.i64.wrap (((w.nets.map msgD).length : Nat) - 1 : Int))
 rw [hwr] at ein
 unfold netM
 cases hin : inR i 0 ((w.nets.length : Int) - 1)
 ·rw [hin, ← hwr] at ein
  rw [if_neg (by simp), h.call]
  repeat (conv=>arg 2;whnf;arg 2;tactic=>first|exact g1|exact ein|exact gN|exact g2)
  conv => arg 2; whnf
  exact .s00 ..
 ·rw [hin, ← hwr] at ein
  rw [if_pos rfl]
  have hin' : 0 ≤ i ∧ i ≤ (w.nets.length : Int) - 1 := by simpa [inR] using hin
  obtain ⟨k, rfl⟩ : ∃ k : Nat, i = k := ⟨i.toNat, by omega⟩
  obtain ⟨m, hx⟩ := get_some (xs := w.nets) (i := k) (by omega)
  have hmem := List.mem_of_getElem? hx
  have hmg := hw.nets m hmem
  have hmo := (hi.ms m hmem).1
  rw [Int.toNat_natCast, hx]
  simp only
  have hws : IntKind.i64.wrap ((k : Int) + 1) = ((k + 1 : Nat) : Int) := wrap_succ (by omega)
  by_cases k4 : kind = 4
  ·rw [if_pos k4]
   subst k4
   have ec := ev_Msg_clone h m (by have := hmg.ops.l; omega)
   have es := ev_isendH h w m hl
   unfold sendM
   cases hc : decide ((w.nets.length : Int) < 12)
   ·simp only [hc, Bool.false_eq_true, if_false] at es ⊢
    rw [h.call]
    repeat (conv=>arg 2;whnf;arg 2;tactic=>first|exact g1|exact ein|exact map_get hx|exact ec|exact es|exact gS|exact gN|exact g2)
    conv => arg 2; whnf
    exact .s00 ..
   ·simp only [hc, if_true] at es ⊢
    rw [h.call]
    repeat (conv=>arg 2;whnf;arg 2;tactic=>first|exact g1|exact ein|exact map_get hx|exact ec|exact es|exact gS|exact gN|exact g2)
    conv => arg 2; whnf
    exact .sD0 ..
  ·rw [if_neg k4]
   have q4 : (kind == 4) = false := by simp [k4]
   have ed := ev_DeleteM h w.nets k (by omega)
   rw [← hws] at ed
   obtain ⟨w2, hw2⟩ : ∃ w2 : WorldM, w2 = { w with nets := w.nets.take k ++ w.nets.drop (k + 1) } := ⟨_, rfl⟩
   rw [← hw2]
   by_cases k2 : kind = 2
   ·have q2 : (kind == 2) = true := by simp [k2]
    rw [if_pos k2]
    have hg2 : WG w2 := by rw [hw2]; exact hw.drop1 k
    have hv2 : WInv w2 := by rw [hw2]; exact winv_drop hi k
    obtain ⟨hto, _⟩ := msg_kind hmo
    have bq : (m.to = 1 ∨ m.to = 2) ∧ True := ⟨hto, trivial⟩
    cases hup : (w2.nd m.to).up
    ·have hb : bringM w2 m = w2 := by
      unfold bringM
      rw [hup, if_neg (by simp)]
     rw [hb]
     subst hw2
     obtain ⟨mk, mto, mte, mn, mop, mops⟩ := m
     simp only at hto
     rcases hto with rfl | rfl
     all_goals
      rw [h.call]
      repeat (conv=>arg 2;whnf;arg 2;tactic=>first|exact g1|exact ein|exact map_get hx|exact q4|exact ed|exact q2|exact hup|exact gS|exact gN|exact congrArg not q4|exact congrArg not hup|exact g2)
      conv => arg 2; whnf
      exact .sD0 ..
    ·obtain ⟨r, hq, hr⟩ := ex_of (ev_ideliver h w2 hg2 hv2 m hmo hmg hup)
     generalize bringM w2 m = w' at hr ⊢
     subst hw2
     obtain ⟨mk, mto, mte, mn, mop, mops⟩ := m
     simp only at hto
     rcases hto with rfl | rfl
     ·rw [h.call]
      repeat (conv=>arg 2;whnf;arg 2;tactic=>first|exact g1|exact ein|exact map_get hx|exact q4|exact ed|exact q2|exact hup|exact gS|exact gN|exact congrArg not q4|exact congrArg not hup|exact g2)
      conv => arg 2; whnf; arg 2; tactic => exact hq
      cases hr
      ·repeat (conv=>arg 2;whnf;arg 2;tactic=>first|exact g1|exact gS|exact gN|exact g2)
       conv => arg 2; whnf
       exact .sD0 ..
      ·repeat (conv=>arg 2;whnf;arg 2;tactic=>first|exact g1|exact gS|exact gN|exact g2)
       conv => arg 2; whnf
       exact .sD0 ..
      ·repeat (conv=>arg 2;whnf;arg 2;tactic=>first|exact g1|exact gS|exact gN|exact g2)
       conv => arg 2; whnf
       exact .sDR ..
      ·repeat (conv=>arg 2;whnf;arg 2;tactic=>first|exact g1|exact gS|exact gN|exact g2)
       conv => arg 2; whnf
       exact .sDR ..
     ·rw [h.call]
      repeat (conv=>arg 2;whnf;arg 2;tactic=>first|exact g1|exact ein|exact map_get hx|exact q4|exact ed|exact q2|exact hup|exact gS|exact gN|exact congrArg not q4|exact congrArg not hup|exact g2)
      conv => arg 2; whnf; arg 2; tactic => exact hq
      cases hr
      ·repeat (conv=>arg 2;whnf;arg 2;tactic=>first|exact g1|exact gS|exact gN|exact g2)
       conv => arg 2; whnf
       exact .sD0 ..
      ·repeat (conv=>arg 2;whnf;arg 2;tactic=>first|exact g1|exact gS|exact gN|exact g2)
       conv => arg 2; whnf
       exact .sD0 ..
      ·repeat (conv=>arg 2;whnf;arg 2;tactic=>first|exact g1|exact gS|exact gN|exact g2)
       conv => arg 2; whnf
       exact .sDR ..
      ·repeat (conv=>arg 2;whnf;arg 2;tactic=>first|exact g1|exact gS|exact gN|exact g2)
       conv => arg 2; whnf
       exact .sDR ..
   ·have q2 : (kind == 2) = false := by simp [k2]
    rw [if_neg k2]
    subst hw2
    rw [h.call]
    repeat (conv=>arg 2;whnf;arg 2;tactic=>first|exact g1|exact ein|exact map_get hx|exact q4|exact ed|exact q2|exact gS|exact gN|exact congrArg not q4|exact g2)
    conv => arg 2; whnf
    exact .sD0 ..
end
end Go.Gn

namespace Go.Gn
open Go
set_option maxRecDepth 100000
set_option maxHeartbeats 16000000
section
variable {W : CallF} {L : LoopF} {E : EqF} {T : Prop → Bool} (h : IsK G W L E T)
include h
theorem ev_ijoin (w : WorldM) (hw : WG w) : IR (joinM w) (W f_impl_World_join [.ptr 0 0] (iS w)) := by
 have hl := hw.nl
 have hlead := hw.lead
 unfold joinM
 obtain ⟨a1, a2, term, lead, both, nets, done⟩ := w
 simp only at hlead hl
 rcases hlead with rfl | rfl
 ·cases hup : a1.up
  ·rw [show (WorldM.nd ⟨a1, a2, term, 1, both, nets, done⟩ 1).up = false from hup, if_neg (by simp), h.call]
   repeat (conv=>arg 2;whnf;arg 2;tactic=>first|exact g1|exact hup|exact gS|exact gN|exact congrArg not hup|exact g2)
   conv => arg 2; whnf
   exact .s00 ..
  ·rw [show (WorldM.nd ⟨a1, a2, term, 1, both, nets, done⟩ 1).up = true from hup, if_pos rfl]
   have hln : ((a1.ops.map opD).length : Nat) = a1.ops.length := List.length_map ..
   have hol := hw.o1.l
   simp only at hol
   have ec := ev_cloneOp h a1.ops (by omega)
   rw [show joinMsg ⟨a1, a2, term, 1, both, nets, done⟩ = ⟨3, IntKind.i64.wrap (3 - 1), a1.term, ((a1.ops.map opD).length : Nat), noOp, a1.ops⟩ from by rw [hln]; rfl]
   have es := ev_isendH h ⟨a1, a2, term, 1, both, nets, done⟩ ⟨3, IntKind.i64.wrap (3 - 1), a1.term, ((a1.ops.map opD).length : Nat), noOp, a1.ops⟩ hl
   unfold sendM
   cases hc : decide ((nets.length : Int) < 12)
   ·simp only [hc, Bool.false_eq_true, if_false] at es ⊢
    rw [h.call]
    repeat (conv=>arg 2;whnf;arg 2;tactic=>first|exact g1|exact hup|exact ec|exact es|exact gS|exact gN|exact congrArg not hup|exact g2)
    conv => arg 2; whnf
    exact .s00 ..
   ·simp only [hc, if_true] at es ⊢
    rw [h.call]
    repeat (conv=>arg 2;whnf;arg 2;tactic=>first|exact g1|exact hup|exact ec|exact es|exact gS|exact gN|exact congrArg not hup|exact g2)
    conv => arg 2; whnf
    exact .sD0 ..
 ·cases hup : a2.up
  ·rw [show (WorldM.nd ⟨a1, a2, term, 2, both, nets, done⟩ 2).up = false from hup, if_neg (by simp), h.call]
   repeat (conv=>arg 2;whnf;arg 2;tactic=>first|exact g1|exact hup|exact gS|exact gN|exact congrArg not hup|exact g2)
   conv => arg 2; whnf
   exact .s00 ..
  ·rw [show (WorldM.nd ⟨a1, a2, term, 2, both, nets, done⟩ 2).up = true from hup, if_pos rfl]
   have hln : ((a2.ops.map opD).length : Nat) = a2.ops.length := List.length_map ..
   have hol := hw.o2.l
   simp only at hol
   have ec := ev_cloneOp h a2.ops (by omega)
   rw [show joinMsg ⟨a1, a2, term, 2, both, nets, done⟩ = ⟨3, IntKind.i64.wrap (3 - 2), a2.term, ((a2.ops.map opD).length : Nat), noOp, a2.ops⟩ from by rw [hln]; rfl]
   have es := ev_isendH h ⟨a1, a2, term, 2, both, nets, done⟩ ⟨3, IntKind.i64.wrap (3 - 2), a2.term, ((a2.ops.map opD).length : Nat), noOp, a2.ops⟩ hl
   unfold sendM
   cases hc : decide ((nets.length : Int) < 12)
   ·simp only [hc, Bool.false_eq_true, if_false] at es ⊢
    rw [h.call]
    repeat (conv=>arg 2;whnf;arg 2;tactic=>first|exact g1|exact hup|exact ec|exact es|exact gS|exact gN|exact congrArg not hup|exact g2)
    conv => arg 2; whnf
    exact .s00 ..
   ·simp only [hc, if_true] at es ⊢
    rw [h.call]
    repeat (conv=>arg 2;whnf;arg 2;tactic=>first|exact g1|exact hup|exact ec|exact es|exact gS|exact gN|exact congrArg not hup|exact g2)
    conv => arg 2; whnf
    exact .sD0 ..
theorem ev_ido (w : WorldM) (hw : WG w) (hi : WInv w) (e : EvM) (he : e.op.Sz) : IR (doM w e) (W f_impl_World_do [.ptr 0 0, evA e] (iS w)) := by
 have hl := hw.nl
 have n1 : ∀ {a b : Int}, ¬ a = b → (a == b) = false := fun hab => by simp [hab]
 have y1 : ∀ {a b : Int}, a = b → (a == b) = true := fun hab => by simp [hab]
 have ein := ev_isNode h e.a
 have hlead := hw.lead
 have eask : inR e.a 1 2 = true → IR (askM w e.a e.op) (W f_impl_World_ask [.ptr 0 0, .int .i64 e.a, .agg (opC e.op)] (iS w)) := fun hc => ev_iask h w hw hi.k1 hi.k2 e.a (inR12 hc) e.op he
 have enet := fun hk => ev_inet h w hw hi e.kind hk e.a
 have elead := fun (id : Int) hid => ev_itake h w hw id hid
 have ejoin := ev_ijoin h w hw
 unfold doM
 obtain ⟨ek, ea, eo⟩ := e
 obtain ⟨a1, a2, term, lead, both, nets, done⟩ := w
 simp only at *
 by_cases k1 : ek = 1
 ·rw [if_pos k1]
  cases hc : inR ea 1 2
  ·rw [hc] at ein
   rw [if_neg (by simp), h.call]
   repeat (conv=>arg 2;whnf;arg 2;tactic=>first|exact g1|exact y1 k1|exact ein|exact gN|exact g2)
   conv => arg 2; whnf
   exact .s00 ..
  ·rw [hc] at ein
   rw [if_pos rfl]
   obtain ⟨r, hq, hr⟩ := ex_of (eask hc)
   clear eask
   generalize askM ⟨a1, a2, term, lead, both, nets, done⟩ ea eo = w' at hr ⊢
   rw [h.call]
   repeat (conv=>arg 2;whnf;arg 2;tactic=>first|exact g1|exact y1 k1|exact ein|exact gS|exact gN|exact g2)
   conv => arg 2; whnf; arg 2; tactic => exact hq
   cases hr
   ·repeat (conv=>arg 2;whnf;arg 2;tactic=>first|exact g1|exact gS|exact gN|exact g2)
    conv => arg 2; whnf
    exact .s00 ..
   ·repeat (conv=>arg 2;whnf;arg 2;tactic=>first|exact g1|exact gS|exact gN|exact g2)
    conv => arg 2; whnf
    exact .sD0 ..
   ·repeat (conv=>arg 2;whnf;arg 2;tactic=>first|exact g1|exact gS|exact gN|exact g2)
    conv => arg 2; whnf
    exact .s0R ..
   ·repeat (conv=>arg 2;whnf;arg 2;tactic=>first|exact g1|exact gS|exact gN|exact g2)
    conv => arg 2; whnf
    exact .sDR ..
 ·rw [if_neg k1]
  by_cases k2 : ek = 2 ∨ ek = 3 ∨ ek = 4
  ·rw [if_pos k2]
   obtain ⟨r, hq, hr⟩ := ex_of (enet k2)
   clear enet
   generalize netM ⟨a1, a2, term, lead, both, nets, done⟩ ek ea = w' at hr ⊢
   have ek2 : (ek == 2) = true ∨ ((ek == 2) = false ∧ (ek == 3) = true) ∨ ((ek == 2) = false ∧ (ek == 3) = false ∧ (ek == 4) = true) := by
    rcases k2 with rfl | rfl | rfl
    ·exact .inl rfl
    ·exact .inr (.inl ⟨rfl, rfl⟩)
    ·exact .inr (.inr ⟨rfl, rfl, rfl⟩)
   rw [h.call]
   rcases ek2 with q2 | ⟨q2, q3⟩ | ⟨q2, q3, q4⟩
   ·repeat (conv=>arg 2;whnf;arg 2;tactic=>first|exact g1|exact n1 k1|exact q2|exact gS|exact gN|exact g2)
    conv => arg 2; whnf; arg 2; tactic => exact hq
    cases hr
    ·repeat (conv=>arg 2;whnf;arg 2;tactic=>first|exact g1|exact gS|exact gN|exact g2)
     conv => arg 2; whnf
     exact .s00 ..
    ·repeat (conv=>arg 2;whnf;arg 2;tactic=>first|exact g1|exact gS|exact gN|exact g2)
     conv => arg 2; whnf
     exact .sD0 ..
    ·repeat (conv=>arg 2;whnf;arg 2;tactic=>first|exact g1|exact gS|exact gN|exact g2)
     conv => arg 2; whnf
     exact .s0R ..
    ·repeat (conv=>arg 2;whnf;arg 2;tactic=>first|exact g1|exact gS|exact gN|exact g2)
     conv => arg 2; whnf
     exact .sDR ..
   ·repeat (conv=>arg 2;whnf;arg 2;tactic=>first|exact g1|exact n1 k1|exact q2|exact q3|exact gS|exact gN|exact g2)
    conv => arg 2; whnf; arg 2; tactic => exact hq
    cases hr
    ·repeat (conv=>arg 2;whnf;arg 2;tactic=>first|exact g1|exact gS|exact gN|exact g2)
     conv => arg 2; whnf
     exact .s00 ..
    ·repeat (conv=>arg 2;whnf;arg 2;tactic=>first|exact g1|exact gS|exact gN|exact g2)
     conv => arg 2; whnf
     exact .sD0 ..
    ·repeat (conv=>arg 2;whnf;arg 2;tactic=>first|exact g1|exact gS|exact gN|exact g2)
     conv => arg 2; whnf
     exact .s0R ..
    ·repeat (conv=>arg 2;whnf;arg 2;tactic=>first|exact g1|exact gS|exact gN|exact g2)
     conv => arg 2; whnf
     exact .sDR ..
   ·repeat (conv=>arg 2;whnf;arg 2;tactic=>first|exact g1|exact n1 k1|exact q2|exact q3|exact q4|exact gS|exact gN|exact congrArg not q4|exact g2)
    conv => arg 2; whnf; arg 2; tactic => exact hq
    cases hr
    ·repeat (conv=>arg 2;whnf;arg 2;tactic=>first|exact g1|exact gS|exact gN|exact g2)
     conv => arg 2; whnf
     exact .s00 ..
    ·repeat (conv=>arg 2;whnf;arg 2;tactic=>first|exact g1|exact gS|exact gN|exact g2)
     conv => arg 2; whnf
     exact .sD0 ..
    ·repeat (conv=>arg 2;whnf;arg 2;tactic=>first|exact g1|exact gS|exact gN|exact g2)
     conv => arg 2; whnf
     exact .s0R ..
    ·repeat (conv=>arg 2;whnf;arg 2;tactic=>first|exact g1|exact gS|exact gN|exact g2)
     conv => arg 2; whnf
     exact .sDR ..
  ·rw [if_neg k2]
   have q2 : ¬ ek = 2 := fun e => k2 (.inl e)
   have q3 : ¬ ek = 3 := fun e => k2 (.inr (.inl e))
   have q4 : ¬ ek = 4 := fun e => k2 (.inr (.inr e))
   by_cases k5 : ek = 5 ∨ ek = 6
   ·rw [if_pos k5]
    have ek5 : (ek == 5) = true ∨ ((ek == 5) = false ∧ (ek == 6) = true) := by
     rcases k5 with rfl | rfl
     ·exact .inl rfl
     ·exact .inr ⟨rfl, rfl⟩
    cases hc : inR ea 1 2
    ·rw [hc] at ein
     rw [if_neg (by simp), h.call]
     rcases ek5 with q5 | ⟨q5, q6⟩
     ·repeat (conv=>arg 2;whnf;arg 2;tactic=>first|exact g1|exact n1 k1|exact n1 q2|exact n1 q3|exact n1 q4|exact q5|exact ein|exact gN|exact congrArg not q5|exact g2)
      conv => arg 2; whnf
      exact .s00 ..
     ·repeat (conv=>arg 2;whnf;arg 2;tactic=>first|exact g1|exact n1 k1|exact n1 q2|exact n1 q3|exact n1 q4|exact q5|exact q6|exact ein|exact gN|exact congrArg not q5|exact congrArg not q6|exact g2)
      conv => arg 2; whnf
      exact .s00 ..
    ·rw [hc] at ein
     rw [if_pos rfl, h.call]
     rcases inR12 hc with rfl | rfl
     ·rcases ek5 with q5 | ⟨q5, q6⟩
      ·repeat (conv=>arg 2;whnf;arg 2;tactic=>first|exact g1|exact n1 k1|exact n1 q2|exact n1 q3|exact n1 q4|exact q5|exact ein|exact gS|exact gN|exact congrArg not q5|exact g2)
       conv => arg 2; whnf
       exact .s00 ..
      ·repeat (conv=>arg 2;whnf;arg 2;tactic=>first|exact g1|exact n1 k1|exact n1 q2|exact n1 q3|exact n1 q4|exact q5|exact q6|exact ein|exact gS|exact gN|exact congrArg not q5|exact congrArg not q6|exact g2)
       conv => arg 2; whnf
       exact .s00 ..
     ·rcases ek5 with q5 | ⟨q5, q6⟩
      ·repeat (conv=>arg 2;whnf;arg 2;tactic=>first|exact g1|exact n1 k1|exact n1 q2|exact n1 q3|exact n1 q4|exact q5|exact ein|exact gS|exact gN|exact congrArg not q5|exact g2)
       conv => arg 2; whnf
       exact .s00 ..
      ·repeat (conv=>arg 2;whnf;arg 2;tactic=>first|exact g1|exact n1 k1|exact n1 q2|exact n1 q3|exact n1 q4|exact q5|exact q6|exact ein|exact gS|exact gN|exact congrArg not q5|exact congrArg not q6|exact g2)
       conv => arg 2; whnf
       exact .s00 ..
   ·rw [if_neg k5]
    have q5 : ¬ ek = 5 := fun e => k5 (.inl e)
    have q6 : ¬ ek = 6 := fun e => k5 (.inr e)
    by_cases k7 : ek = 7
    ·rw [if_pos k7]
     cases both
     ·rw [if_neg (by simp), h.call]
      repeat (conv=>arg 2;whnf;arg 2;tactic=>first|exact g1|exact n1 k1|exact n1 q2|exact n1 q3|exact n1 q4|exact n1 q5|exact n1 q6|exact y1 k7|exact gN|exact g2)
      conv => arg 2; whnf
      exact .s00 ..
     ·rcases hlead with rfl | rfl
      ·rw [show (3 : Int) - 1 = IntKind.i64.wrap (3 - 1) from rfl]
       simp only [Bool.true_and]
       cases hup : a2.up
       ·rw [show (WorldM.nd ⟨a1, a2, term, 1, true, nets, done⟩ (IntKind.i64.wrap (3 - 1))).up = false from hup, if_neg (by simp), h.call]
        repeat (conv=>arg 2;whnf;arg 2;tactic=>first|exact g1|exact n1 k1|exact n1 q2|exact n1 q3|exact n1 q4|exact n1 q5|exact n1 q6|exact y1 k7|exact hup|exact gS|exact gN|exact congrArg not hup|exact g2)
        conv => arg 2; whnf
        exact .s00 ..
       ·rw [show (WorldM.nd ⟨a1, a2, term, 1, true, nets, done⟩ (IntKind.i64.wrap (3 - 1))).up = true from hup, if_pos rfl]
        obtain ⟨r, hq, hr⟩ := ex_of (elead (IntKind.i64.wrap (3 - 1)) (by decide))
        generalize leadM _ _ = w' at hr ⊢
        rw [h.call]
        repeat (conv=>arg 2;whnf;arg 2;tactic=>first|exact g1|exact n1 k1|exact n1 q2|exact n1 q3|exact n1 q4|exact n1 q5|exact n1 q6|exact y1 k7|exact hup|exact gS|exact gN|exact congrArg not hup|exact g2)
        conv => arg 2; whnf; arg 2; tactic => exact hq
        cases hr
        ·repeat (conv=>arg 2;whnf;arg 2;tactic=>first|exact g1|exact gS|exact gN|exact g2)
         conv => arg 2; whnf
         exact .s00 ..
        ·repeat (conv=>arg 2;whnf;arg 2;tactic=>first|exact g1|exact gS|exact gN|exact g2)
         conv => arg 2; whnf
         exact .sD0 ..
        ·repeat (conv=>arg 2;whnf;arg 2;tactic=>first|exact g1|exact gS|exact gN|exact g2)
         conv => arg 2; whnf
         exact .s0R ..
        ·repeat (conv=>arg 2;whnf;arg 2;tactic=>first|exact g1|exact gS|exact gN|exact g2)
         conv => arg 2; whnf
         exact .sDR ..
      ·rw [show (3 : Int) - 2 = IntKind.i64.wrap (3 - 2) from rfl]
       simp only [Bool.true_and]
       cases hup : a1.up
       ·rw [show (WorldM.nd ⟨a1, a2, term, 2, true, nets, done⟩ (IntKind.i64.wrap (3 - 2))).up = false from hup, if_neg (by simp), h.call]
        repeat (conv=>arg 2;whnf;arg 2;tactic=>first|exact g1|exact n1 k1|exact n1 q2|exact n1 q3|exact n1 q4|exact n1 q5|exact n1 q6|exact y1 k7|exact hup|exact gS|exact gN|exact congrArg not hup|exact g2)
        conv => arg 2; whnf
        exact .s00 ..
       ·rw [show (WorldM.nd ⟨a1, a2, term, 2, true, nets, done⟩ (IntKind.i64.wrap (3 - 2))).up = true from hup, if_pos rfl]
        obtain ⟨r, hq, hr⟩ := ex_of (elead (IntKind.i64.wrap (3 - 2)) (by decide))
        generalize leadM _ _ = w' at hr ⊢
        rw [h.call]
        repeat (conv=>arg 2;whnf;arg 2;tactic=>first|exact g1|exact n1 k1|exact n1 q2|exact n1 q3|exact n1 q4|exact n1 q5|exact n1 q6|exact y1 k7|exact hup|exact gS|exact gN|exact congrArg not hup|exact g2)
        conv => arg 2; whnf; arg 2; tactic => exact hq
        cases hr
        ·repeat (conv=>arg 2;whnf;arg 2;tactic=>first|exact g1|exact gS|exact gN|exact g2)
         conv => arg 2; whnf
         exact .s00 ..
        ·repeat (conv=>arg 2;whnf;arg 2;tactic=>first|exact g1|exact gS|exact gN|exact g2)
         conv => arg 2; whnf
         exact .sD0 ..
        ·repeat (conv=>arg 2;whnf;arg 2;tactic=>first|exact g1|exact gS|exact gN|exact g2)
         conv => arg 2; whnf
         exact .s0R ..
        ·repeat (conv=>arg 2;whnf;arg 2;tactic=>first|exact g1|exact gS|exact gN|exact g2)
         conv => arg 2; whnf
         exact .sDR ..
    ·rw [if_neg k7]
     by_cases k8 : ek = 8
     ·rw [if_pos k8]
      cases both
      ·rw [if_neg (by simp), h.call]
       repeat (conv=>arg 2;whnf;arg 2;tactic=>first|exact g1|exact n1 k1|exact n1 q2|exact n1 q3|exact n1 q4|exact n1 q5|exact n1 q6|exact n1 k7|exact y1 k8|exact gN|exact g2)
       conv => arg 2; whnf
       exact .s00 ..
      ·rcases hlead with rfl | rfl
       ·simp only [Bool.true_and]
        cases hup : a1.up
        ·rw [show (WorldM.nd ⟨a1, a2, term, 1, true, nets, done⟩ 1).up = false from hup, if_neg (by simp), h.call]
         repeat (conv=>arg 2;whnf;arg 2;tactic=>first|exact g1|exact n1 k1|exact n1 q2|exact n1 q3|exact n1 q4|exact n1 q5|exact n1 q6|exact n1 k7|exact y1 k8|exact hup|exact gS|exact gN|exact congrArg not hup|exact g2)
         conv => arg 2; whnf
         exact .s00 ..
        ·rw [show (WorldM.nd ⟨a1, a2, term, 1, true, nets, done⟩ 1).up = true from hup, if_pos rfl]
         obtain ⟨r, hq, hr⟩ := ex_of (elead 1 (by decide))
         generalize leadM _ _ = w' at hr ⊢
         rw [h.call]
         repeat (conv=>arg 2;whnf;arg 2;tactic=>first|exact g1|exact n1 k1|exact n1 q2|exact n1 q3|exact n1 q4|exact n1 q5|exact n1 q6|exact n1 k7|exact y1 k8|exact hup|exact gS|exact gN|exact congrArg not hup|exact g2)
         conv => arg 2; whnf; arg 2; tactic => exact hq
         cases hr
         ·repeat (conv=>arg 2;whnf;arg 2;tactic=>first|exact g1|exact gS|exact gN|exact g2)
          conv => arg 2; whnf
          exact .s00 ..
         ·repeat (conv=>arg 2;whnf;arg 2;tactic=>first|exact g1|exact gS|exact gN|exact g2)
          conv => arg 2; whnf
          exact .sD0 ..
         ·repeat (conv=>arg 2;whnf;arg 2;tactic=>first|exact g1|exact gS|exact gN|exact g2)
          conv => arg 2; whnf
          exact .s0R ..
         ·repeat (conv=>arg 2;whnf;arg 2;tactic=>first|exact g1|exact gS|exact gN|exact g2)
          conv => arg 2; whnf
          exact .sDR ..
       ·simp only [Bool.true_and]
        cases hup : a2.up
        ·rw [show (WorldM.nd ⟨a1, a2, term, 2, true, nets, done⟩ 2).up = false from hup, if_neg (by simp), h.call]
         repeat (conv=>arg 2;whnf;arg 2;tactic=>first|exact g1|exact n1 k1|exact n1 q2|exact n1 q3|exact n1 q4|exact n1 q5|exact n1 q6|exact n1 k7|exact y1 k8|exact hup|exact gS|exact gN|exact congrArg not hup|exact g2)
         conv => arg 2; whnf
         exact .s00 ..
        ·rw [show (WorldM.nd ⟨a1, a2, term, 2, true, nets, done⟩ 2).up = true from hup, if_pos rfl]
         obtain ⟨r, hq, hr⟩ := ex_of (elead 2 (by decide))
         generalize leadM _ _ = w' at hr ⊢
         rw [h.call]
         repeat (conv=>arg 2;whnf;arg 2;tactic=>first|exact g1|exact n1 k1|exact n1 q2|exact n1 q3|exact n1 q4|exact n1 q5|exact n1 q6|exact n1 k7|exact y1 k8|exact hup|exact gS|exact gN|exact congrArg not hup|exact g2)
         conv => arg 2; whnf; arg 2; tactic => exact hq
         cases hr
         ·repeat (conv=>arg 2;whnf;arg 2;tactic=>first|exact g1|exact gS|exact gN|exact g2)
          conv => arg 2; whnf
          exact .s00 ..
         ·repeat (conv=>arg 2;whnf;arg 2;tactic=>first|exact g1|exact gS|exact gN|exact g2)
          conv => arg 2; whnf
          exact .sD0 ..
         ·repeat (conv=>arg 2;whnf;arg 2;tactic=>first|exact g1|exact gS|exact gN|exact g2)
          conv => arg 2; whnf
          exact .s0R ..
         ·repeat (conv=>arg 2;whnf;arg 2;tactic=>first|exact g1|exact gS|exact gN|exact g2)
          conv => arg 2; whnf
          exact .sDR ..
     ·rw [if_neg k8]
      by_cases k9 : ek = 9
      ·rw [if_pos k9]
       obtain ⟨r, hq, hr⟩ := ex_of ejoin
       clear ejoin
       generalize joinM ⟨a1, a2, term, lead, both, nets, done⟩ = w' at hr ⊢
       rw [h.call]
       repeat (conv=>arg 2;whnf;arg 2;tactic=>first|exact g1|exact n1 k1|exact n1 q2|exact n1 q3|exact n1 q4|exact n1 q5|exact n1 q6|exact n1 k7|exact n1 k8|exact y1 k9|exact gS|exact gN|exact g2)
       conv => arg 2; whnf; arg 2; tactic => exact hq
       cases hr
       ·repeat (conv=>arg 2;whnf;arg 2;tactic=>first|exact g1|exact gS|exact gN|exact g2)
        conv => arg 2; whnf
        exact .s00 ..
       ·repeat (conv=>arg 2;whnf;arg 2;tactic=>first|exact g1|exact gS|exact gN|exact g2)
        conv => arg 2; whnf
        exact .sD0 ..
       ·repeat (conv=>arg 2;whnf;arg 2;tactic=>first|exact g1|exact gS|exact gN|exact g2)
        conv => arg 2; whnf
        exact .s0R ..
       ·repeat (conv=>arg 2;whnf;arg 2;tactic=>first|exact g1|exact gS|exact gN|exact g2)
        conv => arg 2; whnf
        exact .sDR ..
      ·rw [if_neg k9, h.call]
       repeat (conv=>arg 2;whnf;arg 2;tactic=>first|exact g1|exact n1 k1|exact n1 q2|exact n1 q3|exact n1 q4|exact n1 q5|exact n1 q6|exact n1 k7|exact n1 k8|exact n1 k9|exact gN|exact g2)
       conv => arg 2; whnf
       exact .s00 ..
end
end Go.Gn

namespace Go.Gn
open Go
set_option maxRecDepth 100000
set_option maxHeartbeats 16000000
def iPO (w : WorldM) : List Obj := [zW, .box [.hw 2, .int .i64 w.term, .int .i64 w.lead, .bool w.both, .hw 3, .hw 4], iN w, nR 0 w.nets, oR 5 w.done]
section
variable {W : CallF} {L : LoopF} {E : EqF} {T : Prop → Bool} (h : IsK G W L E T)
include h
theorem ev_iNodeNew1 : W f_impl_NodeNew [.int .i64 1] [] = some (.tup [.agg [.bool true, .int .i64 1, .bool true, .bool true, .nils], .bool true], []) := by
 rw [h.call]
 repeat (conv=>lhs;whnf;arg 2;tactic=>first|exact g1|exact g2)
 rfl
theorem ev_iNodeNew2 : W f_impl_NodeNew [.int .i64 2] [] = some (.tup [.agg [.bool true, .int .i64 0, .bool false, .bool false, .nils], .bool true], []) := by
 rw [h.call]
 repeat (conv=>lhs;whnf;arg 2;tactic=>first|exact g1|exact g2)
 rfl
theorem ev_iWorldNew : W f_impl_WorldNew [] [] = some (worldI worldNew, worldIO worldNew) := by
 have e1 := ev_iNodeNew1 h
 have e2 := ev_iNodeNew2 h
 rw [h.call]
 repeat (conv=>lhs;whnf;arg 2;tactic=>first|exact g1|exact e1|exact e2|exact g2)
 rfl
theorem iplay_loop (es : List EvM) (hes : EvS es) (hel : es.length < 2000000) : ∀ (m i : Nat) (w : WorldM), i + m = es.length → WG w → WInv w → L (norm 0 cf34.live) (exitN 0 cf34.out (evCW W L G cf34 0 c34l0)) ⟨[(2, .ptr 0 0), (4, .ptr 1 0), (12, .sl .br (es.map evD)), (13, .int .i64 ((es.map evD).length : Nat)), (14, .int .i64 (i : Nat))], iPO w⟩ =
  some (.ext 0, ⟨[(2, .ptr 0 0), (3, .top), (4, .ptr 1 0)], iPO (playM w (es.drop i))⟩)
 | 0, i, w, hm, hw, hi => by
  have hlen : ((es.map evD).length : Nat) = es.length := List.length_map ..
  rw [List.drop_eq_nil_of_le (show es.length ≤ i by omega), h.loop]
  repeat (conv=>lhs;whnf;arg 2;tactic=>first|exact g1|exact gS|exact g2)
  rfl
 | m + 1, i, w, hm, hw, hi => by
  have hlen : ((es.map evD).length : Nat) = es.length := List.length_map ..
  obtain ⟨e, hx⟩ := get_some (xs := es) (i := i) (by omega)
  have he := hes e (List.mem_of_getElem? hx)
  have ih := iplay_loop es hes hel m (i + 1) (doM w e) (by omega) (hw.doM e) (winv_do hi e)
  obtain ⟨r, hq, hr⟩ := ex_of (ev_ido h w hw hi e he.sz)
  rw [drop_cons hx]
  show _ = some (_, (⟨_, iPO (playM (doM w e) (es.drop (i + 1)))⟩ : St))
  rw [← ih]
  clear ih
  generalize doM w e = w2 at hr ⊢
  rw [h.loop]
  repeat (conv=>lhs;whnf;arg 2;tactic=>first|exact g1|exact map_get hx|exact gS|exact g2)
  conv => lhs; whnf; arg 2; tactic => exact hq
  cases hr
  ·repeat (conv=>lhs;whnf;arg 2;tactic=>first|exact g1|exact gS|exact g2)
   conv => lhs; whnf
   rw [wrap_succ (by omega)]
   rfl
  ·repeat (conv=>lhs;whnf;arg 2;tactic=>first|exact g1|exact gS|exact g2)
   conv => lhs; whnf
   rw [wrap_succ (by omega)]
   rfl
  ·repeat (conv=>lhs;whnf;arg 2;tactic=>first|exact g1|exact gS|exact g2)
   conv => lhs; whnf
   rw [wrap_succ (by omega)]
   rfl
  ·repeat (conv=>lhs;whnf;arg 2;tactic=>first|exact g1|exact gS|exact g2)
   conv => lhs; whnf
   rw [wrap_succ (by omega)]
   rfl
theorem ev_iWorldPlay (es : List EvM) (hes : EvS es) (hl : es.length ≤ 60) : W f_impl_WorldPlay [.sl .br (es.map evD)] [] = some (.tup [worldI (playM worldNew es), .bool true], worldIO (playM worldNew es)) := by
 have hlen : ((es.map evD).length : Nat) = es.length := List.length_map ..
 have e0 := ev_iWorldNew h
 have e1 := iplay_loop h es hes (by omega) es.length 0 worldNew (by omega) WG.new winv_new
 rw [nc0, List.drop_zero] at e1
 rw [h.call]
 repeat (conv=>lhs;whnf;arg 2;tactic=>first|exact g1|exact e0|exact e1|exact gS|exact g2)
 rfl
theorem ev_iWorldPlayL (es : List EvM) (hl : es.length = 61) : W f_impl_WorldPlay [.sl .br (es.map evD)] [] = some (.tup [.agg [.nils, .int .i64 0, .int .i64 0, .bool false, .nils, .nils], .bool false], []) := by
 have hlen : ((es.map evD).length : Nat) = es.length := List.length_map ..
 rw [h.call]
 repeat (conv=>lhs;whnf;arg 2;tactic=>first|exact g1|exact gS|exact g2)
 rfl
end
end Go.Gn

namespace Go.Gn
open Go
theorem net_last {w : WorldM} {ns : List MsgM} {m : MsgM} (h : w.nets = ns ++ [m]) : netM w 2 ((w.nets.length : Int) - 1) = bringM { w with nets := ns } m := by
 have hl : (w.nets.length : Int) - 1 = (ns.length : Nat) := by rw [h]; simp
 unfold netM
 rw [if_pos (by rw [inR_iff]; omega), hl, Int.toNat_natCast]
 have hg : w.nets[ns.length]? = some m := by rw [h]; simp
 rw [hg]
 simp only [if_true]
 have e : w.nets.take ns.length ++ w.nets.drop (ns.length + 1) = ns := by rw [h]; simp
 rw [e, if_neg (by decide)]
theorem sendM_eq {w : WorldM} (m : MsgM) (h : w.nets.length < 12) : sendM w m = { w with nets := w.nets ++ [m] } := by
 unfold sendM
 rw [if_pos (decide_eq_true (by omega))]
structure AskY (w : WorldM) (o : OpM) (x : WorldM) : Prop where
 nn : x.nd w.lead = nodeAdd (w.nd w.lead) o
 oo : x.nd (3 - w.lead) = w.nd (3 - w.lead)
 l : x.lead = w.lead
 b : x.both = w.both
 t : x.term = w.term
 da : w.both = false → x.done = (w.nd w.lead).ops ++ [o]
 db : w.both = true → x.done = w.done
 ns : x.nets = if w.nets.length < 12 then w.nets ++ [askMsg (w.nd w.lead) w.lead o] else w.nets
end Go.Gn

namespace Go.Gn
open Go
theorem OpsG.pre {a b : List OpM} (h : OpsG b) (hp : a <+: b) : OpsG a := by
 obtain ⟨c, rfl⟩ := hp
 have := h.take a.length
 rwa [List.take_left] at this
theorem lose0 {w : WorldM} {m : MsgM} {r : List MsgM} (h : w.nets = m :: r) : netM w 3 0 = { w with nets := r } := by
 unfold netM
 rw [if_pos (by rw [inR_iff, h]; simp), h]
 rfl
def loseM : Nat → WorldM → WorldM
 | 0, w => w
 | n + 1, w => loseM n (netM w 3 0)
theorem lose_all : ∀ (n : Nat) (w : WorldM), w.nets.length = n → loseM n w = { w with nets := [] }
 | 0, w, h => by
  have := List.eq_nil_of_length_eq_zero h
  cases w
  simp only at this
  subst this
  rfl
 | n + 1, w, h => by
  cases hn : w.nets with
  | nil => rw [hn] at h; simp at h
  | cons m r =>
   show loseM n (netM w 3 0) = _
   rw [lose0 hn, lose_all n _ (by rw [hn] at h; simpa using h)]
theorem quiet_eq (w : WorldM) : upM (upM { w with nets := [] } 1 true) 2 true = quietM w := rfl
end Go.Gn

namespace Go.Gn
open Go
theorem net_first {w : WorldM} {m : MsgM} {r : List MsgM} (h : w.nets = m :: r) : netM w 2 0 = bringM { w with nets := r } m := by
 unfold netM
 rw [if_pos (by rw [inR_iff, h]; simp), h]
 rfl
theorem core_dry (w : WorldM) (m : MsgM) : coreB w.dry m = coreB w m := rfl
theorem twice_same {w : WorldM} {m : MsgM} {r : List MsgM} (hn : w.nets = m :: r) (hm : msgOk m = true) (hl : w.nets.length < 12) {y : WorldM} (hy : y = netM (sendM w m) 2 (((sendM w m).nets.length : Int) - 1)) :
  (netM y 2 0).dry = (netM w 2 0).dry := by
 rw [net_first hn, bring_core, core_core]
 have hs : (sendM w m).nets = w.nets ++ [m] := by rw [sendM_eq m hl]
 have e1 := net_last hs
 rw [← hy] at e1
 have e2 : ({ sendM w m with nets := w.nets } : WorldM) = w := by rw [sendM_eq m hl]
 rw [e2] at e1
 obtain ⟨l, h3⟩ := bring_nets w m
 rw [← e1, hn] at h3
 rw [net_first (w := y) (m := m) (r := r ++ l) (by rw [h3]; rfl), bring_core, core_core, ← core_dry y, e1, bring_core, core_twice w hm]
theorem dry_eq {a b : WorldM} (h : a.dry = b.dry) : a.n1 = b.n1 ∧ a.n2 = b.n2 ∧ a.both = b.both ∧ a.done = b.done := by
 unfold WorldM.dry at h
 injection h with h1 h2 h3 h4 h5 h6 h7
 exact ⟨h1, h2, h5, h7⟩
theorem net_at {w : WorldM} {k : Nat} {m : MsgM} (h : w.nets[k]? = some m) (kind : Int) : netM w kind (k : Nat) = if kind = 4 then sendM w m else if kind = 2 then bringM { w with nets := w.nets.take k ++ w.nets.drop (k + 1) } m else { w with nets := w.nets.take k ++ w.nets.drop (k + 1) } := by
 have hl := (List.getElem?_eq_some_iff.1 h).1
 unfold netM
 rw [if_pos (by rw [inR_iff]; omega), Int.toNat_natCast, h]
end Go.Gn

namespace Go.Gn
open Go
structure GoodW (w : WorldM) : Prop where
 g : WG w
 i : WInv w
theorem GoodW.new : GoodW worldNew := ⟨WG.new, winv_new⟩
theorem GoodW.doM {w : WorldM} (h : GoodW w) (e : EvM) : GoodW (doM w e) := ⟨h.g.doM e, winv_do h.i e⟩
theorem GoodW.play {w : WorldM} (h : GoodW w) (es : List EvM) : GoodW (playM w es) := ⟨h.g.play es, winv_play es h.i⟩
theorem GoodW.calm {w : WorldM} (h : GoodW w) (n : Nat) : GoodW (calmM n w) := ⟨h.g.calm n, winv_calm n h.i⟩
theorem GoodW.ok {w : WorldM} (h : GoodW w) : worldOkM w = true := (winv_iff h.i.lead).2 h.i
theorem WG.wl {w : WorldM} (h : WG w) : WL w := ⟨h.lead, h.o1.sz, h.o2.sz, by have := h.nl; omega, fun m hm => (h.nets m hm).sz, h.done.sz⟩
theorem play_term {es : List EvM} (hl : es.length ≤ 60) : ¬ (playM worldNew es).term ≥ 99 ∧ (playM worldNew es).term ≤ 61 := by
 have := term_play es worldNew
 have h1 : worldNew.term = 1 := rfl
 omega
theorem calm_still {w : WorldM} (h : WInv w) : ∀ k, calmM k (restM w) = restM w
 | 0 => rfl
 | k + 1 => by
  have hr : WInv (restM w) := by
   have := winv_calm 1 h
   rwa [calm_rest 0 h] at this
  rw [calm_rest k hr, rest_rest w h.lead]
theorem do_ask {w : WorldM} {id : Int} (hid : id = 1 ∨ id = 2) (o : OpM) : doM w ⟨1, id, o⟩ = askM w id o := by
 unfold doM
 rw [if_pos rfl, if_pos (by show inR id 1 2 = true; rw [inR_iff]; omega)]
theorem do_bring (w : WorldM) (i : Int) (o : OpM) : doM w ⟨2, i, o⟩ = netM w 2 i := by
 unfold doM
 rw [if_neg (by show ¬ (2 : Int) = 1; decide), if_pos (.inl rfl)]
theorem do_twice (w : WorldM) (i : Int) (o : OpM) : doM w ⟨4, i, o⟩ = netM w 4 i := by
 unfold doM
 rw [if_neg (by show ¬ (4 : Int) = 1; decide), if_pos (.inr (.inr rfl))]
theorem do_lose (w : WorldM) (i : Int) (o : OpM) : doM w ⟨3, i, o⟩ = netM w 3 i := by
 unfold doM
 rw [if_neg (by show ¬ (3 : Int) = 1; decide), if_pos (.inr (.inl rfl))]
end Go.Gn

namespace Go.Gn
open Go
set_option maxRecDepth 100000
set_option maxHeartbeats 16000000
section
variable {W : CallF} {L : LoopF} {E : EqF} {T : Prop → Bool} (h : IsK G W L E T)
include h
theorem splay_loop (es : List EvM) (hes : EvS es) (hel : es.length < 2000000) : ∀ (m i : Nat) (w : WorldM), i + m = es.length → WG w → L (norm 0 cf35.live) (exitN 0 cf35.out (evCW W L G cf35 0 c35l0)) ⟨[(0, .sl .br (es.map evD)), (2, .ptr 0 0), (4, .ptr 1 0), (5, .int .i64 (i : Nat))], plO2 w⟩ =
  some (.ext 0, ⟨[(2, .ptr 0 0), (3, .top), (4, .ptr 1 0)], plO2 (playM w (es.drop i))⟩)
 | 0, i, w, hm, hw => by
  have hlen : ((es.map evD).length : Nat) = es.length := List.length_map ..
  rw [List.drop_eq_nil_of_le (show es.length ≤ i by omega), h.loop]
  repeat (conv=>lhs;whnf;arg 2;tactic=>first|exact g1|exact gS|exact g2)
  rfl
 | m + 1, i, w, hm, hw => by
  have hlen : ((es.map evD).length : Nat) = es.length := List.length_map ..
  obtain ⟨e, hx⟩ := get_some (xs := es) (i := i) (by omega)
  have he := hes e (List.mem_of_getElem? hx)
  have ih := splay_loop es hes hel m (i + 1) (doM w e) (by omega) (hw.doM e)
  obtain ⟨r, hq, hr⟩ := ex_of (ev_l22Do h w hw 10 e he.sz)
  rw [drop_cons hx]
  show _ = some (_, (⟨_, plO2 (playM (doM w e) (es.drop (i + 1)))⟩ : St))
  rw [← ih]
  clear ih
  generalize doM w e = w2 at hr ⊢
  rw [h.loop]
  repeat (conv=>lhs;whnf;arg 2;tactic=>first|exact g1|exact map_get hx|exact gS|exact g2)
  conv => lhs; whnf; arg 2; tactic => exact hq
  cases hr
  ·repeat (conv=>lhs;whnf;arg 2;tactic=>first|exact g1|exact gS|exact g2)
   conv => lhs; whnf
   rw [wrap_succ (by omega)]
   rfl
  ·repeat (conv=>lhs;whnf;arg 2;tactic=>first|exact g1|exact gS|exact g2)
   conv => lhs; whnf
   rw [wrap_succ (by omega)]
   rfl
  ·repeat (conv=>lhs;whnf;arg 2;tactic=>first|exact g1|exact gS|exact g2)
   conv => lhs; whnf
   rw [wrap_succ (by omega)]
   rfl
  ·repeat (conv=>lhs;whnf;arg 2;tactic=>first|exact g1|exact gS|exact g2)
   conv => lhs; whnf
   rw [wrap_succ (by omega)]
   rfl
  ·repeat (conv=>lhs;whnf;arg 2;tactic=>first|exact g1|exact gS|exact g2)
   conv => lhs; whnf
   rw [wrap_succ (by omega)]
   rfl
  ·repeat (conv=>lhs;whnf;arg 2;tactic=>first|exact g1|exact gS|exact g2)
   conv => lhs; whnf
   rw [wrap_succ (by omega)]
   rfl
  ·repeat (conv=>lhs;whnf;arg 2;tactic=>first|exact g1|exact gS|exact g2)
   conv => lhs; whnf
   rw [wrap_succ (by omega)]
   rfl
  ·repeat (conv=>lhs;whnf;arg 2;tactic=>first|exact g1|exact gS|exact g2)
   conv => lhs; whnf
   rw [wrap_succ (by omega)]
   rfl
  ·repeat (conv=>lhs;whnf;arg 2;tactic=>first|exact g1|exact gS|exact g2)
   conv => lhs; whnf
   rw [wrap_succ (by omega)]
   rfl
  ·repeat (conv=>lhs;whnf;arg 2;tactic=>first|exact g1|exact gS|exact g2)
   conv => lhs; whnf
   rw [wrap_succ (by omega)]
   rfl
  ·repeat (conv=>lhs;whnf;arg 2;tactic=>first|exact g1|exact gS|exact g2)
   conv => lhs; whnf
   rw [wrap_succ (by omega)]
   rfl
  ·repeat (conv=>lhs;whnf;arg 2;tactic=>first|exact g1|exact gS|exact g2)
   conv => lhs; whnf
   rw [wrap_succ (by omega)]
   rfl
  ·repeat (conv=>lhs;whnf;arg 2;tactic=>first|exact g1|exact gS|exact g2)
   conv => lhs; whnf
   rw [wrap_succ (by omega)]
   rfl
  ·repeat (conv=>lhs;whnf;arg 2;tactic=>first|exact g1|exact gS|exact g2)
   conv => lhs; whnf
   rw [wrap_succ (by omega)]
   rfl
  ·repeat (conv=>lhs;whnf;arg 2;tactic=>first|exact g1|exact gS|exact g2)
   conv => lhs; whnf
   rw [wrap_succ (by omega)]
   rfl
  ·repeat (conv=>lhs;whnf;arg 2;tactic=>first|exact g1|exact gS|exact g2)
   conv => lhs; whnf
   rw [wrap_succ (by omega)]
   rfl
  ·repeat (conv=>lhs;whnf;arg 2;tactic=>first|exact g1|exact gS|exact g2)
   conv => lhs; whnf
   rw [wrap_succ (by omega)]
   rfl
theorem ev_sWorldPlay (es : List EvM) (hes : EvS es) (hl : es.length ≤ 60) : W f_spec_WorldPlay [.sl .br (es.map evD)] [] = some (.tup [wV (playM worldNew es) 3 4, .bool true], worldSD (playM worldNew es)) := by
 have hlen : ((es.map evD).length : Nat) = es.length := List.length_map ..
 have e0 := ev_sWorldNew h
 have e1 := splay_loop h es hes (by omega) es.length 0 worldNew (by omega) WG.new
 rw [nc0, List.drop_zero] at e1
 have ec := ev_l22Copy h (playM worldNew es) (WG.new.play es)
 generalize playM worldNew es = w at e1 ec
 rw [h.call]
 repeat (conv=>lhs;whnf;arg 2;tactic=>first|exact g1|exact e0|exact e1|exact ec|exact gS|exact g2)
 rfl
theorem ev_sWorldPlayL (es : List EvM) (hl : es.length = 61) : W f_spec_WorldPlay [.sl .br (es.map evD)] [] = some (.tup [.agg [.nils, .int .i64 0, .int .i64 0, .bool false, .nils, .nils], .bool false], []) := by
 have hlen : ((es.map evD).length : Nat) = es.length := List.length_map ..
 rw [h.call]
 repeat (conv=>lhs;whnf;arg 2;tactic=>first|exact g1|exact gS|exact g2)
 rfl
end
end Go.Gn

