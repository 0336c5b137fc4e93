/- Part 35 of a proof: an evaluator of the program, proved sound, and what it answers. -/
import Derived.Test.YtiicdghimmpjnaaGreatA34
set_option linter.all false
namespace Go.Gn
open Go
set_option linter.unusedVariables false
set_option linter.unusedSimpArgs false
set_option maxRecDepth 100000
set_option maxHeartbeats 16000000
def zM : Obj := .box [.int .i64 0, .int .i64 0, .int .i64 0, .int .i64 0, .int .i64 0, .str noText, .str noText, .int .i64 0, .str noText, .nils]
def mB (m : MsgM) : Obj := .box [.int .i64 m.kind, .int .i64 m.to, .int .i64 m.term, .int .i64 m.n, .int .i64 m.op.kind, .str m.op.name, .str m.op.to, .int .i64 m.op.n, .str m.op.text, .sl .sh (m.ops.map opD)]
def hS (cs : List Int) (p : Nat) (w : WorldM) : List Obj := [zN, zM, rdB cs p, .box [.hs 4 0 2, .int .i64 w.term, .int .i64 w.lead, .bool w.both, .hw 7, .hw 8], wB w 5 6, opsRow w.n1.ops, opsRow w.n2.ops, nR 10 w.nets, opsRow w.done]
def fS (cs : List Int) (p : Nat) (w : WorldM) (m : MsgM) : List Obj := if m.to = 1 then [nB w.n1 1, opsRow w.n1.ops, mB m, rdB cs p, .box [.hs 5 0 2, .int .i64 w.term, .int .i64 w.lead, .bool w.both, .hw 7, .hw 8], wB w 1 6, opsRow w.n2.ops, nR 10 w.nets, opsRow w.done]
 else [nB w.n2 1, opsRow w.n2.ops, mB m, rdB cs p, .box [.hs 5 0 2, .int .i64 w.term, .int .i64 w.lead, .bool w.both, .hw 7, .hw 8], wB w 6 1, opsRow w.n1.ops, nR 10 w.nets, opsRow w.done]
def HearR (cs : List Int) (e i : Nat) (w : WorldM) (p : Nat) (r : Xt × St) : Prop :=
 r = (.ext e, ⟨[(2, .ptr 0 0), (3, .top), (4, .ptr 1 0), (5, .ptr 2 0), (6, .ptr 3 0), (7, .int .i64 (i : Nat))], hS cs p w⟩) ∨
 ∃ m ∈ w.nets, r = (.ret, ⟨[(2, .ptr 0 0), (3, .int .i64 m.to), (4, .ptr 2 0), (5, .ptr 3 0), (6, .ptr 4 0), (7, .int .i64 (i : Nat))], fS cs p w m⟩)
section
variable {W : CallF} {L : LoopF} {E : EqF} {T : Prop → Bool} (h : IsK G W L E T)
include h
theorem hear_in (cs : List Int) (hc : ByOk cs) (w : WorldM) (hw : WZ w) (i : Nat) : ∀ (mm k p : Nat), k + mm = w.nets.length → p + mm < 900000 → ∃ p' r, p ≤ p' ∧ p' ≤ p + mm ∧ HearR cs 2 i w p' r ∧
  L (norm 0 cf13.live) (exitN 0 cf13.out (evCW W L G cf13 0 c13l0)) ⟨[(2, .ptr 0 0), (4, .ptr 1 0), (5, .ptr 2 0), (6, .ptr 3 0), (7, .int .i64 (i : Nat)), (8, .int .i64 (k : Nat))], hS cs p w⟩ = some r
 | 0, k, p, hk, hp => by
  have hln : ((w.nets.map msgD).length : Nat) = w.nets.length := List.length_map ..
  refine ⟨p, _, by omega, by omega, .inl rfl, ?_⟩
  rw [h.loop]
  repeat (conv=>lhs;whnf;arg 2;tactic=>first|exact g1|exact g2)
  rfl
 | mm + 1, k, p, hk, hp => by
  have hnl := hw.nl
  obtain ⟨m, hm⟩ := get_some (xs := w.nets) (i := k) (by omega)
  have hmm := List.mem_of_getElem? hm
  have hmg := hw.nets m hmm
  have hws := wrap_succ (i := k) (by omega)
  obtain ⟨v, ev, v0, v1, _⟩ := ev_pick h cs hc p (by omega) 3 (by omega)
  have skip : ∀ s, L (norm 0 cf13.live) (exitN 0 cf13.out (evCW W L G cf13 0 c13l0)) ⟨[(2, .ptr 0 0), (4, .ptr 1 0), (5, .ptr 2 0), (6, .ptr 3 0), (7, .int .i64 (i : Nat)), (8, .int .i64 (k : Nat))], hS cs p w⟩ = s →
    (m.kind == 1) = false ∧ (m.kind == 3) = false ∨ (((m.kind == 1) = true ∨ ((m.kind == 1) = false ∧ (m.kind == 3) = true)) ∧ decide (v > 0) = false) → ∃ p1, p ≤ p1 ∧ p1 ≤ p + 1 ∧ s = L (norm 0 cf13.live) (exitN 0 cf13.out (evCW W L G cf13 0 c13l0)) ⟨[(2, .ptr 0 0), (4, .ptr 1 0), (5, .ptr 2 0), (6, .ptr 3 0), (7, .int .i64 (i : Nat)), (8, .int .i64 ((k + 1 : Nat) : Nat))], hS cs p1 w⟩ := by
   intro s hs hcase
   rcases hcase with ⟨q1, q3⟩ | ⟨q1 | ⟨q1, q3⟩, hv⟩
   ·refine ⟨p, by omega, by omega, ?_⟩
    rw [← hs, h.loop]
    repeat (conv=>lhs;whnf;arg 2;tactic=>first|exact g1|exact map_get hm|exact q1|exact q3|exact gS|exact congrArg not q1|exact congrArg not q3|exact g2)
    conv => lhs; whnf
    rw [hws]
    rfl
   ·refine ⟨p + 1, by omega, by omega, ?_⟩
    rw [← hs, h.loop]
    repeat (conv=>lhs;whnf;arg 2;tactic=>first|exact g1|exact map_get hm|exact q1|exact ev|exact hv|exact gS|exact congrArg not q1|exact congrArg not hv|exact g2)
    conv => lhs; whnf
    rw [hws]
    rfl
   ·refine ⟨p + 1, by omega, by omega, ?_⟩
    rw [← hs, h.loop]
    repeat (conv=>lhs;whnf;arg 2;tactic=>first|exact g1|exact map_get hm|exact q1|exact q3|exact ev|exact hv|exact gS|exact congrArg not q1|exact congrArg not q3|exact congrArg not hv|exact g2)
    conv => lhs; whnf
    rw [hws]
    rfl
  have go : ∀ s, L (norm 0 cf13.live) (exitN 0 cf13.out (evCW W L G cf13 0 c13l0)) ⟨[(2, .ptr 0 0), (4, .ptr 1 0), (5, .ptr 2 0), (6, .ptr 3 0), (7, .int .i64 (i : Nat)), (8, .int .i64 (k : Nat))], hS cs p w⟩ = s →
    ((m.kind == 1) = false ∧ (m.kind == 3) = false ∨ (((m.kind == 1) = true ∨ ((m.kind == 1) = false ∧ (m.kind == 3) = true)) ∧ decide (v > 0) = false)) → ∃ p' r, p ≤ p' ∧ p' ≤ p + (mm + 1) ∧ HearR cs 2 i w p' r ∧ s = some r := by
   intro s hs hcase
   obtain ⟨p1, b1, b2, e⟩ := skip s hs hcase
   obtain ⟨p', r, b3, b4, b5, b6⟩ := hear_in cs hc w hw i mm (k + 1) p1 (by omega) (by omega)
   exact ⟨p', r, by omega, by omega, b5, by rw [e]; exact b6⟩
  cases q1 : m.kind == 1
  ·cases q3 : m.kind == 3
   ·exact go _ rfl (.inl ⟨q1, q3⟩)
   ·cases hv : decide (v > 0)
    ·exact go _ rfl (.inr ⟨.inr ⟨q1, q3⟩, hv⟩)
    ·refine ⟨p + 1, _, by omega, by omega, .inr ⟨m, hmm, rfl⟩, ?_⟩
     obtain ⟨kind, to, mt, mn, op, ops⟩ := m
     have hto := hmg.to
     simp only at hto q1 q3
     rcases hto with rfl | rfl
     all_goals
      rw [h.loop]
      repeat (conv=>lhs;whnf;arg 2;tactic=>first|exact g1|exact map_get hm|exact q1|exact q3|exact ev|exact hv|exact gS|exact congrArg not q1|exact congrArg not q3|exact congrArg not hv|exact g2)
      rfl
  ·cases hv : decide (v > 0)
   ·exact go _ rfl (.inr ⟨.inl q1, hv⟩)
   ·refine ⟨p + 1, _, by omega, by omega, .inr ⟨m, hmm, rfl⟩, ?_⟩
    obtain ⟨kind, to, mt, mn, op, ops⟩ := m
    have hto := hmg.to
    simp only at hto q1
    rcases hto with rfl | rfl
    all_goals
     rw [h.loop]
     repeat (conv=>lhs;whnf;arg 2;tactic=>first|exact g1|exact map_get hm|exact q1|exact ev|exact hv|exact gS|exact congrArg not q1|exact congrArg not hv|exact g2)
     rfl
theorem hear_out (cs : List Int) (hc : ByOk cs) : ∀ (mm i p : Nat) (w : WorldM) (x : AV), x = .un ∨ x = .top → WZ w → i + mm = 5 → p < 24000 * (i + 1) → ∃ w' p' i' r, WZ w' ∧ p' < 200000 ∧ HearR cs 0 i' w' p' r ∧
  L (norm 0 cf13.live) (exitN 0 cf13.out (evCW W L G cf13 0 c13l1)) ⟨[(2, .ptr 0 0), (4, .ptr 1 0), (5, .ptr 2 0), (6, .ptr 3 0), (7, .int .i64 (i : Nat)), (8, x)], hS cs p w⟩ = some r
 | 0, i, p, w, x, hx, hw, hi, hp => by
  obtain rfl : i = 5 := by omega
  refine ⟨w, p, 5, _, hw, by omega, .inl rfl, ?_⟩
  rcases hx with rfl | rfl
  all_goals
   rw [h.loop]
   repeat (conv=>lhs;whnf;arg 2;tactic=>first|exact g1|exact g2)
   rfl
 | mm + 1, i, p, w, x, hx, hw, hi, hp => by
  obtain ⟨v, ev, v0, v1, _⟩ := ev_pick h cs hc p (by omega) 8 (by omega)
  have hws := wrap_succ (i := i) (by omega)
  cases hv : decide (v > 0)
  ·refine ⟨w, p + 1, i, _, hw, by omega, .inl rfl, ?_⟩
   rcases hx with rfl | rfl
   all_goals
    rw [h.loop]
    repeat (conv=>lhs;whnf;arg 2;tactic=>first|exact g1|exact ev|exact hv|exact gS|exact congrArg not hv|exact g2)
    rfl
  ·have hnl := hw.nl
   obtain ⟨p1, r, b1, b2, b3, b4⟩ := hear_in h cs hc w hw i w.nets.length 0 (p + 1) (by omega) (by omega)
   rw [nc0] at b4
   rcases b3 with rfl | ⟨m, hm, rfl⟩
   ·obtain ⟨w2, p2, c1, c2, c3, c4, hw2, b5, b6, e2⟩ := ev_l72World h cs hc p1 (by omega)
    obtain ⟨w', p', i', r', b7, b8, b9, b10⟩ := hear_out cs hc mm (i + 1) p2 w2 .top (.inr rfl) hw2 (by omega) (by omega)
    refine ⟨w', p', i', r', b7, b8, b9, ?_⟩
    rw [← b10]
    rcases hx with rfl | rfl
    all_goals
     rw [h.loop]
     repeat (conv=>lhs;whnf;arg 2;tactic=>first|exact g1|exact ev|exact hv|exact b4|exact e2|exact gS|exact congrArg not hv|exact congrArg not b4|exact g2)
     conv => lhs; whnf
     rw [hws]
     rfl
   ·refine ⟨w, p1, i, _, hw, by omega, .inr ⟨m, hm, rfl⟩, ?_⟩
    have hto := (hw.nets m hm).to
    obtain ⟨kind, to, mt, mn, op, ops⟩ := m
    simp only at hto
    rcases hto with rfl | rfl
    all_goals
     rcases hx with rfl | rfl
     all_goals
     rw [h.loop]
     repeat (conv=>lhs;whnf;arg 2;tactic=>first|exact g1|exact ev|exact hv|exact b4|exact gS|exact congrArg not hv|exact congrArg not b4|exact g2)
     rfl
theorem ev_DrawNodeHear (cs : List Int) (hc : BytesOk cs) : ∃ n id m v c, NZ n ∧ MsgSz m ∧ ((v = .nils ∧ m.ops = []) ∨ v = .sl .sh (m.ops.map opD)) ∧ W f_spec_DrawNodeHear [.sl .sh (cs.map byD)] [] = some (.tup [nodeW n 0, .int .i64 id, msgV m v], [oR c n.ops]) := by
 have e0 := ev_l6Open h cs
 have hcs : ByOk (cs.take 2000) := ⟨by simp; omega, fun b hb => hc.2 b (List.mem_of_mem_take hb)⟩
 generalize cs.take 2000 = ds at e0 hcs
 obtain ⟨w1, p1, c1, c2, c3, c4, hw1, hp1, hp1', e1⟩ := ev_l72World h ds hcs 0 (by omega)
 obtain ⟨w, p, i, r, hw, hp, hr, e2⟩ := hear_out h ds hcs 5 0 p1 w1 .un (.inl rfl) hw1 (by omega) (by omega)
 rw [nc0] at e2
 have hnl := hw.nl
 have hln : ((w.nets.map msgD).length : Nat) = w.nets.length := List.length_map ..
 have hz1 : NZ w.n1 := ⟨⟨by have := hw.o1.1; omega, hw.o1.2⟩, hw.t1⟩
 have hz2 : NZ w.n2 := ⟨⟨by have := hw.o2.1; omega, hw.o2.2⟩, hw.t2⟩
 rcases hr with rfl | ⟨m, hm, rfl⟩
 ·cases hz : decide (((w.nets.map msgD).length : Int) > 0)
  ·obtain ⟨x1, f1, _⟩ := ev_pick h ds hcs p (by omega) 6 (by omega)
   obtain ⟨x2, f2, _⟩ := ev_pick h ds hcs (p + 1) (by omega) 2 (by omega)
   obtain ⟨x3, f3, _⟩ := ev_pick h ds hcs (p + 1 + 1) (by omega) 3 (by omega)
   obtain ⟨o, p3, ho, _, _, eo⟩ := ev_l71Op h ds hcs (p + 1 + 1 + 1) (by omega)
   refine ⟨w.n1, 1, ⟨x1, IntKind.i64.wrap (1 + x2), 1, x3, o, []⟩, .nils, 5, hz1, ⟨ho.sz, ⟨by simp, fun x hx => by cases hx⟩⟩, .inl ⟨rfl, rfl⟩, ?_⟩
   rw [h.call]
   repeat (conv=>lhs;whnf;arg 2;tactic=>first|exact g1|exact e0|exact e1|exact e2|exact hz|exact f1|exact f2|exact f3|exact eo|exact gS|exact congrArg not hz|exact g2)
   rfl
  ·have hz' := of_decide_eq_true hz
   obtain ⟨x, f1, x0, x1, _⟩ := ev_pick h ds hcs p (by omega) ((w.nets.map msgD).length : Nat) (by omega)
   have x1 := x1 (by omega)
   obtain ⟨k, rfl⟩ : ∃ k : Nat, x = k := ⟨x.toNat, by omega⟩
   obtain ⟨y, f2, _⟩ := ev_pick h ds hcs (p + 1) (by omega) 3 (by omega)
   obtain ⟨m, hm⟩ := get_some (xs := w.nets) (i := k) (by omega)
   have hmg := hw.nets m (List.mem_of_getElem? hm)
   have hms := hmg.sz
   obtain ⟨kind, to, mt, mn, op, ops⟩ := m
   have hto := hmg.to
   simp only at hto
   rcases hto with rfl | rfl
   ·refine ⟨w.n1, 1, ⟨kind, 1, IntKind.i64.wrap (IntKind.i64.wrap (mt + y) - 1), mn, op, ops⟩, .sl .sh (ops.map opD), 5, hz1, ⟨hms.op, hms.ops⟩, .inr rfl, ?_⟩
    rw [h.call]
    repeat (conv=>lhs;whnf;arg 2;tactic=>first|exact g1|exact e0|exact e1|exact e2|exact hz|exact f1|exact map_get hm|exact f2|exact gS|exact congrArg not hz|exact g2)
    rfl
   ·refine ⟨w.n2, 2, ⟨kind, 2, IntKind.i64.wrap (IntKind.i64.wrap (mt + y) - 1), mn, op, ops⟩, .sl .sh (ops.map opD), 5, hz2, ⟨hms.op, hms.ops⟩, .inr rfl, ?_⟩
    rw [h.call]
    repeat (conv=>lhs;whnf;arg 2;tactic=>first|exact g1|exact e0|exact e1|exact e2|exact hz|exact f1|exact map_get hm|exact f2|exact gS|exact congrArg not hz|exact g2)
    rfl
 ·have hmg := hw.nets m hm
  have hms := hmg.sz
  obtain ⟨kind, to, mt, mn, op, ops⟩ := m
  have hto := hmg.to
  simp only at hto
  rcases hto with rfl | rfl
  ·refine ⟨w.n1, 1, ⟨kind, 1, mt, mn, op, ops⟩, .sl .sh (ops.map opD), 5, hz1, hms, .inr rfl, ?_⟩
   rw [h.call]
   repeat (conv=>lhs;whnf;arg 2;tactic=>first|exact g1|exact e0|exact e1|exact e2|exact gS|exact g2)
   rfl
  ·refine ⟨w.n2, 2, ⟨kind, 2, mt, mn, op, ops⟩, .sl .sh (ops.map opD), 5, hz2, hms, .inr rfl, ?_⟩
   rw [h.call]
   repeat (conv=>lhs;whnf;arg 2;tactic=>first|exact g1|exact e0|exact e1|exact e2|exact gS|exact g2)
   rfl
end
end Go.Gn

