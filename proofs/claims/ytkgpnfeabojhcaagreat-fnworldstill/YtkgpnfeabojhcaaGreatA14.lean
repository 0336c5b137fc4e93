/- Part 14 of a proof: an evaluator of the program, proved sound, and what it answers. -/
import Derived.Test.YtkgpnfeabojhcaaGreatA13
set_option linter.all false
namespace Go.Gn
open Go
set_option maxRecDepth 100000
set_option maxHeartbeats 4000000
def OpS (o : OpM) : Prop := o.name.size ≤ 10 ∧ o.to.size ≤ 10 ∧ o.text.size ≤ 10
def stD (s : Str) : List D := [.str s]
section
variable {W : CallF} {L : LoopF} {E : EqF} {T : Prop → Bool} (h : IsK G W L E T)
include h
theorem ev_of (cs : List Int) (hc : ByOk cs) (p : Nat) (hp : p < 1000000000) (ss : List Str) (hl : 0 < ss.length) (hl2 : ss.length < 1000) : ∃ s, s ∈ ss ∧ W f_spec_l6Rd_of [.ptr 0 0, .sl .br (ss.map stD)] [rdB cs p] = some (.str s, [rdB cs (p + 1)]) := by
 have hlen : ((ss.map stD).length : Nat) = ss.length := List.length_map ..
 obtain ⟨v, e, h0, h1, _⟩ := ev_pick h cs hc p hp ((ss.map stD).length : Nat) (by rw [hlen]; omega)
 have h1' := h1 (by rw [hlen]; omega)
 rw [hlen] at h1'
 obtain ⟨n, rfl⟩ : ∃ n : Nat, v = n := ⟨v.toNat, by omega⟩
 obtain ⟨s, hs⟩ := get_some (xs := ss) (i := n) (by omega)
 refine ⟨s, List.mem_of_getElem? hs, ?_⟩
 rw [h.call]
 repeat (conv=>lhs;whnf;arg 2;tactic=>first|exact e|exact map_get hs)
 rfl
theorem text_loop (cs : List Int) (hc : ByOk cs) : ∀ (m : Nat) (p : Nat) (s : Str), p + m < 1000000000 → s.size + m < 1000 → ∃ s' p', s'.size ≤ s.size + m ∧ p' ≤ p + m ∧ p ≤ p' ∧ L (norm 1 cf197.live) (exitN 1 cf197.out (evCW W L G cf197 1 c197l0)) ⟨[(0, .ptr 0 0), (3, .str s), (4, .int .i64 (m : Nat))], [rdB cs p]⟩ = some (.ext 0, ⟨[(0, .ptr 0 0), (2, .top), (3, .str s')], [rdB cs p']⟩)
 | 0, p, s, hp, hs => by
  refine ⟨s, p, by omega, by omega, by omega, ?_⟩
  rw [h.loop]
  rfl
 | m + 1, p, s, hp, hs => by
  obtain ⟨t, ht, e⟩ := ev_of h cs hc p (by omega) [⟨#[97]⟩, ⟨#[98]⟩, ⟨#[99]⟩, ⟨#[100]⟩, ⟨#[97]⟩] (by simp) (by simp)
  have hts : t.size = 1 := by
   simp only [List.mem_cons, List.not_mem_nil, or_false] at ht
   rcases ht with rfl | rfl | rfl | rfl | rfl <;> rfl
  have has : (s ++ t).size = s.size + 1 := by rw [ByteArray.size_append, hts]
  have hw : IntKind.i64.wrap (((m + 1 : Nat) : Int) - 1) = (m : Nat) := by rw [wrap_id (by omega) (by omega)]; omega
  obtain ⟨s', p', h1, h2, h3, ih⟩ := text_loop cs hc m (p + 1) (s ++ t) (by omega) (by omega)
  refine ⟨s', p', by omega, by omega, by omega, ?_⟩
  rw [← ih, h.loop]
  repeat (conv=>lhs;whnf;arg 2;tactic=>first|exact g1|exact e)
  conv => lhs; whnf
  rw [hw]
  rfl
theorem ev_l71Text (cs : List Int) (hc : ByOk cs) (p : Nat) (hp : p < 100000000) : ∃ s p', s.size ≤ 7 ∧ p' ≤ p + 6 ∧ p ≤ p' ∧ W f_spec_l71Text [.ptr 0 0] [rdB cs p] = some (.str s, [rdB cs p']) := by
 obtain ⟨v, e, h0, h1, _⟩ := ev_pick h cs hc p (by omega) 4 (by omega)
 have h1' := h1 (by omega)
 obtain ⟨n, rfl⟩ : ∃ n : Nat, v = n := ⟨v.toNat, by omega⟩
 obtain ⟨s, p1, h2, h3, h4, el⟩ := text_loop h cs hc n (p + 1) ⟨#[]⟩ (by omega) (by show 0 + n < _; omega)
 have h2' : s.size ≤ n := by have : (⟨#[]⟩ : Str).size = 0 := rfl; omega
 obtain ⟨w, e2, w0, w1, _⟩ := ev_pick h cs hc p1 (by omega) 30 (by omega)
 cases hw : w == 0
 ·refine ⟨s, p1 + 1, by omega, by omega, by omega, ?_⟩
  rw [h.call]
  repeat (conv=>lhs;whnf;arg 2;tactic=>first|exact e|exact el|exact e2|exact hw)
  rfl
 ·obtain ⟨t, ht, e3⟩ := ev_of h cs hc (p1 + 1) (by omega) [⟨#[101]⟩, ⟨#[97, 97, 97, 97]⟩, ⟨#[32]⟩, ⟨#[65]⟩] (by simp) (by simp)
  have hts : t.size ≤ 4 := by
   simp only [List.mem_cons, List.not_mem_nil, or_false] at ht
   rcases ht with rfl | rfl | rfl | rfl
   all_goals decide
  have has : (s ++ t).size = s.size + t.size := ByteArray.size_append
  refine ⟨s ++ t, p1 + 2, by omega, by omega, by omega, ?_⟩
  rw [h.call]
  repeat (conv=>lhs;whnf;arg 2;tactic=>first|exact g1|exact e|exact el|exact e2|exact hw|exact e3)
  rfl
omit h in
theorem of4 {s : Str} (hs : s ∈ [(⟨#[65]⟩ : Str), ⟨#[66]⟩, ⟨#[67]⟩, ⟨#[68]⟩]) : s.size ≤ 10 := by
 simp only [List.mem_cons, List.not_mem_nil, or_false] at hs
 rcases hs with rfl | rfl | rfl | rfl
 all_goals decide
theorem ev_l71Op (cs : List Int) (hc : ByOk cs) (p : Nat) (hp : p < 10000000) : ∃ o p', OpS o ∧ p' ≤ p + 20 ∧ p ≤ p' ∧ W f_spec_l71Op [.ptr 0 0] [rdB cs p] = some (.agg (opC o), [rdB cs p']) := by
 obtain ⟨nm, hnm, e1⟩ := ev_of h cs hc p (by omega) [⟨#[65]⟩, ⟨#[66]⟩, ⟨#[67]⟩, ⟨#[68]⟩] (by simp) (by simp)
 have hnm := of4 hnm
 obtain ⟨v2, e2, _⟩ := ev_pick h cs hc (p + 1) (by omega) 3 (by omega)
 obtain ⟨tx, p3, ht, hp3, hp3', e3⟩ := ev_l71Text h cs hc (p + 1 + 1) (by omega)
 obtain ⟨v4, e4, _⟩ := ev_pick h cs hc p3 (by omega) 12 (by omega)
 have h0 : (noText : Str).size ≤ 10 := by decide
 have htx : tx.size ≤ 10 := by omega
 have fin : ∀ (q : Nat), q < 100000000 → ∃ v : Int, W f_spec_l6Rd_pick [.ptr 0 0, .int .i64 30] [rdB cs q] = some (.int .i64 v, [rdB cs (q + 1)]) ∧ (∃ t : Str, t.size ≤ 10 ∧ W f_spec_l6Rd_of [.ptr 0 0, .sl .br ([(⟨#[]⟩ : Str), ⟨#[69]⟩, ⟨#[65, 65]⟩].map stD)] [rdB cs (q + 1)] = some (.str t, [rdB cs (q + 1 + 1)])) ∧
   (∃ u : Int, W f_spec_l6Rd_pick [.ptr 0 0, .int .i64 9] [rdB cs (q + 1)] = some (.int .i64 u, [rdB cs (q + 1 + 1)])) ∧ (∃ u : Int, W f_spec_l6Rd_pick [.ptr 0 0, .int .i64 6] [rdB cs (q + 1)] = some (.int .i64 u, [rdB cs (q + 1 + 1)])) := by
  intro q hq
  obtain ⟨v, e, _⟩ := ev_pick h cs hc q (by omega) 30 (by omega)
  obtain ⟨t, ht, et⟩ := ev_of h cs hc (q + 1) (by omega) [⟨#[]⟩, ⟨#[69]⟩, ⟨#[65, 65]⟩] (by simp) (by simp)
  obtain ⟨u9, e9, _⟩ := ev_pick h cs hc (q + 1) (by omega) 9 (by omega)
  obtain ⟨u6, e6, _⟩ := ev_pick h cs hc (q + 1) (by omega) 6 (by omega)
  refine ⟨v, e, ⟨t, ?_, et⟩, ⟨u9, e9⟩, ⟨u6, e6⟩⟩
  simp only [List.mem_cons, List.not_mem_nil, or_false] at ht
  rcases ht with rfl | rfl | rfl
  all_goals decide
 have n1 : ∀ {a b : Int}, ¬ a = b → (a == b) = false := fun hab => by simp [hab]
 have y1 : ∀ {a b : Int}, a = b → (a == b) = true := fun hab => by simp [hab]
 by_cases k : v4 = 0 ∨ v4 = 1
 ·obtain ⟨u, eu, _⟩ := ev_pick h cs hc (p3 + 1) (by omega) 6 (by omega)
  obtain ⟨v, ev, ⟨t, ht, et⟩, ⟨u9, e9⟩, ⟨u6, e6⟩⟩ := fin (p3 + 1 + 1) (by omega)
  rcases k with rfl | rfl
  all_goals
   by_cases c0 : v = 0
   ·subst c0
    refine ⟨⟨1, t, noText, IntKind.i64.wrap (1 + u), noText⟩, p3 + 1 + 1 + 1 + 1, ⟨ht, h0, h0⟩, by omega, by omega, ?_⟩
    rw [h.call]
    repeat (conv=>lhs;whnf;arg 2;tactic=>first|exact e1|exact e2|exact e3|exact e4|exact eu|exact ev|exact et|exact g2)
    rfl
   ·by_cases c1 : v = 1
    ·subst c1
     refine ⟨⟨1, nm, noText, IntKind.i64.wrap (u9 - 1), noText⟩, p3 + 1 + 1 + 1 + 1, ⟨hnm, h0, h0⟩, by omega, by omega, ?_⟩
     rw [h.call]
     repeat (conv=>lhs;whnf;arg 2;tactic=>first|exact e1|exact e2|exact e3|exact e4|exact eu|exact ev|exact e9|exact g2)
     rfl
    ·by_cases c2 : v = 2
     ·subst c2
      refine ⟨⟨u6, nm, noText, IntKind.i64.wrap (1 + u), noText⟩, p3 + 1 + 1 + 1 + 1, ⟨hnm, h0, h0⟩, by omega, by omega, ?_⟩
      rw [h.call]
      repeat (conv=>lhs;whnf;arg 2;tactic=>first|exact e1|exact e2|exact e3|exact e4|exact eu|exact ev|exact e6|exact g2)
      rfl
     ·refine ⟨⟨1, nm, noText, IntKind.i64.wrap (1 + u), noText⟩, p3 + 1 + 1 + 1, ⟨hnm, h0, h0⟩, by omega, by omega, ?_⟩
      rw [h.call]
      repeat (conv=>lhs;whnf;arg 2;tactic=>first|exact g1|exact e1|exact e2|exact e3|exact e4|exact eu|exact ev|exact g2)
      rfl
 ·have k0 : ¬ v4 = 0 := fun e => k (.inl e)
  have k1 : ¬ v4 = 1 := fun e => k (.inr e)
  by_cases k2 : v4 = 2
  ·subst k2
   obtain ⟨to, hto, eu⟩ := ev_of h cs hc (p3 + 1) (by omega) [⟨#[65]⟩, ⟨#[66]⟩, ⟨#[67]⟩, ⟨#[68]⟩] (by simp) (by simp)
   have hto := of4 hto
   obtain ⟨v, ev, ⟨t, ht, et⟩, ⟨u9, e9⟩, ⟨u6, e6⟩⟩ := fin (p3 + 1 + 1) (by omega)
   by_cases c0 : v = 0
   ·subst c0
    refine ⟨⟨3, t, to, 0, noText⟩, p3 + 1 + 1 + 1 + 1, ⟨ht, hto, h0⟩, by omega, by omega, ?_⟩
    rw [h.call]
    repeat (conv=>lhs;whnf;arg 2;tactic=>first|exact e1|exact e2|exact e3|exact e4|exact eu|exact ev|exact et|exact g2)
    rfl
   ·by_cases c1 : v = 1
    ·subst c1
     refine ⟨⟨3, nm, to, IntKind.i64.wrap (u9 - 1), noText⟩, p3 + 1 + 1 + 1 + 1, ⟨hnm, hto, h0⟩, by omega, by omega, ?_⟩
     rw [h.call]
     repeat (conv=>lhs;whnf;arg 2;tactic=>first|exact e1|exact e2|exact e3|exact e4|exact eu|exact ev|exact e9|exact g2)
     rfl
    ·by_cases c2 : v = 2
     ·subst c2
      refine ⟨⟨u6, nm, to, 0, noText⟩, p3 + 1 + 1 + 1 + 1, ⟨hnm, hto, h0⟩, by omega, by omega, ?_⟩
      rw [h.call]
      repeat (conv=>lhs;whnf;arg 2;tactic=>first|exact e1|exact e2|exact e3|exact e4|exact eu|exact ev|exact e6|exact g2)
      rfl
     ·refine ⟨⟨3, nm, to, 0, noText⟩, p3 + 1 + 1 + 1, ⟨hnm, hto, h0⟩, by omega, by omega, ?_⟩
      rw [h.call]
      repeat (conv=>lhs;whnf;arg 2;tactic=>first|exact g1|exact e1|exact e2|exact e3|exact e4|exact eu|exact ev|exact g2)
      rfl
  ·obtain ⟨v, ev, ⟨t, ht, et⟩, ⟨u9, e9⟩, ⟨u6, e6⟩⟩ := fin (p3 + 1) (by omega)
   by_cases k3 : v4 = 3
   ·subst k3
    by_cases c0 : v = 0
    ·subst c0
     refine ⟨⟨4, t, noText, 0, noText⟩, p3 + 1 + 1 + 1, ⟨ht, h0, h0⟩, by omega, by omega, ?_⟩
     rw [h.call]
     repeat (conv=>lhs;whnf;arg 2;tactic=>first|exact e1|exact e2|exact e3|exact e4|exact ev|exact et)
     rfl
    ·by_cases c1 : v = 1
     ·subst c1
      refine ⟨⟨4, nm, noText, IntKind.i64.wrap (u9 - 1), noText⟩, p3 + 1 + 1 + 1, ⟨hnm, h0, h0⟩, by omega, by omega, ?_⟩
      rw [h.call]
      repeat (conv=>lhs;whnf;arg 2;tactic=>first|exact e1|exact e2|exact e3|exact e4|exact ev|exact e9)
      rfl
     ·by_cases c2 : v = 2
      ·subst c2
       refine ⟨⟨u6, nm, noText, 0, noText⟩, p3 + 1 + 1 + 1, ⟨hnm, h0, h0⟩, by omega, by omega, ?_⟩
       rw [h.call]
       repeat (conv=>lhs;whnf;arg 2;tactic=>first|exact e1|exact e2|exact e3|exact e4|exact ev|exact e6)
       rfl
      ·refine ⟨⟨4, nm, noText, 0, noText⟩, p3 + 1 + 1, ⟨hnm, h0, h0⟩, by omega, by omega, ?_⟩
       rw [h.call]
       repeat (conv=>lhs;whnf;arg 2;tactic=>first|exact g1|exact e1|exact e2|exact e3|exact e4|exact ev)
       rfl
   ·by_cases c0 : v = 0
    ·subst c0
     refine ⟨⟨2, t, noText, v2, tx⟩, p3 + 1 + 1 + 1, ⟨ht, h0, htx⟩, by omega, by omega, ?_⟩
     rw [h.call]
     repeat (conv=>lhs;whnf;arg 2;tactic=>first|exact g1|exact e1|exact e2|exact e3|exact e4|exact ev|exact et)
     rfl
    ·by_cases c1 : v = 1
     ·subst c1
      refine ⟨⟨2, nm, noText, IntKind.i64.wrap (u9 - 1), tx⟩, p3 + 1 + 1 + 1, ⟨hnm, h0, htx⟩, by omega, by omega, ?_⟩
      rw [h.call]
      repeat (conv=>lhs;whnf;arg 2;tactic=>first|exact g1|exact e1|exact e2|exact e3|exact e4|exact ev|exact e9)
      rfl
     ·by_cases c2 : v = 2
      ·subst c2
       refine ⟨⟨u6, nm, noText, v2, tx⟩, p3 + 1 + 1 + 1, ⟨hnm, h0, htx⟩, by omega, by omega, ?_⟩
       rw [h.call]
       repeat (conv=>lhs;whnf;arg 2;tactic=>first|exact g1|exact e1|exact e2|exact e3|exact e4|exact ev|exact e6)
       rfl
      ·refine ⟨⟨2, nm, noText, v2, tx⟩, p3 + 1 + 1, ⟨hnm, h0, htx⟩, by omega, by omega, ?_⟩
       rw [h.call]
       repeat (conv=>lhs;whnf;arg 2;tactic=>first|exact g1|exact e1|exact e2|exact e3|exact e4|exact ev)
       rfl
end
end Go.Gn

