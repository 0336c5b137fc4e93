/- Part 30 of a proof: an evaluator of the program, proved sound, and what it answers. -/
import Derived.Test.YtiicdghimmpjnaaGreatA29
set_option linter.all false
namespace Go.Gn
open Go
set_option linter.unusedVariables false
set_option linter.unusedSimpArgs false
set_option maxRecDepth 100000
set_option maxHeartbeats 16000000
def evD (e : EvM) : List D := [.int .i64 e.kind, .int .i64 e.a, .int .i64 e.op.kind, .str e.op.name, .str e.op.to, .int .i64 e.op.n, .str e.op.text]
def evR (es : List EvM) : Obj := .row 7 0 0 (es.map evD)
def zW : Obj := .box [.nils, .int .i64 0, .int .i64 0, .bool false, .nils, .nils]
def plOs (cs : List Int) (p : Nat) (w : WorldM) (es : List EvM) : List Obj := [rdB cs p, zW, .box [.hs 3 0 2, .int .i64 w.term, .int .i64 w.lead, .bool w.both, .hw 6, .hw 7], wB w 4 5, opsRow w.n1.ops, opsRow w.n2.ops, nR 10 w.nets, opsRow w.done, evR es]
def EvS (es : List EvM) : Prop := ∀ e ∈ es, OpS e.op
section
variable {W : CallF} {L : LoopF} {E : EqF} {T : Prop → Bool} (h : IsK G W L E T)
include h
theorem play_loop (cs : List Int) (hc : ByOk cs) : ∀ (m p : Nat) (w : WorldM) (es : List EvM), WG w → EvS es → es.length + m ≤ 60 → p + 401 * m < 700000 → ∃ es' w' p', WG w' ∧ EvS es' ∧ es'.length = es.length + m ∧ p ≤ p' ∧ p' ≤ p + 401 * m ∧
  L (norm 1 cf110.live) (exitN 1 cf110.out (evCW W L G cf110 1 c110l0)) ⟨[(0, .ptr 0 0), (3, .ptr 1 0), (4, .ptr 2 0), (5, .hw 8), (6, .int .i64 (m : Nat))], plOs cs p w es⟩ = some (.ext 0, ⟨[(2, .top), (3, .ptr 1 0), (4, .ptr 2 0), (5, .hw 8)], plOs cs p' w' es'⟩)
 | 0, p, w, es, hw, he, hl, hp => by
  refine ⟨es, w, p, hw, he, rfl, by omega, by omega, ?_⟩
  rw [h.loop]
  repeat (conv=>lhs;whnf;arg 2;tactic=>first|exact g1|exact g2)
  rfl
 | m + 1, p, w, es, hw, hes, hl, hp => by
  obtain ⟨e, p1, he, hp1, hp2, ee⟩ := ev_l72Event h cs hc p (by omega) w hw
  have hr := ev_l22Do h w hw 10 e he.sz
  obtain ⟨es', w', p', b1, b2, b3, b4, b5, eq⟩ := play_loop cs hc m p1 (doM w e) (es ++ [e]) (hw.doM e) (fun x hx => by
   rcases List.mem_append.1 hx with hx | hx
   ·exact hes x hx
   ·rw [List.mem_singleton] at hx; subst hx; exact he) (by simp; omega) (by omega)
  refine ⟨es', w', p', b1, b2, by rw [b3]; simp; omega, by omega, by omega, ?_⟩
  rw [← eq]
  have hws : IntKind.i64.wrap (((m + 1 : Nat) : Int) - 1) = (m : Nat) := by rw [wrap_id (by omega) (by omega)]; omega
  have hlen : ((es.map evD).length : Nat) = es.length := List.length_map ..
  have hcap : ∀ x : List (List D), x.length = 1 → decide (((es.map evD).length + x.length) * 80 ≤ 140737488355328) = true := fun x hx => decide_eq_true (by rw [hlen, hx]; omega)
  have hap : es.map evD ++ chunks 7 1 [D.int .i64 e.kind, .int .i64 e.a, .int .i64 e.op.kind, .str e.op.name, .str e.op.to, .int .i64 e.op.n, .str e.op.text] = (es ++ [e]).map evD := by
   rw [List.map_append]
   rfl
  have key : ∀ r, RO (doM w e) r → W f_spec_l22Do [wV w 3 4, evA e] (wS w 10) = r → L (norm 1 cf110.live) (exitN 1 cf110.out (evCW W L G cf110 1 c110l0)) ⟨[(0, .ptr 0 0), (3, .ptr 1 0), (4, .ptr 2 0), (5, .hw 8), (6, .int .i64 ((m + 1 : Nat) : Nat))], plOs cs p w es⟩ = L (norm 1 cf110.live) (exitN 1 cf110.out (evCW W L G cf110 1 c110l0)) ⟨[(0, .ptr 0 0), (3, .ptr 1 0), (4, .ptr 2 0), (5, .hw 8), (6, .int .i64 (m : Nat))], plOs cs p1 (doM w e) (es ++ [e])⟩ := by
   intro r hr hq
   generalize doM w e = w2 at hr ⊢
   rw [h.loop]
   repeat (conv=>lhs;whnf;arg 2;tactic=>first|exact g1|exact ee|exact hcap _ rfl|exact gS|exact congrArg not ee|exact g2)
   conv => lhs; whnf; arg 2; tactic => exact hq
   cases hr
   ·repeat (conv=>lhs;whnf;arg 2;tactic=>first|exact g1|exact gS|exact g2)
    conv => lhs; whnf
    rw [hws, hap]
    rfl
   ·repeat (conv=>lhs;whnf;arg 2;tactic=>first|exact g1|exact gS|exact g2)
    conv => lhs; whnf
    rw [hws, hap]
    rfl
   ·repeat (conv=>lhs;whnf;arg 2;tactic=>first|exact g1|exact gS|exact g2)
    conv => lhs; whnf
    rw [hws, hap]
    rfl
   ·repeat (conv=>lhs;whnf;arg 2;tactic=>first|exact g1|exact gS|exact g2)
    conv => lhs; whnf
    rw [hws, hap]
    rfl
   ·repeat (conv=>lhs;whnf;arg 2;tactic=>first|exact g1|exact gS|exact g2)
    conv => lhs; whnf
    rw [hws, hap]
    rfl
   ·repeat (conv=>lhs;whnf;arg 2;tactic=>first|exact g1|exact gS|exact g2)
    conv => lhs; whnf
    rw [hws, hap]
    rfl
   ·repeat (conv=>lhs;whnf;arg 2;tactic=>first|exact g1|exact gS|exact g2)
    conv => lhs; whnf
    rw [hws, hap]
    rfl
   ·repeat (conv=>lhs;whnf;arg 2;tactic=>first|exact g1|exact gS|exact g2)
    conv => lhs; whnf
    rw [hws, hap]
    rfl
   ·repeat (conv=>lhs;whnf;arg 2;tactic=>first|exact g1|exact gS|exact g2)
    conv => lhs; whnf
    rw [hws, hap]
    rfl
   ·repeat (conv=>lhs;whnf;arg 2;tactic=>first|exact g1|exact gS|exact g2)
    conv => lhs; whnf
    rw [hws, hap]
    rfl
   ·repeat (conv=>lhs;whnf;arg 2;tactic=>first|exact g1|exact gS|exact g2)
    conv => lhs; whnf
    rw [hws, hap]
    rfl
   ·repeat (conv=>lhs;whnf;arg 2;tactic=>first|exact g1|exact gS|exact g2)
    conv => lhs; whnf
    rw [hws, hap]
    rfl
   ·repeat (conv=>lhs;whnf;arg 2;tactic=>first|exact g1|exact gS|exact g2)
    conv => lhs; whnf
    rw [hws, hap]
    rfl
   ·repeat (conv=>lhs;whnf;arg 2;tactic=>first|exact g1|exact gS|exact g2)
    conv => lhs; whnf
    rw [hws, hap]
    rfl
   ·repeat (conv=>lhs;whnf;arg 2;tactic=>first|exact g1|exact gS|exact g2)
    conv => lhs; whnf
    rw [hws, hap]
    rfl
   ·repeat (conv=>lhs;whnf;arg 2;tactic=>first|exact g1|exact gS|exact g2)
    conv => lhs; whnf
    rw [hws, hap]
    rfl
   ·repeat (conv=>lhs;whnf;arg 2;tactic=>first|exact g1|exact gS|exact g2)
    conv => lhs; whnf
    rw [hws, hap]
    rfl
  exact key _ hr rfl
theorem ev_l72Play (cs : List Int) (hc : ByOk cs) (p : Nat) (hp : p < 600000) : ∃ es w p', WG w ∧ EvS es ∧ es.length ≤ 55 ∧ p ≤ p' ∧ p' ≤ p + 23000 ∧
  W f_spec_l72Play [.ptr 0 0] [rdB cs p] = some (.tup [.hw 1, .agg [.hs 2 0 2, .int .i64 w.term, .int .i64 w.lead, .bool w.both, .hw 5, .hw 6]], [rdB cs p', evR es, wB w 3 4, opsRow w.n1.ops, opsRow w.n2.ops, nR 10 w.nets, opsRow w.done]) := by
 obtain ⟨v, ev, v0, v1, _⟩ := ev_pick h cs hc p (by omega) 55 (by omega)
 have v1 := v1 (by omega)
 obtain ⟨k, rfl⟩ : ∃ k : Nat, v = k := ⟨v.toNat, by omega⟩
 have e0 := ev_sWorldNew h
 obtain ⟨es', w', p', b1, b2, b3, b4, b5, eq⟩ := play_loop h cs hc k (p + 1) worldNew [] WG.new (fun e he => by cases he) (by simp; omega) (by omega)
 refine ⟨es', w', p', b1, b2, by rw [b3]; simp; omega, by omega, by omega, ?_⟩
 rw [h.call]
 repeat (conv=>lhs;whnf;arg 2;tactic=>first|exact g1|exact e0|exact ev|exact eq|exact gS|exact congrArg not eq|exact g2)
 rfl
end
end Go.Gn

namespace Go.Gn
open Go
set_option linter.unusedVariables false
set_option linter.unusedSimpArgs false
set_option maxRecDepth 100000
set_option maxHeartbeats 8000000
section
variable {W : CallF} {L : LoopF} {E : EqF} {T : Prop → Bool} (h : IsK G W L E T)
include h
theorem ev_l72World (cs : List Int) (hc : ByOk cs) (p : Nat) (hp : p < 500000) : ∃ w p' c1 c2 c3 c4, WZ w ∧ p ≤ p' ∧ p' ≤ p + 23100 ∧
  W f_spec_l72World [.ptr 0 0] [rdB cs p] = some (wV1 w, [rdB cs p', wB w 2 3, oR c1 w.n1.ops, oR c2 w.n2.ops, nR c3 w.nets, oR c4 w.done]) := by
 obtain ⟨es, w, p1, hw, hes, hel, hp1, hp2, ep⟩ := ev_l72Play h cs hc p (by omega)
 obtain ⟨v, ev, v0, v1, _⟩ := ev_pick h cs hc p1 (by omega) 40 (by omega)
 have v1 := v1 (by omega)
 obtain ⟨o, p2, ho, hp3, hp4, eo⟩ := ev_l71Op h cs hc (p1 + 1) (by omega)
 obtain ⟨x, ex, x0, x1, _⟩ := ev_pick h cs hc (p1 + 1) (by omega) 2 (by omega)
 have x1 := x1 (by omega)
 obtain ⟨o5, p5, ho5, hp53, hp54, eo5⟩ := ev_l71Op h cs hc (p1 + 1 + 1) (by omega)
 have hz := hw.z
 have hv : v = 0 ∨ v = 1 ∨ v = 2 ∨ v = 3 ∨ v = 4 ∨ (5 ≤ v) := by omega
 have nv : ∀ k : Int, k < 5 → 5 ≤ v → (v == k) = false := fun k hk h5 => by simp; omega
 rcases hv with rfl | rfl | rfl | rfl | rfl | hv
 ·refine ⟨{ w with term := IntKind.i64.wrap (w.term + 1) }, p1 + 1, 5, 5, 10, 5, ?_, by omega, by omega, ?_⟩
  ·refine ⟨hz.lead, hz.o1, hz.o2, hz.t1, hz.t2, ?_, hz.nl, hz.nets, hz.done⟩
   have ht := hw.t
   show -2000 ≤ IntKind.i64.wrap (w.term + 1) ∧ IntKind.i64.wrap (w.term + 1) ≤ 2000
   rw [wrap_id (by omega) (by omega)]; omega
  ·rw [h.call]
   repeat (conv=>lhs;whnf;arg 2;tactic=>first|exact g1|exact ep|exact ev|exact gS|exact g2)
   rfl
 ·refine ⟨{ w with both := !w.both }, p1 + 1, 5, 5, 10, 5, ⟨hz.lead, hz.o1, hz.o2, hz.t1, hz.t2, hz.t, hz.nl, hz.nets, hz.done⟩, by omega, by omega, ?_⟩
  rw [h.call]
  repeat (conv=>lhs;whnf;arg 2;tactic=>first|exact g1|exact ep|exact ev|exact gS|exact g2)
  rfl
 ·refine ⟨{ w with lead := IntKind.i64.wrap (3 - w.lead) }, p1 + 1, 5, 5, 10, 5, ?_, by omega, by omega, ?_⟩
  ·refine ⟨?_, hz.o1, hz.o2, hz.t1, hz.t2, hz.t, hz.nl, hz.nets, hz.done⟩
   have hl := hw.lead
   show IntKind.i64.wrap (3 - w.lead) = 1 ∨ IntKind.i64.wrap (3 - w.lead) = 2
   rw [wrap_id (by omega) (by omega)]; omega
  ·rw [h.call]
   repeat (conv=>lhs;whnf;arg 2;tactic=>first|exact g1|exact ep|exact ev|exact gS|exact g2)
   rfl
 ·refine ⟨{ w with done := w.done ++ [o] }, p2, 5, 5, 10, 5, ⟨hz.lead, hz.o1, hz.o2, hz.t1, hz.t2, hz.t, hz.nl, hz.nets, hw.done.add ho⟩, by omega, by omega, ?_⟩
  have hlen : ((w.done.map opD).length : Nat) = w.done.length := List.length_map ..
  have hcap : ∀ x : List (List D), x.length = 1 → decide (((w.done.map opD).length + x.length) * 64 ≤ 140737488355328) = true := fun x hx => decide_eq_true (by
   rw [hlen, hx]; have := hw.done.l; omega)
  rw [h.call]
  repeat (conv=>lhs;whnf;arg 2;tactic=>first|exact g1|exact ep|exact ev|exact eo|exact hcap _ rfl|exact gS|exact g2)
  conv => lhs; whnf
  rw [app_row]
  rfl
 ·have hx : x = 0 ∨ x = 1 := by omega
  rcases hx with rfl | rfl
  ·refine ⟨{ w with n1 := { w.n1 with ops := [o5] } }, p5, 0, 5, 10, 5, ⟨hz.lead, OpsZ.one ho5, hz.o2, hz.t1, hz.t2, hz.t, hz.nl, hz.nets, hz.done⟩, by omega, by omega, ?_⟩
   rw [h.call]
   repeat (conv=>lhs;whnf;arg 2;tactic=>first|exact g1|exact ep|exact ev|exact ex|exact eo5|exact gS|exact congrArg not eo5|exact g2)
   rfl
  ·refine ⟨{ w with n2 := { w.n2 with ops := [o5] } }, p5, 5, 0, 10, 5, ⟨hz.lead, hz.o1, OpsZ.one ho5, hz.t1, hz.t2, hz.t, hz.nl, hz.nets, hz.done⟩, by omega, by omega, ?_⟩
   rw [h.call]
   repeat (conv=>lhs;whnf;arg 2;tactic=>first|exact g1|exact ep|exact ev|exact ex|exact eo5|exact gS|exact congrArg not eo5|exact g2)
   rfl
 ·refine ⟨w, p1 + 1, 5, 5, 10, 5, hz, by omega, by omega, ?_⟩
  rw [h.call]
  repeat (conv=>lhs;whnf;arg 2;tactic=>first|exact g1|exact ep|exact ev|exact nv 0 (by omega) hv|exact nv 1 (by omega) hv|exact nv 2 (by omega) hv|exact nv 3 (by omega) hv|exact nv 4 (by omega) hv|exact gS|exact g2)
  rfl
theorem ev_DrawWorldOk (cs : List Int) (hc : BytesOk cs) : ∃ w c1 c2 c3 c4, WZ w ∧ W f_spec_DrawWorldOk [.sl .sh (cs.map byD)] [] = some (wV w 3 4, [wB w 1 2, oR c1 w.n1.ops, oR c2 w.n2.ops, nR c3 w.nets, oR c4 w.done]) := by
 have e0 := ev_l6Open h cs
 have hcs : ByOk (cs.take 2000) := ⟨by simp; omega, fun b hb => hc.2 b (List.mem_of_mem_take hb)⟩
 obtain ⟨w, p', c1, c2, c3, c4, hz, _, _, e⟩ := ev_l72World h (cs.take 2000) hcs 0 (by omega)
 refine ⟨w, 5, 5, 10, 5, hz, ?_⟩
 rw [h.call]
 repeat (conv=>lhs;whnf;arg 2;tactic=>first|exact g1|exact e0|exact e|exact gS|exact g2)
 rfl
theorem ev_l72Node (cs : List Int) (hc : ByOk cs) (p : Nat) (hp : p < 400000) : ∃ n p' c, NZ n ∧ p ≤ p' ∧ p' ≤ p + 23300 ∧
  W f_spec_l72Node [.ptr 0 0] [rdB cs p] = some (nodeW n 1, [rdB cs p', oR c n.ops]) := by
 obtain ⟨w, p1, c1, c2, c3, c4, hz, hp1, hp2, ew⟩ := ev_l72World h cs hc p (by omega)
 obtain ⟨x, ex, x0, x1, _⟩ := ev_pick h cs hc p1 (by omega) 2 (by omega)
 have x1 := x1 (by omega)
 have hx : x = 0 ∨ x = 1 := by omega
 obtain ⟨v, ev, v0, v1, _⟩ := ev_pick h cs hc (p1 + 1) (by omega) 24 (by omega)
 have v1 := v1 (by omega)
 obtain ⟨o, p2, ho, hp3, hp4, eo⟩ := ev_l71Op h cs hc (p1 + 1 + 1) (by omega)
 obtain ⟨y, ey, y0, y1, _⟩ := ev_pick h cs hc (p1 + 1 + 1) (by omega) 2 (by omega)
 have y1 := y1 (by omega)
 have hv : v = 0 ∨ v = 1 ∨ v = 2 ∨ 3 ≤ v := by omega
 have nv : ∀ k : Int, k < 3 → 3 ≤ v → (v == k) = false := fun k hk h5 => by simp; omega
 rcases hx with rfl | rfl
 ·have ho1 := hz.o1
  have hlen : ((w.n1.ops.map opD).length : Nat) = w.n1.ops.length := List.length_map ..
  have hcap : ∀ x : List (List D), x.length = 1 → decide (((w.n1.ops.map opD).length + x.length) * 64 ≤ 140737488355328) = true := fun x hx => decide_eq_true (by
   rw [hlen, hx]; have := ho1.1; omega)
  rcases hv with rfl | rfl | rfl | hv
  ·refine ⟨{ w.n1 with alone := !w.n1.alone }, p1 + 1 + 1, 5, ⟨⟨Nat.le_succ_of_le ho1.1, ho1.2⟩, hz.t1⟩, by omega, by omega, ?_⟩
   rw [h.call]
   repeat (conv=>lhs;whnf;arg 2;tactic=>first|exact g1|exact ew|exact ex|exact ev|exact gS|exact congrArg not ew|exact g2)
   rfl
  ·refine ⟨{ w.n1 with ops := w.n1.ops ++ [o] }, p2, 5, ⟨⟨by have := ho1.1; show (w.n1.ops ++ [o]).length ≤ 31; simp; omega, fun x hx => ?_⟩, hz.t1⟩, by omega, by omega, ?_⟩
   ·rcases List.mem_append.1 hx with hx | hx
    ·exact ho1.2 x hx
    ·rw [List.mem_singleton] at hx; subst hx; exact ho
   ·rw [h.call]
    repeat (conv=>lhs;whnf;arg 2;tactic=>first|exact g1|exact ew|exact ex|exact ev|exact eo|exact hcap _ rfl|exact gS|exact congrArg not ew|exact g2)
    conv => lhs; whnf
    rw [app_row]
    rfl
  ·have hy : y = 0 ∨ y = 1 := by omega
   rcases hy with rfl | rfl
   ·refine ⟨{ w.n1 with term := -1 }, p1 + 1 + 1 + 1, 5, ⟨⟨Nat.le_succ_of_le ho1.1, ho1.2⟩, by show (-2000 : Int) ≤ -1 ∧ (-1 : Int) ≤ 2000; omega⟩, by omega, by omega, ?_⟩
    rw [h.call]
    repeat (conv=>lhs;whnf;arg 2;tactic=>first|exact g1|exact ew|exact ex|exact ev|exact ey|exact gS|exact congrArg not ew|exact g2)
    rfl
   ·refine ⟨{ w.n1 with term := 100 }, p1 + 1 + 1 + 1, 5, ⟨⟨Nat.le_succ_of_le ho1.1, ho1.2⟩, by show (-2000 : Int) ≤ 100 ∧ (100 : Int) ≤ 2000; omega⟩, by omega, by omega, ?_⟩
    rw [h.call]
    repeat (conv=>lhs;whnf;arg 2;tactic=>first|exact g1|exact ew|exact ex|exact ev|exact ey|exact gS|exact congrArg not ew|exact g2)
    rfl
  ·refine ⟨w.n1, p1 + 1 + 1, 5, ⟨⟨Nat.le_succ_of_le ho1.1, ho1.2⟩, hz.t1⟩, by omega, by omega, ?_⟩
   rw [h.call]
   repeat (conv=>lhs;whnf;arg 2;tactic=>first|exact g1|exact ew|exact ex|exact ev|exact nv 0 (by omega) hv|exact nv 1 (by omega) hv|exact nv 2 (by omega) hv|exact gS|exact congrArg not ew|exact g2)
   rfl
 ·have ho2 := hz.o2
  have hlen : ((w.n2.ops.map opD).length : Nat) = w.n2.ops.length := List.length_map ..
  have hcap : ∀ x : List (List D), x.length = 1 → decide (((w.n2.ops.map opD).length + x.length) * 64 ≤ 140737488355328) = true := fun x hx => decide_eq_true (by
   rw [hlen, hx]; have := ho2.1; omega)
  rcases hv with rfl | rfl | rfl | hv
  ·refine ⟨{ w.n2 with alone := !w.n2.alone }, p1 + 1 + 1, 5, ⟨⟨Nat.le_succ_of_le ho2.1, ho2.2⟩, hz.t2⟩, by omega, by omega, ?_⟩
   rw [h.call]
   repeat (conv=>lhs;whnf;arg 2;tactic=>first|exact g1|exact ew|exact ex|exact ev|exact gS|exact congrArg not ew|exact g2)
   rfl
  ·refine ⟨{ w.n2 with ops := w.n2.ops ++ [o] }, p2, 5, ⟨⟨by have := ho2.1; show (w.n2.ops ++ [o]).length ≤ 31; simp; omega, fun x hx => ?_⟩, hz.t2⟩, by omega, by omega, ?_⟩
   ·rcases List.mem_append.1 hx with hx | hx
    ·exact ho2.2 x hx
    ·rw [List.mem_singleton] at hx; subst hx; exact ho
   ·rw [h.call]
    repeat (conv=>lhs;whnf;arg 2;tactic=>first|exact g1|exact ew|exact ex|exact ev|exact eo|exact hcap _ rfl|exact gS|exact congrArg not ew|exact g2)
    conv => lhs; whnf
    rw [app_row]
    rfl
  ·have hy : y = 0 ∨ y = 1 := by omega
   rcases hy with rfl | rfl
   ·refine ⟨{ w.n2 with term := -1 }, p1 + 1 + 1 + 1, 5, ⟨⟨Nat.le_succ_of_le ho2.1, ho2.2⟩, by show (-2000 : Int) ≤ -1 ∧ (-1 : Int) ≤ 2000; omega⟩, by omega, by omega, ?_⟩
    rw [h.call]
    repeat (conv=>lhs;whnf;arg 2;tactic=>first|exact g1|exact ew|exact ex|exact ev|exact ey|exact gS|exact congrArg not ew|exact g2)
    rfl
   ·refine ⟨{ w.n2 with term := 100 }, p1 + 1 + 1 + 1, 5, ⟨⟨Nat.le_succ_of_le ho2.1, ho2.2⟩, by show (-2000 : Int) ≤ 100 ∧ (100 : Int) ≤ 2000; omega⟩, by omega, by omega, ?_⟩
    rw [h.call]
    repeat (conv=>lhs;whnf;arg 2;tactic=>first|exact g1|exact ew|exact ex|exact ev|exact ey|exact gS|exact congrArg not ew|exact g2)
    rfl
  ·refine ⟨w.n2, p1 + 1 + 1, 5, ⟨⟨Nat.le_succ_of_le ho2.1, ho2.2⟩, hz.t2⟩, by omega, by omega, ?_⟩
   rw [h.call]
   repeat (conv=>lhs;whnf;arg 2;tactic=>first|exact g1|exact ew|exact ex|exact ev|exact nv 0 (by omega) hv|exact nv 1 (by omega) hv|exact nv 2 (by omega) hv|exact gS|exact congrArg not ew|exact g2)
   rfl
end
end Go.Gn

