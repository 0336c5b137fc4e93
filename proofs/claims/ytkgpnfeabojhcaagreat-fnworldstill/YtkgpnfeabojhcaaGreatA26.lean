/- Part 26 of a proof: an evaluator of the program, proved sound, and what it answers. -/
import Derived.Test.YtkgpnfeabojhcaaGreatA19
import Derived.Test.YtkgpnfeabojhcaaGreatA20
import Derived.Test.YtkgpnfeabojhcaaGreatA25
set_option linter.all false
namespace Go.Gn
open Go
set_option maxRecDepth 100000
set_option maxHeartbeats 16000000
def evD (e : EvM) : List D := [.int .i64 e.kind, .int .i64 e.a, .int .i64 e.op.kind, .str e.op.name, .str e.op.to, .int .i64 e.op.n, .str e.op.text]
def evR (es : List EvM) : Obj := .row 7 0 0 (es.map evD)
def zW : Obj := .box [.nils, .int .i64 0, .int .i64 0, .bool false, .nils, .nils]
def plOs (cs : List Int) (p : Nat) (w : WorldM) (es : List EvM) : List Obj := [rdB cs p, zW, .box [.hs 3 0 2, .int .i64 w.term, .int .i64 w.lead, .bool w.both, .hw 6, .hw 7], wB w 4 5, opsRow w.n1.ops, opsRow w.n2.ops, nR 10 w.nets, opsRow w.done, evR es]
def EvS (es : List EvM) : Prop := ∀ e ∈ es, OpS e.op
section
variable {W : CallF} {L : LoopF} {E : EqF} {T : Prop → Bool} (h : IsK G W L E T)
include h
theorem play_loop (cs : List Int) (hc : ByOk cs) : ∀ (m p : Nat) (w : WorldM) (es : List EvM), WG w → EvS es → es.length + m ≤ 60 → p + 401 * m < 700000 → ∃ es' w' p', WG w' ∧ EvS es' ∧ es'.length = es.length + m ∧ p ≤ p' ∧ p' ≤ p + 401 * m ∧
  L (norm 1 cf73.live) (exitN 1 cf73.out (evCW W L G cf73 1 c73l0)) ⟨[(0, .ptr 0 0), (3, .ptr 1 0), (4, .ptr 2 0), (5, .hw 8), (6, .int .i64 (m : Nat))], plOs cs p w es⟩ = some (.ext 0, ⟨[(2, .top), (3, .ptr 1 0), (4, .ptr 2 0), (5, .hw 8)], plOs cs p' w' es'⟩)
 | 0, p, w, es, hw, he, hl, hp => by
  refine ⟨es, w, p, hw, he, rfl, by omega, by omega, ?_⟩
  rw [h.loop]
  rfl
 | m + 1, p, w, es, hw, hes, hl, hp => by
  obtain ⟨e, p1, he, hp1, hp2, ee⟩ := ev_l72Event h cs hc p (by omega) w hw
  have hr := ev_l22Do h w hw 10 e he.sz
  obtain ⟨es', w', p', b1, b2, b3, b4, b5, eq⟩ := play_loop cs hc m p1 (doM w e) (es ++ [e]) (hw.doM e) (fun x hx => by
   rcases List.mem_append.1 hx with hx | hx
   ·exact hes x hx
   ·rw [List.mem_singleton] at hx; subst hx; exact he) (by simp; omega) (by omega)
  refine ⟨es', w', p', b1, b2, by rw [b3]; simp; omega, by omega, by omega, ?_⟩
  rw [← eq]
  have hws : IntKind.i64.wrap (((m + 1 : Nat) : Int) - 1) = (m : Nat) := by rw [wrap_id (by omega) (by omega)]; omega
  have hlen : ((es.map evD).length : Nat) = es.length := List.length_map ..
  have hcap : ∀ x : List (List D), x.length = 1 → decide (((es.map evD).length + x.length) * 80 ≤ 140737488355328) = true := fun x hx => decide_eq_true (by rw [hlen, hx]; omega)
  have hap : es.map evD ++ chunks 7 1 [D.int .i64 e.kind, .int .i64 e.a, .int .i64 e.op.kind, .str e.op.name, .str e.op.to, .int .i64 e.op.n, .str e.op.text] = (es ++ [e]).map evD := by
   rw [List.map_append]
   rfl
  have key : ∀ r, RO (doM w e) r → W f_spec_l22Do [wV w 3 4, evA e] (wS w 10) = r → L (norm 1 cf73.live) (exitN 1 cf73.out (evCW W L G cf73 1 c73l0)) ⟨[(0, .ptr 0 0), (3, .ptr 1 0), (4, .ptr 2 0), (5, .hw 8), (6, .int .i64 ((m + 1 : Nat) : Nat))], plOs cs p w es⟩ = L (norm 1 cf73.live) (exitN 1 cf73.out (evCW W L G cf73 1 c73l0)) ⟨[(0, .ptr 0 0), (3, .ptr 1 0), (4, .ptr 2 0), (5, .hw 8), (6, .int .i64 (m : Nat))], plOs cs p1 (doM w e) (es ++ [e])⟩ := by
   intro r hr hq
   generalize doM w e = w2 at hr ⊢
   rw [h.loop]
   repeat (conv=>lhs;whnf;arg 2;tactic=>first|exact g1|exact ee|exact hcap _ rfl)
   conv => lhs; whnf; arg 2; tactic => exact hq
   cases hr
   ·conv => lhs; whnf
    rw [hws, hap]
    rfl
   ·conv => lhs; whnf
    rw [hws, hap]
    rfl
   ·conv => lhs; whnf
    rw [hws, hap]
    rfl
   ·conv => lhs; whnf
    rw [hws, hap]
    rfl
   ·conv => lhs; whnf
    rw [hws, hap]
    rfl
   ·conv => lhs; whnf
    rw [hws, hap]
    rfl
   ·conv => lhs; whnf
    rw [hws, hap]
    rfl
   ·conv => lhs; whnf
    rw [hws, hap]
    rfl
   ·conv => lhs; whnf
    rw [hws, hap]
    rfl
   ·conv => lhs; whnf
    rw [hws, hap]
    rfl
   ·conv => lhs; whnf
    rw [hws, hap]
    rfl
   ·conv => lhs; whnf
    rw [hws, hap]
    rfl
   ·conv => lhs; whnf
    rw [hws, hap]
    rfl
   ·conv => lhs; whnf
    rw [hws, hap]
    rfl
   ·conv => lhs; whnf
    rw [hws, hap]
    rfl
   ·conv => lhs; whnf
    rw [hws, hap]
    rfl
   ·conv => lhs; whnf
    rw [hws, hap]
    rfl
  exact key _ hr rfl
theorem ev_l72Play (cs : List Int) (hc : ByOk cs) (p : Nat) (hp : p < 600000) : ∃ es w p', WG w ∧ EvS es ∧ es.length ≤ 55 ∧ p ≤ p' ∧ p' ≤ p + 23000 ∧
  W f_spec_l72Play [.ptr 0 0] [rdB cs p] = some (.tup [.hw 1, .agg [.hs 2 0 2, .int .i64 w.term, .int .i64 w.lead, .bool w.both, .hw 5, .hw 6]], [rdB cs p', evR es, wB w 3 4, opsRow w.n1.ops, opsRow w.n2.ops, nR 10 w.nets, opsRow w.done]) := by
 obtain ⟨v, ev, v0, v1, _⟩ := ev_pick h cs hc p (by omega) 55 (by omega)
 have v1 := v1 (by omega)
 obtain ⟨k, rfl⟩ : ∃ k : Nat, v = k := ⟨v.toNat, by omega⟩
 have e0 := ev_sWorldNew h
 obtain ⟨es', w', p', b1, b2, b3, b4, b5, eq⟩ := play_loop h cs hc k (p + 1) worldNew [] WG.new (fun e he => by cases he) (by simp; omega) (by omega)
 refine ⟨es', w', p', b1, b2, by rw [b3]; simp; omega, by omega, by omega, ?_⟩
 rw [h.call]
 repeat (conv=>lhs;whnf;arg 2;tactic=>first|exact e0|exact ev|exact eq)
 rfl
end
end Go.Gn

namespace Go.Gn
open Go
set_option maxRecDepth 100000
set_option maxHeartbeats 16000000
def joinE : EvM := ⟨9, 0, noOp⟩
def evR7 (es : List EvM) : Obj := .row 7 0 7 (es.map evD)
section
variable {W : CallF} {L : LoopF} {E : EqF} {T : Prop → Bool} (h : IsK G W L E T)
include h
theorem drawFill_loop : ∀ (m : Nat) (es : List EvM), es.length + m = 61 → L (norm 0 cf33.live) (exitN 0 cf33.out (evCW W L G cf33 0 c33l0)) ⟨[(4, .hw 0)], [evR7 es]⟩ =
  some (.ext 0, ⟨[(2, .top), (4, .hw 0)], [evR7 (es ++ List.replicate m joinE)]⟩)
 | 0, es, hm => by
  have hlen : ((es.map evD).length : Nat) = es.length := List.length_map ..
  rw [List.replicate_zero, List.append_nil, h.loop]
  repeat (conv=>lhs;whnf;arg 2;tactic=>first|exact g1|exact gS|exact g2)
  rfl
 | m + 1, es, hm => by
  have hlen : ((es.map evD).length : Nat) = es.length := List.length_map ..
  have ih := drawFill_loop m (es ++ [joinE]) (by simp; omega)
  rw [show es ++ List.replicate (m + 1) joinE = (es ++ [joinE]) ++ List.replicate m joinE by rw [List.replicate_succ, List.append_assoc]; rfl, ← ih]
  have hcap : ∀ x : List (List D), x.length = 1 → decide (((es.map evD).length + x.length) * 80 ≤ 140737488355328) = true := fun x hx => decide_eq_true (by rw [hlen, hx]; omega)
  have hap : es.map evD ++ chunks 7 1 [D.int .i64 9, .int .i64 0, .int .i64 0, .str ⟨#[]⟩, .str ⟨#[]⟩, .int .i64 0, .str ⟨#[]⟩] = (es ++ [joinE]).map evD := by
   rw [List.map_append]; rfl
  rw [h.loop]
  repeat (conv=>lhs;whnf;arg 2;tactic=>first|exact g1|exact hcap _ rfl|exact gS|exact g2)
  conv => lhs; whnf
  rw [hap]
  rfl
theorem ev_DrawWorldPlay (cs : List Int) (hc : BytesOk cs) : ∃ es, EvS es ∧ (es.length ≤ 60 ∨ es.length = 61) ∧ W f_spec_DrawWorldPlay [.sl .sh (cs.map byD)] [] = some (.hw 0, [evR7 es]) := by
 have e0 := ev_l6Open h cs
 have hcs : ByOk (cs.take 2000) := ⟨by simp; omega, fun b hb => hc.2 b (List.mem_of_mem_take hb)⟩
 obtain ⟨es, w, p1, hw, hes, hel, hp1, hp2, ep⟩ := ev_l72Play h (cs.take 2000) hcs 0 (by omega)
 obtain ⟨v, ev, v0, v1, _⟩ := ev_pick h (cs.take 2000) hcs p1 (by omega) 40 (by omega)
 by_cases hv : v = 0
 ·subst hv
  have e4 := drawFill_loop h (61 - es.length) es (by omega)
  refine ⟨es ++ List.replicate (61 - es.length) joinE, fun e he => ?_, .inr (by simp; omega), ?_⟩
  ·rcases List.mem_append.1 he with he | he
   ·exact hes e he
   ·rw [List.eq_of_mem_replicate he]; exact opS_noOp
  ·rw [h.call]
   repeat (conv=>lhs;whnf;arg 2;tactic=>first|exact g1|exact e0|exact ep|exact ev|exact e4|exact gS|exact g2)
   rfl
 ·have nv : (v == 0) = false := by simp [hv]
  refine ⟨es, hes, .inl (by omega), ?_⟩
  rw [h.call]
  repeat (conv=>lhs;whnf;arg 2;tactic=>first|exact g1|exact e0|exact ep|exact ev|exact nv|exact gS|exact congrArg not nv|exact g2)
  rfl
end
end Go.Gn

