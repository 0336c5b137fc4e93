/- Part 34 of a proof: an evaluator of the program, proved sound, and what it answers. -/
import Derived.Test.YtiicdghimmpjnaaGreatA33
set_option linter.all false
namespace Go.Gn
open Go
set_option linter.unusedVariables false
set_option linter.unusedSimpArgs false
set_option maxRecDepth 100000
set_option maxHeartbeats 16000000
def nB (n : NodeM) (q : Nat) : Obj := .box [.bool n.up, .int .i64 n.term, .bool n.leads, .bool n.alone, .hw q]
def zN : Obj := .box [.bool false, .int .i64 0, .bool false, .bool false, .nils]
def zO : Obj := .box (opC noOp)
section
variable {W : CallF} {L : LoopF} {E : EqF} {T : Prop → Bool} (h : IsK G W L E T)
include h
theorem ask_loop (cs : List Int) (hc : ByOk cs) : ∀ (m i p : Nat) (n : NodeM), i + m = 4 → p < 24000 * (i + 1) → NZ n → ∃ n' p', NZ n' ∧ p ≤ p' ∧ p' < 24000 * 5 ∧
  L (norm 0 cf20.live) (exitN 0 cf20.out (evCW W L G cf20 0 c20l0)) ⟨[(2, .ptr 0 0), (4, .ptr 1 0), (5, .ptr 2 0), (6, .ptr 3 0), (7, .int .i64 (i : Nat))], [zN, zO, rdB cs p, nB n 4, opsRow n.ops]⟩ = some (.ext 0, ⟨[(2, .ptr 0 0), (3, .top), (4, .ptr 1 0), (5, .ptr 2 0), (6, .ptr 3 0)], [zN, zO, rdB cs p', nB n' 4, opsRow n'.ops]⟩)
 | 0, i, p, n, hi, hp, hn => by
  refine ⟨n, p, hn, by omega, by omega, ?_⟩
  obtain rfl : i = 4 := by omega
  rw [h.loop]
  repeat (conv=>lhs;whnf;arg 2;tactic=>first|exact g1|exact g2)
  rfl
 | m + 1, i, p, n, hi, hp, hn => by
  obtain ⟨v, ev, v0, v1, _⟩ := ev_pick h cs hc p (by omega) 8 (by omega)
  obtain ⟨n2, p2, c2, hn2, hp2, hp2', e2⟩ := ev_l72Node h cs hc (p + 1) (by omega)
  have hws := wrap_succ (i := i) (by omega)
  cases hv : decide (v > 0)
  ·refine ⟨n, p + 1, hn, by omega, by omega, ?_⟩
   rw [h.loop]
   repeat (conv=>lhs;whnf;arg 2;tactic=>first|exact g1|exact ev|exact hv|exact gS|exact congrArg not hv|exact g2)
   rfl
  ·obtain ⟨n', p', b1, b2, b3, eq⟩ := ask_loop cs hc m (i + 1) p2 n2 (by omega) (by omega) hn2
   cases hle : n.leads
   ·refine ⟨n', p', b1, by omega, b3, ?_⟩
    rw [← eq, h.loop]
    repeat (conv=>lhs;whnf;arg 2;tactic=>first|exact g1|exact ev|exact hv|exact hle|exact e2|exact gS|exact congrArg not hv|exact congrArg not hle|exact g2)
    conv => lhs; whnf
    rw [hws]
    rfl
   ·cases hup : n.up
    ·refine ⟨n', p', b1, by omega, b3, ?_⟩
     rw [← eq, h.loop]
     repeat (conv=>lhs;whnf;arg 2;tactic=>first|exact g1|exact ev|exact hv|exact hle|exact hup|exact e2|exact gS|exact congrArg not hv|exact congrArg not hle|exact congrArg not hup|exact g2)
     conv => lhs; whnf
     rw [hws]
     rfl
    ·refine ⟨n, p + 1, hn, by omega, by omega, ?_⟩
     rw [h.loop]
     repeat (conv=>lhs;whnf;arg 2;tactic=>first|exact g1|exact ev|exact hv|exact hle|exact hup|exact gS|exact congrArg not hv|exact congrArg not hle|exact congrArg not hup|exact g2)
     rfl
theorem ev_DrawNodeAsk (cs : List Int) (hc : BytesOk cs) : ∃ n id o c, NZ n ∧ OpS o ∧ W f_spec_DrawNodeAsk [.sl .sh (cs.map byD)] [] = some (.tup [nodeW n 0, .int .i64 id, .agg (opC o)], [oR c n.ops]) := by
 have e0 := ev_l6Open h cs
 have hcs : ByOk (cs.take 2000) := ⟨by simp; omega, fun b hb => hc.2 b (List.mem_of_mem_take hb)⟩
 generalize cs.take 2000 = ds at e0 hcs
 obtain ⟨n1, p1, c1, hn1, hp1, hp1', e1⟩ := ev_l72Node h ds hcs 0 (by omega)
 obtain ⟨n, p, hn, hp, hp', e2⟩ := ask_loop h ds hcs 4 0 p1 n1 (by omega) (by omega) hn1
 rw [nc0] at e2
 have e3 := ev_sNodePool h n hn.sz
 obtain ⟨v, ev, v0, v1, _⟩ := ev_pick h ds hcs p (by omega) 5 (by omega)
 obtain ⟨x, ex, x0, x1, _⟩ := ev_pick h ds hcs (p + 1) (by omega) 2 (by omega)
 obtain ⟨y, ey, y0, y1, _⟩ := ev_pick h ds hcs (p + 1 + 1) (by omega) 24 (by omega)
 obtain ⟨o, p3, ho, _, _, eo⟩ := ev_l71Op h ds hcs (p + 1 + 1 + 1) (by omega)
 cases hok : nodeOk n
 ·simp only [hok, Bool.false_eq_true, if_false] at e3
  have e4 := ev_sPoolOk h ⟨[], []⟩ ⟨⟨by simp, fun _ hx => by cases hx⟩, ⟨by simp, fun _ hx => by cases hx⟩⟩
  have e4' : poolOk ⟨[], []⟩ = false := by decide
  rw [e4'] at e4
  refine ⟨n, IntKind.i64.wrap (IntKind.i64.wrap (1 + x) + IntKind.i64.wrap (y.tdiv 23)), o, 5, hn, ho, ?_⟩
  rw [h.call]
  cases hv : v == 0
  ·repeat (conv=>lhs;whnf;arg 2;tactic=>first|exact g1|exact e0|exact e1|exact e2|exact e3|exact ev|exact hv|exact e4|exact ex|exact ey|exact bin_quo (by omega)|exact eo|exact gS|exact congrArg not hv|exact g2)
   rfl
  ·repeat (conv=>lhs;whnf;arg 2;tactic=>first|exact g1|exact e0|exact e1|exact e2|exact e3|exact ev|exact hv|exact ex|exact ey|exact bin_quo (by omega)|exact eo|exact gS|exact congrArg not hv|exact g2)
   rfl
 ·obtain ⟨q, hq⟩ := Option.isSome_iff_exists.mp (nodeOk_run hok).1
  have hqo := runM_ok n.ops poolNew_ok hq
  have hqs : PoolSz q := doAllM_sz n.ops poolNew q poolNew_sz hn.sz.2 (by rw [run_eq n.ops poolNew_ok]; exact hq)
  have e4 := ev_sPoolOk h q hqs
  rw [hqo] at e4
  simp only [hok, if_true, hq] at e3
  have hqn : ∀ v ∈ q.vols, v.name.size ≤ 10 := fun v hv => by have := isName_sz (((poolOk_iff q).1 hqo).nm v hv); omega
  obtain ⟨o4, p4, ho4, _, _, eo4⟩ := ev_l71Fits h ds hcs q (poolOk_G hqo) hqn (p + 1 + 1) (by omega)
  cases hv : v == 0
  ·refine ⟨n, IntKind.i64.wrap (1 + x), o4, 5, hn, ho4, ?_⟩
   rw [h.call]
   repeat (conv=>lhs;whnf;arg 2;tactic=>first|exact g1|exact e0|exact e1|exact e2|exact e3|exact ev|exact hv|exact e4|exact ex|exact eo4|exact gS|exact congrArg not hv|exact congrArg not eo4|exact g2)
   rfl
  ·refine ⟨n, IntKind.i64.wrap (IntKind.i64.wrap (1 + x) + IntKind.i64.wrap (y.tdiv 23)), o, 5, hn, ho, ?_⟩
   rw [h.call]
   repeat (conv=>lhs;whnf;arg 2;tactic=>first|exact g1|exact e0|exact e1|exact e2|exact e3|exact ev|exact hv|exact ex|exact ey|exact bin_quo (by omega)|exact eo|exact gS|exact congrArg not hv|exact g2)
   rfl
end
end Go.Gn

