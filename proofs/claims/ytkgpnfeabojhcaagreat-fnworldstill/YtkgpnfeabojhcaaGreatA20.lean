/- Part 20 of a proof: an evaluator of the program, proved sound, and what it answers. -/
import Derived.Test.YtkgpnfeabojhcaaGreatA17
import Derived.Test.YtkgpnfeabojhcaaGreatA19
set_option linter.all false
namespace Go.Gn
open Go
set_option maxRecDepth 100000
set_option maxHeartbeats 8000000
section
variable {W : CallF} {L : LoopF} {E : EqF} {T : Prop → Bool} (h : IsK G W L E T)
include h
theorem ev_l6Open (cs : List Int) : W f_spec_l6Open [.sl .sh (cs.map byD)] [] = some (.ptr 0 0, [rdB (cs.take 2000) 0]) := by
 have hlen : ((cs.map byD).length : Nat) = cs.length := List.length_map ..
 rw [h.call]
 cases hc : decide (((cs.map byD).length : Int) > 2000)
 ·have hc' := of_decide_eq_false hc
  rw [List.take_of_length_le (show cs.length ≤ 2000 by omega)]
  repeat (conv=>lhs;whnf;arg 2;tactic=>first|exact g1|exact hc|exact congrArg not hc|exact g2)
  rfl
 ·have hc' := of_decide_eq_true hc
  have hv : view (cs.map byD) 0 (2000 - 0) = (cs.take 2000).map byD := view_take byD cs 2000
  repeat (conv=>lhs;whnf;arg 2;tactic=>first|exact g1|exact hc|exact congrArg not hc|exact g2)
  conv => lhs; whnf
  rw [hv]
  rfl
theorem ev_sNodeNew1 : W f_spec_NodeNew [.int .i64 1] [] = some (.tup [nodeW nd1 0, .bool true], [oR 0 []]) := by
 have ein := ev_l6In h 1 1 2
 rw [h.call]
 repeat (conv=>lhs;whnf;arg 2;tactic=>first|exact g1|exact ein|exact g2)
 rfl
theorem ev_sNodeNew2 : W f_spec_NodeNew [.int .i64 2] [] = some (.tup [nodeW nd2 0, .bool true], [oR 0 []]) := by
 have ein := ev_l6In h 2 1 2
 rw [h.call]
 repeat (conv=>lhs;whnf;arg 2;tactic=>first|exact g1|exact ein|exact g2)
 rfl
theorem ev_sWorldNew : W f_spec_WorldNew [] [] = some (wV worldNew 3 4, [wB worldNew 1 2, opsRow [], opsRow [], nR 0 [], oR 0 []]) := by
 have e1 := ev_sNodeNew1 h
 have e2 := ev_sNodeNew2 h
 rw [h.call]
 repeat (conv=>lhs;whnf;arg 2;tactic=>first|exact g1|exact e1|exact e2|exact g2)
 rfl
theorem ev_runX (os : List OpM) (ho : OpsX os) : ∃ q b x, poolOk q = true ∧ W f_spec_l13Run [.agg [.hw 0, .hw 1], .sl .br (os.map opD)] [.row 2 0 2 (emptySlots.map slotD), .row 2 0 2 []] = some x ∧ Res3 b (q.slots.map slotD) (q.vols.map volD) x := by
 have one : ∀ os, OpsSz os → (runM poolNew os).isSome = true → ∃ q b x, poolOk q = true ∧ W f_spec_l13Run [.agg [.hw 0, .hw 1], .sl .br (os.map opD)] [.row 2 0 2 (emptySlots.map slotD), .row 2 0 2 []] = some x ∧ Res3 b (q.slots.map slotD) (q.vols.map volD) x := by
  intro os hs hr
  obtain ⟨q, hq⟩ := Option.isSome_iff_exists.mp hr
  obtain ⟨xa, xb, x, e, hx, hab⟩ := ev_run0 h os hs
  obtain ⟨rfl, rfl⟩ := hab q hq
  exact ⟨q, _, x, runM_ok os poolNew_ok hq, e, hx⟩
 rcases ho with hg | ⟨o, hos, rfl⟩
 ·exact one os hg.sz hg.run
 ·cases hr : (runM poolNew [o]).isSome
  ·exact ⟨poolNew, false, _, poolNew_ok, ev_Run0 h o hos.sz hr, .inl rfl⟩
  ·exact one [o] ⟨by simp, fun x hx => by rw [List.mem_singleton] at hx; subst hx; exact hos.sz⟩ hr
theorem ev_l72EventZ (cs : List Int) (hc : ByOk cs) (p : Nat) (hp : p < 800000) (w : WorldM) (hw : WZ w) : ∃ e p', OpS e.op ∧ p ≤ p' ∧ p' ≤ p + 400 ∧ W f_spec_l72Event [.ptr 0 0, worldA w] [rdB cs p] = some (evA e, [rdB cs p']) := by
 have hpn := ev_sPoolNew h
 have hlead := hw.lead
 have hnl := hw.nl
 have hg1 := hw.x1
 have hg2 := hw.x2
 obtain ⟨a1, a2, term, lead, both, nets, done⟩ := w
 simp only at hlead hnl hg1 hg2
 have hln : ((nets.map msgD).length : Nat) = nets.length := List.length_map ..
 have hwn : IntKind.i64.wrap (((nets.map msgD).length : Nat) + 1) < 1000000 := by rw [hln, wrap_id (by omega) (by omega)]; omega
 obtain ⟨v, ev, v0, v1, _⟩ := ev_pick h cs hc p (by omega) 14 (by omega)
 have v1 := v1 (by omega)
 obtain ⟨x1, f1, x10, x11, _⟩ := ev_pick h cs hc (p + 1) (by omega) (IntKind.i64.wrap (((nets.map msgD).length : Nat) + 1)) hwn
 obtain ⟨x2, f2, _⟩ := ev_pick h cs hc (p + 1 + 1) (by omega) 2 (by omega)
 obtain ⟨x3, f3, _⟩ := ev_pick h cs hc (p + 1) (by omega) 2 (by omega)
 obtain ⟨x4, f4, _⟩ := ev_pick h cs hc (p + 1 + 1) (by omega) (IntKind.i64.wrap (((nets.map msgD).length : Nat) + 1)) hwn
 obtain ⟨x5, f5, _⟩ := ev_pick h cs hc (p + 1 + 1 + 1) (by omega) 2 (by omega)
 have hv : v = 0 ∨ v = 1 ∨ v = 2 ∨ v = 3 ∨ v = 4 ∨ v = 5 ∨ v = 6 ∨ v = 7 ∨ v = 8 ∨ (v = 9 ∨ v = 10 ∨ v = 11 ∨ v = 12 ∨ v = 13) := by omega
 rcases hlead with rfl | rfl
 ·obtain ⟨q, bb, x, hqo, e, hr⟩ := ev_runX h a1.ops hg1
  have hqg := poolOk_G hqo
  have hqn : ∀ v ∈ q.vols, v.name.size ≤ 10 := fun v hv => by have := isName_sz (((poolOk_iff q).1 hqo).nm v hv); omega
  obtain ⟨o, p', ho, hp1, hp2, eo⟩ := ev_l71Fits h cs hc q hqg hqn (p + 1) (by omega)
  have hask : ∀ s, (v = 0 ∨ v = 1 ∨ v = 2) → W f_spec_l72Event [.ptr 0 0, worldA ⟨a1, a2, term, 1, both, nets, done⟩] [rdB cs p] = s → s = some (evA ⟨1, 1, o⟩, [rdB cs p']) := by
   intro s hvv hs
   rw [← hs, h.call]
   rcases hvv with rfl | rfl | rfl
   all_goals
    rcases hr with rfl | ⟨ys, rfl⟩ | ⟨xs, ys, rfl⟩
    all_goals
    repeat (conv=>lhs;whnf;arg 2;tactic=>first|exact g1|exact ev|exact hpn|exact e|exact eo|exact gS|exact congrArg not hpn|exact g2)
    rfl
  rcases hv with rfl | rfl | rfl | rfl | rfl | rfl | rfl | rfl | rfl | hv
  ·exact ⟨_, p', ho, by omega, by omega, hask _ (by omega) rfl⟩
  ·exact ⟨_, p', ho, by omega, by omega, hask _ (by omega) rfl⟩
  ·exact ⟨_, p', ho, by omega, by omega, hask _ (by omega) rfl⟩
  ·obtain ⟨o2, p2, ho2, hp21, hp22, eo2⟩ := ev_l71Op h cs hc (p + 1) (by omega)
   refine ⟨⟨1, IntKind.i64.wrap (3 - 1), o2⟩, p2, ho2, by omega, by omega, ?_⟩
   rw [h.call]
   repeat (conv=>lhs;whnf;arg 2;tactic=>first|exact g1|exact ev|exact eo2|exact gS|exact congrArg not eo2|exact g2)
   rfl
  ·obtain ⟨y, fy, y0, y1, _⟩ := ev_pick h cs hc (p + 1) (by omega) 3 (by omega)
   obtain ⟨z, fz, z0, z1, _⟩ := ev_pick h cs hc (p + 1 + 1) (by omega) 3 (by omega)
   have z1 := z1 (by omega)
   cases hy : decide (y > 0)
   ·have hz : z = 0 ∨ z = 1 ∨ z = 2 := by omega
    rcases hz with rfl | rfl | rfl
    ·refine ⟨⟨7, 0, noOp⟩, p + 1 + 1 + 1, opS_noOp, by omega, by omega, ?_⟩
     rw [h.call]
     repeat (conv=>lhs;whnf;arg 2;tactic=>first|exact g1|exact ev|exact fy|exact hy|exact fz|exact gS|exact congrArg not hy|exact g2)
     rfl
    ·refine ⟨⟨7, 0, noOp⟩, p + 1 + 1 + 1, opS_noOp, by omega, by omega, ?_⟩
     rw [h.call]
     repeat (conv=>lhs;whnf;arg 2;tactic=>first|exact g1|exact ev|exact fy|exact hy|exact fz|exact gS|exact congrArg not hy|exact g2)
     rfl
    ·refine ⟨⟨8, 0, noOp⟩, p + 1 + 1 + 1, opS_noOp, by omega, by omega, ?_⟩
     rw [h.call]
     repeat (conv=>lhs;whnf;arg 2;tactic=>first|exact g1|exact ev|exact fy|exact hy|exact fz|exact gS|exact congrArg not hy|exact g2)
     rfl
   ·refine ⟨⟨9, 0, noOp⟩, p + 1 + 1, opS_noOp, by omega, by omega, ?_⟩
    rw [h.call]
    repeat (conv=>lhs;whnf;arg 2;tactic=>first|exact g1|exact ev|exact fy|exact hy|exact gS|exact congrArg not hy|exact g2)
    rfl
  ·cases hy : x3 == 0
   ·refine ⟨⟨3, x4, noOp⟩, p + 1 + 1 + 1, opS_noOp, by omega, by omega, ?_⟩
    rw [h.call]
    repeat (conv=>lhs;whnf;arg 2;tactic=>first|exact g1|exact ev|exact f3|exact hy|exact f4|exact gS|exact congrArg not hy|exact g2)
    rfl
   ·refine ⟨⟨5, IntKind.i64.wrap (1 + x2), noOp⟩, p + 1 + 1 + 1, opS_noOp, by omega, by omega, ?_⟩
    rw [h.call]
    repeat (conv=>lhs;whnf;arg 2;tactic=>first|exact g1|exact ev|exact f3|exact hy|exact f2|exact gS|exact congrArg not hy|exact g2)
    rfl
  ·refine ⟨⟨6, IntKind.i64.wrap (1 + x3), noOp⟩, p + 1 + 1, opS_noOp, by omega, by omega, ?_⟩
   rw [h.call]
   repeat (conv=>lhs;whnf;arg 2;tactic=>first|exact g1|exact ev|exact f3|exact gS|exact g2)
   rfl
  ·refine ⟨⟨4, x1, noOp⟩, p + 1 + 1, opS_noOp, by omega, by omega, ?_⟩
   rw [h.call]
   repeat (conv=>lhs;whnf;arg 2;tactic=>first|exact g1|exact ev|exact f1|exact gS|exact g2)
   rfl
  ·cases both
   ·refine ⟨⟨9, 0, noOp⟩, p + 1, opS_noOp, by omega, by omega, ?_⟩
    rw [h.call]
    repeat (conv=>lhs;whnf;arg 2;tactic=>first|exact g1|exact ev|exact gS|exact g2)
    rfl
   ·cases hy : x3 == 0
    ·refine ⟨⟨2, IntKind.i64.wrap (x4 * x5), noOp⟩, p + 1 + 1 + 1 + 1, opS_noOp, by omega, by omega, ?_⟩
     rw [h.call]
     repeat (conv=>lhs;whnf;arg 2;tactic=>first|exact g1|exact ev|exact f3|exact hy|exact f4|exact f5|exact gS|exact congrArg not hy|exact g2)
     rfl
    ·refine ⟨⟨7, 0, noOp⟩, p + 1 + 1, opS_noOp, by omega, by omega, ?_⟩
     rw [h.call]
     repeat (conv=>lhs;whnf;arg 2;tactic=>first|exact g1|exact ev|exact f3|exact hy|exact gS|exact congrArg not hy|exact g2)
     rfl
  ·refine ⟨⟨2, IntKind.i64.wrap (x1 * x2), noOp⟩, p + 1 + 1 + 1, opS_noOp, by omega, by omega, ?_⟩
   rw [h.call]
   rcases hv with rfl | rfl | rfl | rfl | rfl
   all_goals
    repeat (conv=>lhs;whnf;arg 2;tactic=>first|exact g1|exact ev|exact f1|exact f2|exact gS|exact g2)
    rfl
 ·obtain ⟨q, bb, x, hqo, e, hr⟩ := ev_runX h a2.ops hg2
  have hqg := poolOk_G hqo
  have hqn : ∀ v ∈ q.vols, v.name.size ≤ 10 := fun v hv => by have := isName_sz (((poolOk_iff q).1 hqo).nm v hv); omega
  obtain ⟨o, p', ho, hp1, hp2, eo⟩ := ev_l71Fits h cs hc q hqg hqn (p + 1) (by omega)
  have hask : ∀ s, (v = 0 ∨ v = 1 ∨ v = 2) → W f_spec_l72Event [.ptr 0 0, worldA ⟨a1, a2, term, 2, both, nets, done⟩] [rdB cs p] = s → s = some (evA ⟨1, 2, o⟩, [rdB cs p']) := by
   intro s hvv hs
   rw [← hs, h.call]
   rcases hvv with rfl | rfl | rfl
   all_goals
    rcases hr with rfl | ⟨ys, rfl⟩ | ⟨xs, ys, rfl⟩
    all_goals
    repeat (conv=>lhs;whnf;arg 2;tactic=>first|exact g1|exact ev|exact hpn|exact e|exact eo|exact gS|exact congrArg not hpn|exact g2)
    rfl
  rcases hv with rfl | rfl | rfl | rfl | rfl | rfl | rfl | rfl | rfl | hv
  ·exact ⟨_, p', ho, by omega, by omega, hask _ (by omega) rfl⟩
  ·exact ⟨_, p', ho, by omega, by omega, hask _ (by omega) rfl⟩
  ·exact ⟨_, p', ho, by omega, by omega, hask _ (by omega) rfl⟩
  ·obtain ⟨o2, p2, ho2, hp21, hp22, eo2⟩ := ev_l71Op h cs hc (p + 1) (by omega)
   refine ⟨⟨1, IntKind.i64.wrap (3 - 2), o2⟩, p2, ho2, by omega, by omega, ?_⟩
   rw [h.call]
   repeat (conv=>lhs;whnf;arg 2;tactic=>first|exact g1|exact ev|exact eo2|exact gS|exact congrArg not eo2|exact g2)
   rfl
  ·obtain ⟨y, fy, y0, y1, _⟩ := ev_pick h cs hc (p + 1) (by omega) 3 (by omega)
   obtain ⟨z, fz, z0, z1, _⟩ := ev_pick h cs hc (p + 1 + 1) (by omega) 3 (by omega)
   have z1 := z1 (by omega)
   cases hy : decide (y > 0)
   ·have hz : z = 0 ∨ z = 1 ∨ z = 2 := by omega
    rcases hz with rfl | rfl | rfl
    ·refine ⟨⟨7, 0, noOp⟩, p + 1 + 1 + 1, opS_noOp, by omega, by omega, ?_⟩
     rw [h.call]
     repeat (conv=>lhs;whnf;arg 2;tactic=>first|exact g1|exact ev|exact fy|exact hy|exact fz|exact gS|exact congrArg not hy|exact g2)
     rfl
    ·refine ⟨⟨7, 0, noOp⟩, p + 1 + 1 + 1, opS_noOp, by omega, by omega, ?_⟩
     rw [h.call]
     repeat (conv=>lhs;whnf;arg 2;tactic=>first|exact g1|exact ev|exact fy|exact hy|exact fz|exact gS|exact congrArg not hy|exact g2)
     rfl
    ·refine ⟨⟨8, 0, noOp⟩, p + 1 + 1 + 1, opS_noOp, by omega, by omega, ?_⟩
     rw [h.call]
     repeat (conv=>lhs;whnf;arg 2;tactic=>first|exact g1|exact ev|exact fy|exact hy|exact fz|exact gS|exact congrArg not hy|exact g2)
     rfl
   ·refine ⟨⟨9, 0, noOp⟩, p + 1 + 1, opS_noOp, by omega, by omega, ?_⟩
    rw [h.call]
    repeat (conv=>lhs;whnf;arg 2;tactic=>first|exact g1|exact ev|exact fy|exact hy|exact gS|exact congrArg not hy|exact g2)
    rfl
  ·cases hy : x3 == 0
   ·refine ⟨⟨3, x4, noOp⟩, p + 1 + 1 + 1, opS_noOp, by omega, by omega, ?_⟩
    rw [h.call]
    repeat (conv=>lhs;whnf;arg 2;tactic=>first|exact g1|exact ev|exact f3|exact hy|exact f4|exact gS|exact congrArg not hy|exact g2)
    rfl
   ·refine ⟨⟨5, IntKind.i64.wrap (1 + x2), noOp⟩, p + 1 + 1 + 1, opS_noOp, by omega, by omega, ?_⟩
    rw [h.call]
    repeat (conv=>lhs;whnf;arg 2;tactic=>first|exact g1|exact ev|exact f3|exact hy|exact f2|exact gS|exact congrArg not hy|exact g2)
    rfl
  ·refine ⟨⟨6, IntKind.i64.wrap (1 + x3), noOp⟩, p + 1 + 1, opS_noOp, by omega, by omega, ?_⟩
   rw [h.call]
   repeat (conv=>lhs;whnf;arg 2;tactic=>first|exact g1|exact ev|exact f3|exact gS|exact g2)
   rfl
  ·refine ⟨⟨4, x1, noOp⟩, p + 1 + 1, opS_noOp, by omega, by omega, ?_⟩
   rw [h.call]
   repeat (conv=>lhs;whnf;arg 2;tactic=>first|exact g1|exact ev|exact f1|exact gS|exact g2)
   rfl
  ·cases both
   ·refine ⟨⟨9, 0, noOp⟩, p + 1, opS_noOp, by omega, by omega, ?_⟩
    rw [h.call]
    repeat (conv=>lhs;whnf;arg 2;tactic=>first|exact g1|exact ev|exact gS|exact g2)
    rfl
   ·cases hy : x3 == 0
    ·refine ⟨⟨2, IntKind.i64.wrap (x4 * x5), noOp⟩, p + 1 + 1 + 1 + 1, opS_noOp, by omega, by omega, ?_⟩
     rw [h.call]
     repeat (conv=>lhs;whnf;arg 2;tactic=>first|exact g1|exact ev|exact f3|exact hy|exact f4|exact f5|exact gS|exact congrArg not hy|exact g2)
     rfl
    ·refine ⟨⟨7, 0, noOp⟩, p + 1 + 1, opS_noOp, by omega, by omega, ?_⟩
     rw [h.call]
     repeat (conv=>lhs;whnf;arg 2;tactic=>first|exact g1|exact ev|exact f3|exact hy|exact gS|exact congrArg not hy|exact g2)
     rfl
  ·refine ⟨⟨2, IntKind.i64.wrap (x1 * x2), noOp⟩, p + 1 + 1 + 1, opS_noOp, by omega, by omega, ?_⟩
   rw [h.call]
   rcases hv with rfl | rfl | rfl | rfl | rfl
   all_goals
    repeat (conv=>lhs;whnf;arg 2;tactic=>first|exact g1|exact ev|exact f1|exact f2|exact gS|exact g2)
    rfl
theorem ev_l72Event (cs : List Int) (hc : ByOk cs) (p : Nat) (hp : p < 800000) (w : WorldM) (hw : WG w) : ∃ e p', OpS e.op ∧ p ≤ p' ∧ p' ≤ p + 400 ∧ W f_spec_l72Event [.ptr 0 0, worldA w] [rdB cs p] = some (evA e, [rdB cs p']) := ev_l72EventZ h cs hc p hp w hw.z
end
end Go.Gn

