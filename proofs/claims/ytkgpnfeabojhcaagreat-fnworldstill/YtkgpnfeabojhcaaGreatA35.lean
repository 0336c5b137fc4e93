/- Part 35 of a proof: an evaluator of the program, proved sound, and what it answers. -/
import Derived.Test.YtkgpnfeabojhcaaGreatA21
import Derived.Test.YtkgpnfeabojhcaaGreatA29
import Derived.Test.YtkgpnfeabojhcaaGreatA30
import Derived.Test.YtkgpnfeabojhcaaGreatA32
set_option linter.all false
namespace Go.Gn
open Go
set_option maxRecDepth 100000
set_option maxHeartbeats 16000000
def iB0 (w : WorldM) (b : Nat) : Obj := .box [.hw 1, .int .i64 w.term, .int .i64 w.lead, .bool w.both, .nils, .hw b]
def net3 : Nat → WorldM → WorldM
 | 0, w => w
 | n + 1, w => net3 n (netM w 2 0)
inductive IA (x : List (List D)) (w : WorldM) : List Obj → Prop
 | a : IA x w [iB w 4 3, iN w, .row 10 0 0 x, oR 5 w.done, nR 0 w.nets]
 | b (d : List OpM) : IA x w [iB w 4 5, iN w, .row 10 0 0 x, oR 5 d, nR 0 w.nets, oR 5 w.done]
theorem join_quiet {w : WorldM} (hl : w.lead = 1 ∨ w.lead = 2) : joinM (quietM w) = { quietM w with nets := [joinMsg (quietM w)] } := by
 have hu : ((quietM w).nd (quietM w).lead).up = true := by
  show ((quietM w).nd w.lead).up = true
  rcases hl with hl | hl <;> rw [hl] <;> rfl
 unfold joinM
 rw [if_pos hu, send0M rfl]
section
variable {W : CallF} {L : LoopF} {E : EqF} {T : Prop → Bool} (h : IsK G W L E T)
include h
theorem ev_isend0 (w : WorldM) (m : MsgM) : W f_impl_World_send [.ptr 0 0, msgV m (.hw 3)] [iB0 w 2, iN w, oR 5 w.done, oR 5 m.ops] =
  some (.tup [], [iB w 4 2, iN w, oR 5 w.done, .frz 5 (m.ops.map opD), nR 0 [m]]) := by
 obtain ⟨k, t, te, n, o, ops⟩ := m
 rw [h.call]
 repeat (conv=>lhs;whnf;arg 2;tactic=>first|exact g1|exact gS|exact gN|exact g2)
 conv => lhs; whnf
 rfl
theorem ev_ijoin0 (w : WorldM) (hl : w.lead = 1 ∨ w.lead = 2) (ho : (w.nd w.lead).ops.length ≤ 20) (hup : (w.nd w.lead).up = true) : W f_impl_World_join [.ptr 0 0] [iB0 w 2, iN w, oR 5 w.done] =
  some (.tup [], [iB w 3 2, iN w, oR 5 w.done, nR 0 [joinMsg w]]) := by
 obtain ⟨a1, a2, term, lead, both, nets, done⟩ := w
 simp only at hl
 rcases hl with rfl | rfl
 ·have hup : a1.up = true := hup
  have ho : a1.ops.length ≤ 20 := ho
  have hln : ((a1.ops.map opD).length : Nat) = a1.ops.length := List.length_map ..
  have ec := ev_cloneOp h a1.ops (by omega)
  rw [show joinMsg ⟨a1, a2, term, 1, both, nets, done⟩ = ⟨3, IntKind.i64.wrap (3 - 1), a1.term, ((a1.ops.map opD).length : Nat), noOp, a1.ops⟩ from by rw [hln]; rfl]
  have es := ev_isend0 h ⟨a1, a2, term, 1, both, nets, done⟩ ⟨3, IntKind.i64.wrap (3 - 1), a1.term, ((a1.ops.map opD).length : Nat), noOp, a1.ops⟩
  rw [h.call]
  repeat (conv=>lhs;whnf;arg 2;tactic=>first|exact g1|exact hup|exact ec|exact es|exact gS|exact gN|exact congrArg not hup|exact g2)
  rfl
 ·have hup : a2.up = true := hup
  have ho : a2.ops.length ≤ 20 := ho
  have hln : ((a2.ops.map opD).length : Nat) = a2.ops.length := List.length_map ..
  have ec := ev_cloneOp h a2.ops (by omega)
  rw [show joinMsg ⟨a1, a2, term, 2, both, nets, done⟩ = ⟨3, IntKind.i64.wrap (3 - 2), a2.term, ((a2.ops.map opD).length : Nat), noOp, a2.ops⟩ from by rw [hln]; rfl]
  have es := ev_isend0 h ⟨a1, a2, term, 2, both, nets, done⟩ ⟨3, IntKind.i64.wrap (3 - 2), a2.term, ((a2.ops.map opD).length : Nat), noOp, a2.ops⟩
  rw [h.call]
  repeat (conv=>lhs;whnf;arg 2;tactic=>first|exact g1|exact hup|exact ec|exact es|exact gS|exact gN|exact congrArg not hup|exact g2)
  rfl
theorem calm3_loop (x : List (List D)) : ∀ (m i : Nat) (w : WorldM) (os : List Obj), i + m = 3 → WG w → WInv w → IA x w os → ∃ os', IA x (net3 m w) os' ∧ L (norm 4 cf98.live) (exitN 4 cf98.out (evCW W L G cf98 4 c98l0)) ⟨[(0, .ptr 0 0), (19, .int .i64 (i : Nat))], os⟩ = some (.ext 0, ⟨[], os'⟩)
 | 0, i, w, os, hm, hw, hi, ho => by
  refine ⟨os, ho, ?_⟩
  cases ho
  all_goals
   rw [h.loop]
   repeat (conv=>lhs;whnf;arg 2;tactic=>first|exact g1|exact gS|exact g2)
   rfl
 | m + 1, i, w, os, hm, hw, hi, ho => by
  have ih := calm3_loop x m (i + 1) (netM w 2 0)
  have hw2 := hw.net 2 0
  have hi2 := winv_net hi 2 0
  obtain ⟨r, hq, hr⟩ := ex_of (ev_inet h w hw hi 2 (.inl rfl) 0)
  show ∃ os', IA x (net3 m (netM w 2 0)) os' ∧ _
  generalize netM w 2 0 = w2 at hr ih hw2 hi2 ⊢
  cases ho
  ·cases hr
   ·obtain ⟨os', h1, h2⟩ := ih _ (by omega) hw2 hi2 (.a)
    refine ⟨os', h1, ?_⟩
    rw [← h2, h.loop]
    repeat (conv=>lhs;whnf;arg 2;tactic=>first|exact g1|exact hq|exact gS|exact g2)
    conv => lhs; whnf
    rw [wrap_succ (by omega)]
    rfl
   ·obtain ⟨os', h1, h2⟩ := ih _ (by omega) hw2 hi2 (.a)
    refine ⟨os', h1, ?_⟩
    rw [← h2, h.loop]
    repeat (conv=>lhs;whnf;arg 2;tactic=>first|exact g1|exact hq|exact gS|exact g2)
    conv => lhs; whnf
    rw [wrap_succ (by omega)]
    rfl
   ·obtain ⟨os', h1, h2⟩ := ih _ (by omega) hw2 hi2 (.b _)
    refine ⟨os', h1, ?_⟩
    rw [← h2, h.loop]
    repeat (conv=>lhs;whnf;arg 2;tactic=>first|exact g1|exact hq|exact gS|exact g2)
    conv => lhs; whnf
    rw [wrap_succ (by omega)]
    rfl
   ·obtain ⟨os', h1, h2⟩ := ih _ (by omega) hw2 hi2 (.b _)
    refine ⟨os', h1, ?_⟩
    rw [← h2, h.loop]
    repeat (conv=>lhs;whnf;arg 2;tactic=>first|exact g1|exact hq|exact gS|exact g2)
    conv => lhs; whnf
    rw [wrap_succ (by omega)]
    rfl
  ·cases hr
   ·obtain ⟨os', h1, h2⟩ := ih _ (by omega) hw2 hi2 (.b _)
    refine ⟨os', h1, ?_⟩
    rw [← h2, h.loop]
    repeat (conv=>lhs;whnf;arg 2;tactic=>first|exact g1|exact hq|exact gS|exact g2)
    conv => lhs; whnf
    rw [wrap_succ (by omega)]
    rfl
   ·obtain ⟨os', h1, h2⟩ := ih _ (by omega) hw2 hi2 (.b _)
    refine ⟨os', h1, ?_⟩
    rw [← h2, h.loop]
    repeat (conv=>lhs;whnf;arg 2;tactic=>first|exact g1|exact hq|exact gS|exact g2)
    conv => lhs; whnf
    rw [wrap_succ (by omega)]
    rfl
   ·obtain ⟨os', h1, h2⟩ := ih _ (by omega) hw2 hi2 (.b _)
    refine ⟨os', h1, ?_⟩
    rw [← h2, h.loop]
    repeat (conv=>lhs;whnf;arg 2;tactic=>first|exact g1|exact hq|exact gS|exact g2)
    conv => lhs; whnf
    rw [wrap_succ (by omega)]
    rfl
   ·obtain ⟨os', h1, h2⟩ := ih _ (by omega) hw2 hi2 (.b _)
    refine ⟨os', h1, ?_⟩
    rw [← h2, h.loop]
    repeat (conv=>lhs;whnf;arg 2;tactic=>first|exact g1|exact hq|exact gS|exact g2)
    conv => lhs; whnf
    rw [wrap_succ (by omega)]
    rfl
theorem ev_icalm (w : WorldM) (hw : WG w) (hi : WInv w) : ∃ os', IA (w.nets.map msgD) (roundM w) os' ∧ W f_impl_World_calm [.ptr 0 0] (iS w) = some (.tup [], os') := by
 have hl := hw.lead
 have hj := join_quiet hl
 have hwq : WG (joinM (quietM w)) := WG.join ⟨hw.lead, hw.o1, hw.o2, hw.t1, hw.t2, hw.t, by show 0 ≤ 12; omega, (fun m hm => by cases hm), hw.done⟩
 have hiq : WInv (joinM (quietM w)) := winv_join (winv_quiet hi)
 have ej := ev_ijoin0 h (quietM w) hl (by
  show ((quietM w).nd w.lead).ops.length ≤ 20
  have h1 := hw.o1.l
  have h2 := hw.o2.l
  rcases hl with hl | hl <;> rw [hl] <;> assumption) (by
  show ((quietM w).nd w.lead).up = true
  rcases hl with hl | hl <;> rw [hl] <;> rfl)
 obtain ⟨os', h1, h2⟩ := calm3_loop h (w.nets.map msgD) 3 0 _ _ rfl hwq hiq .a
 refine ⟨os', h1, ?_⟩
 rw [hj] at h2
 rw [nc0] at h2
 generalize net3 3 (joinM (quietM w)) = w' at h1
 cases h1
 all_goals
  rw [h.call]
  repeat (conv=>lhs;whnf;arg 2;tactic=>first|exact g1|exact ej|exact h2|exact gS|exact congrArg not ej|exact congrArg not h2|exact g2)
  rfl
end
end Go.Gn

namespace Go.Gn
open Go
set_option maxRecDepth 100000
set_option maxHeartbeats 16000000
section
variable {W : CallF} {L : LoopF} {E : EqF} {T : Prop → Bool} (h : IsK G W L E T)
include h
theorem clone_nodes (w : WorldM) (h1 : w.n1.ops.length < 2000000) (h2 : w.n2.ops.length < 2000000) : L (norm 0 cf97.live) (exitN 0 cf97.out (evCW W L G cf97 0 c97l1)) ⟨[(1, .ptr 0 0), (2, .ptr 1 0), (3, .ptr 2 0), (16, .sl .br [nodeD w.n1, nodeD w.n2]), (17, .int .i64 2), (18, .int .i64 0), (31, .un), (32, .un), (33, .un)], [wBox w, zWd, .box [.nils, .int .i64 w.term, .int .i64 w.lead, .bool w.both, .nils, .hw 3], oR 5 w.done]⟩ =
  some (.ext 0, ⟨[(1, .ptr 0 0), (2, .ptr 1 0), (3, .ptr 2 0)], [wBox w, zWd, .box [.hw 3, .int .i64 w.term, .int .i64 w.lead, .bool w.both, .nils, .hw 4], iN w, oR 5 w.done]⟩) := by
 have e1 := ev_Node_clone h w.n1 h1
 have e2 := ev_Node_clone h w.n2 h2
 rw [h.loop]
 repeat (conv=>lhs;whnf;arg 2;tactic=>first|exact g1|exact e1|exact gS|exact g2)
 conv => lhs; whnf
 rw [h.loop]
 repeat (conv=>lhs;whnf;arg 2;tactic=>first|exact g1|exact e2|exact gS|exact g2)
 conv => lhs; whnf
 rw [h.loop]
 repeat (conv=>lhs;whnf;arg 2;tactic=>first|exact g1|exact gS|exact g2)
 conv => lhs; whnf
 rfl
theorem clone_nets (w : WorldM) (hl : w.nets.length < 2000000) (hm : ∀ m ∈ w.nets, m.ops.length < 2000000) : ∀ (m i : Nat), i + m = w.nets.length → 0 < i → L (norm 0 cf97.live) (exitN 0 cf97.out (evCW W L G cf97 0 c97l0)) ⟨[(1, .ptr 0 0), (2, .ptr 1 0), (3, .ptr 2 0), (16, .top), (17, .top), (18, .top), (31, .sl .br (w.nets.map msgD)), (32, .int .i64 ((w.nets.map msgD).length : Nat)), (33, .int .i64 (i : Nat))], [wBox w, zWd, .box [.hw 3, .int .i64 w.term, .int .i64 w.lead, .bool w.both, .hw 4, .hw 5], iN w, nR 0 (w.nets.take i), oR 5 w.done]⟩ =
  some (.ext 2, ⟨[(1, .ptr 0 0), (2, .ptr 1 0), (3, .ptr 2 0)], [wBox w, zWd, .box [.hw 3, .int .i64 w.term, .int .i64 w.lead, .bool w.both, .hw 4, .hw 5], iN w, nR 0 w.nets, oR 5 w.done]⟩)
 | 0, i, hk, h0 => by
  have hlen : ((w.nets.map msgD).length : Nat) = w.nets.length := List.length_map ..
  rw [List.take_of_length_le (show w.nets.length ≤ i by omega), h.loop]
  repeat (conv=>lhs;whnf;arg 2;tactic=>first|exact g1|exact gS|exact g2)
  rfl
 | m + 1, i, hk, h0 => by
  obtain ⟨x, hx⟩ := get_some (xs := w.nets) (i := i) (by omega)
  have hlx := hm x (List.mem_of_getElem? hx)
  have ih := clone_nets w hl hm m (i + 1) (by omega) (by omega)
  have hlen : ((w.nets.map msgD).length : Nat) = w.nets.length := List.length_map ..
  have hlt : (((w.nets.take i).map msgD).length : Nat) = i := by rw [List.length_map, List.length_take]; omega
  have ec := ev_Msg_clone h x hlx
  have hc2 : ∀ y : List (List D), y.length = 1 → decide ((((w.nets.take i).map msgD).length + y.length) * 120 ≤ 140737488355328) = true := fun y hy => decide_eq_true (by rw [hy, hlt]; omega)
  rw [take_snoc hx] at ih
  rw [← ih, h.loop]
  repeat (conv=>lhs;whnf;arg 2;tactic=>first|exact g1|exact map_get hx|exact ec|exact hc2 _ rfl|exact gS|exact g2)
  conv => lhs; whnf
  rw [wrap_succ (by omega), nets_snocS]
  rfl
theorem clone_net0 (w : WorldM) (hl : w.nets.length < 2000000) (hm : ∀ m ∈ w.nets, m.ops.length < 2000000) (x : MsgM) (hx : w.nets[0]? = some x) : L (norm 0 cf97.live) (exitN 0 cf97.out (evCW W L G cf97 0 c97l0)) ⟨[(1, .ptr 0 0), (2, .ptr 1 0), (3, .ptr 2 0), (16, .top), (17, .top), (18, .top), (31, .sl .br (w.nets.map msgD)), (32, .int .i64 ((w.nets.map msgD).length : Nat)), (33, .int .i64 0)], [wBox w, zWd, .box [.hw 3, .int .i64 w.term, .int .i64 w.lead, .bool w.both, .nils, .hw 4], iN w, oR 5 w.done]⟩ =
  some (.ext 2, ⟨[(1, .ptr 0 0), (2, .ptr 1 0), (3, .ptr 2 0)], [wBox w, zWd, .box [.hw 3, .int .i64 w.term, .int .i64 w.lead, .bool w.both, .hw 4, .hw 5], iN w, nR 0 w.nets, oR 5 w.done]⟩) := by
 have h0 := (List.getElem?_eq_some_iff.1 hx).1
 have hlen : ((w.nets.map msgD).length : Nat) = w.nets.length := List.length_map ..
 have ih := clone_nets h w hl hm (w.nets.length - 1) 1 (by omega) (by omega)
 have ec := ev_Msg_clone h x (hm x (List.mem_of_getElem? hx))
 rw [take_snoc hx, List.take_zero] at ih
 rw [← ih, h.loop]
 repeat (conv=>lhs;whnf;arg 2;tactic=>first|exact g1|exact map_get hx|exact ec|exact gC|exact gS|exact g2)
 conv => lhs; whnf
 rfl
theorem ev_iclone (w : WorldM) (hw : WG w) : W f_impl_World_clone [worldA w] [] = some (worldI w, worldIO w) := by
 have l1 := hw.o1.l
 have l2 := hw.o2.l
 have ld := hw.done.l
 have hnl := hw.nl
 have hlen : ((w.nets.map msgD).length : Nat) = w.nets.length := List.length_map ..
 have e0 := ev_cloneOp h w.done (by omega)
 have e1 := clone_nodes h w (by omega) (by omega)
 have hm : ∀ m ∈ w.nets, m.ops.length < 2000000 := fun m hm => by have := (hw.nets m hm).ops.l; omega
 cases hn : w.nets with
 | nil =>
  obtain ⟨n1, n2, term, lead, both, nets, done⟩ := w
  simp only at hn
  subst hn
  rw [h.call]
  repeat (conv=>lhs;whnf;arg 2;tactic=>first|exact g1|exact e0|exact e1|exact gS|exact gL1|exact g2)
  rfl
 | cons x r =>
  have e2 := clone_net0 h w (by omega) hm x (by rw [hn]; rfl)
  rw [h.call]
  repeat (conv=>lhs;whnf;arg 2;tactic=>first|exact g1|exact e0|exact e1|exact e2|exact gS|exact g2)
  rfl
theorem ev_iWorldDo (w : WorldM) (hg : GoodW w) (e : EvM) (he : OpS e.op) : W f_impl_WorldDo [worldA w, evA e] [] = some (worldI (doM w e), worldIO (doM w e)) := by
 have eo := ev_WorldOk h w hg.g.wl
 rw [hg.ok] at eo
 have ec := ev_iclone h w hg.g
 obtain ⟨r, hq, hr⟩ := ex_of (ev_ido h w hg.g hg.i e he.sz)
 generalize doM w e = w2 at hr ⊢
 rw [h.call]
 repeat (conv=>lhs;whnf;arg 2;tactic=>first|exact g1|exact eo|exact ec|exact gS|exact g2)
 conv => lhs; whnf; arg 2; tactic => exact hq
 cases hr
 ·repeat (conv=>lhs;whnf;arg 2;tactic=>first|exact g1|exact gS|exact g2)
  rfl
 ·repeat (conv=>lhs;whnf;arg 2;tactic=>first|exact g1|exact gS|exact g2)
  rfl
 ·repeat (conv=>lhs;whnf;arg 2;tactic=>first|exact g1|exact gS|exact g2)
  rfl
 ·repeat (conv=>lhs;whnf;arg 2;tactic=>first|exact g1|exact gS|exact g2)
  rfl
end
end Go.Gn

namespace Go.Gn
open Go
set_option maxRecDepth 100000
set_option maxHeartbeats 16000000
section
variable {W : CallF} {L : LoopF} {E : EqF} {T : Prop → Bool} (h : IsK G W L E T)
include h
theorem icalm_loop (n : Nat) (hn : n < 1000) : ∀ (m i : Nat) (w : WorldM), i + m = n → WG w → WInv w → L (norm 0 cf51.live) (exitN 0 cf51.out (evCW W L G cf51 0 c51l0)) ⟨[(4, .ptr 0 0), (5, .ptr 1 0), (17, .int .i64 (n : Nat)), (18, .int .i64 (i : Nat))], iPO w⟩ =
  some (.ext 0, ⟨[(4, .ptr 0 0), (5, .ptr 1 0)], iPO (calmM m w)⟩)
 | 0, i, w, hm, hw, hi => by
  rw [h.loop]
  repeat (conv=>lhs;whnf;arg 2;tactic=>first|exact g1|exact gS|exact g2)
  rfl
 | m + 1, i, w, hm, hw, hi => by
  have hw2 : WG (roundM w) := hw.calm 1
  have hi2 : WInv (roundM w) := winv_calm 1 hi
  have ih := icalm_loop n hn m (i + 1) (roundM w) (by omega) hw2 hi2
  obtain ⟨os', ho, hq⟩ := ev_icalm h w hw hi
  show _ = some (_, (⟨_, iPO (calmM m (roundM w))⟩ : St))
  rw [← ih]
  clear ih
  generalize roundM w = w2 at ho ⊢
  cases ho
  ·rw [h.loop]
   repeat (conv=>lhs;whnf;arg 2;tactic=>first|exact g1|exact hq|exact gS|exact g2)
   conv => lhs; whnf
   rw [wrap_succ (by omega)]
   rfl
  ·rw [h.loop]
   repeat (conv=>lhs;whnf;arg 2;tactic=>first|exact g1|exact hq|exact gS|exact g2)
   conv => lhs; whnf
   rw [wrap_succ (by omega)]
   rfl
theorem ev_iWorldCalm (w : WorldM) (hg : GoodW w) (n : Nat) (hn : n ≤ 5) : W f_impl_WorldCalm [worldA w, .int .i64 (n : Nat)] [] = some (worldI (calmM n w), worldIO (calmM n w)) := by
 have eo := ev_WorldOk h w hg.g.wl
 rw [hg.ok] at eo
 have ein := ev_within h (n : Nat) 0 5
 rw [show inR (n : Nat) 0 5 = true by rw [inR_iff]; omega] at ein
 have ec := ev_iclone h w hg.g
 have e1 := icalm_loop h n (by omega) n 0 w (by omega) hg.g hg.i
 rw [nc0] at e1
 rw [h.call]
 repeat (conv=>lhs;whnf;arg 2;tactic=>first|exact g1|exact eo|exact ein|exact ec|exact e1|exact gS|exact g2)
 rfl
end
end Go.Gn

namespace Go.Gn
open Go
set_option maxRecDepth 100000
set_option maxHeartbeats 16000000
section
variable {W : CallF} {L : LoopF} {E : EqF} {T : Prop → Bool} (h : IsK G W L E T)
include h
theorem ev_FnWorldTurn (cs : List Int) (hc : BytesOk cs) : W f_laws_FnWorldTurn [.sl .sh (cs.map byD)] [] = some (.bool true, []) := by
 obtain ⟨es, hes, hl, e1⟩ := ev_DrawWorldPlay h cs hc
 cases hbig : decide (((cs.map byD).length : Int) > 1048576)
 ·rcases hl with hl | hl
  ·have hg := GoodW.new.play es
   have e2 := ev_iWorldPlay h es hes hl
   have e3 := ev_sWorldPlay h es hes hl
   have e4 := ev_lgWorld h _ hg.g.wl
   generalize hw : playM worldNew es = w at e2 e3 e4 hg
   have hlead := hg.g.lead
   have ht := play_term hl
   rw [hw] at ht
   have htb := hg.g.t
   have ed := ev_iWorldDo h w hg ⟨7, 0, noOp⟩ opS_noOp
   have ew := ev_lgWorld h w hg.g.wl
   have hdl := hg.g.done.l
   have hl1 := hg.g.o1.l
   have hl2 := hg.g.o2.l
   have key : w.both = true → (w.nd (3 - w.lead)).up = true → doM w ⟨7, 0, noOp⟩ = { w.setN (3 - w.lead) ⟨(w.nd (3 - w.lead)).up, w.term + 1, true, true, (w.nd (3 - w.lead)).ops⟩ with term := w.term + 1, lead := 3 - w.lead, both := false, done := (w.nd (3 - w.lead)).ops } := fun hb hu => by
    rw [← leadM_eq ht.1 (hg.i.r.bd hb)]
    show (if w.both && (w.nd (3 - w.lead)).up then leadM w (3 - w.lead) else w) = _
    rw [hb, hu]; rfl
   have key2 : (w.both && (w.nd (3 - w.lead)).up) = false → doM w ⟨7, 0, noOp⟩ = w := fun hb => by
    show (if w.both && (w.nd (3 - w.lead)).up then leadM w (3 - w.lead) else w) = _
    rw [hb]; rfl
   have hbd := hg.i.r.bd
   obtain ⟨a1, a2, term, lead, both, nets, done⟩ := w
   simp only at hlead ht htb hdl hl1 hl2
   have hterm : (term + 1 == IntKind.i64.wrap (term + 1)) = true := by rw [wrap_id (by omega) (by omega)]; simp
   rcases hlead with rfl | rfl
   ·cases both
    ·rw [key2 rfl] at ed
     rw [h.call]
     repeat (conv=>lhs;whnf;arg 2;tactic=>first|exact g1|exact hbig|exact e1|exact e2|exact e3|exact e4|exact ed|exact ew|exact gS|exact congrArg not hbig|exact congrArg not ew|exact g2)
     rfl
    ·cases hu : a2.up
     ·rw [key2 hu] at ed
      rw [h.call]
      repeat (conv=>lhs;whnf;arg 2;tactic=>first|exact g1|exact hbig|exact e1|exact e2|exact e3|exact e4|exact ed|exact ew|exact hu|exact gS|exact congrArg not hbig|exact congrArg not ew|exact congrArg not hu|exact g2)
      rfl
     ·rw [key rfl hu] at ed
      have eo := ev_lgOps h a2.ops a2.ops (by omega)
      rw [opsEq_refl] at eo
      have hbd : done <+: a2.ops := hbd rfl
      have eb := ev_lgBegins h done a2.ops (by omega)
      rw [pre_begins, (pre_iff _ _).2 hbd] at eb
      rw [h.call]
      repeat (conv=>lhs;whnf;arg 2;tactic=>first|exact g1|exact hbig|exact e1|exact e2|exact e3|exact e4|exact ed|exact hu|exact hterm|exact eo|exact eb|exact gS|exact congrArg not hbig|exact congrArg not hu|exact congrArg not hterm|exact g2)
      rfl
   ·cases both
    ·rw [key2 rfl] at ed
     rw [h.call]
     repeat (conv=>lhs;whnf;arg 2;tactic=>first|exact g1|exact hbig|exact e1|exact e2|exact e3|exact e4|exact ed|exact ew|exact gS|exact congrArg not hbig|exact congrArg not ew|exact g2)
     rfl
    ·cases hu : a1.up
     ·rw [key2 hu] at ed
      rw [h.call]
      repeat (conv=>lhs;whnf;arg 2;tactic=>first|exact g1|exact hbig|exact e1|exact e2|exact e3|exact e4|exact ed|exact ew|exact hu|exact gS|exact congrArg not hbig|exact congrArg not ew|exact congrArg not hu|exact g2)
      rfl
     ·rw [key rfl hu] at ed
      have eo := ev_lgOps h a1.ops a1.ops (by omega)
      rw [opsEq_refl] at eo
      have hbd : done <+: a1.ops := hbd rfl
      have eb := ev_lgBegins h done a1.ops (by omega)
      rw [pre_begins, (pre_iff _ _).2 hbd] at eb
      rw [h.call]
      repeat (conv=>lhs;whnf;arg 2;tactic=>first|exact g1|exact hbig|exact e1|exact e2|exact e3|exact e4|exact ed|exact hu|exact hterm|exact eo|exact eb|exact gS|exact congrArg not hbig|exact congrArg not hu|exact congrArg not hterm|exact g2)
      rfl
  ·have e2 := ev_iWorldPlayL h es hl
   have e3 := ev_sWorldPlayL h es hl
   have e4 := ev_lgWorldZ h
   rw [h.call]
   repeat (conv=>lhs;whnf;arg 2;tactic=>first|exact g1|exact hbig|exact e1|exact e2|exact e3|exact e4|exact congrArg not hbig|exact g2)
   rfl
 ·rw [h.call]
  repeat (conv=>lhs;whnf;arg 2;tactic=>first|exact g1|exact hbig|exact congrArg not hbig|exact g2)
  rfl
theorem ev_FnWorldCalm (cs : List Int) (hc : BytesOk cs) : W f_laws_FnWorldCalm [.sl .sh (cs.map byD)] [] = some (.bool true, []) := by
 obtain ⟨es, hes, hl, e1⟩ := ev_DrawWorldPlay h cs hc
 cases hbig : decide (((cs.map byD).length : Int) > 1048576)
 ·rcases hl with hl | hl
  ·have hg := GoodW.new.play es
   have e2 := ev_iWorldPlay h es hes hl
   have e3 := ev_sWorldPlay h es hes hl
   have e4 := ev_lgWorld h _ hg.g.wl
   generalize hw : playM worldNew es = w at e2 e3 e4 hg
   have hlead := hg.g.lead
   have ec := ev_iWorldCalm h w hg 1 (by decide)
   rw [calm_rest 0 hg.i] at ec
   have hl1 := hg.g.o1.l
   have hl2 := hg.g.o2.l
   obtain ⟨a1, a2, term, lead, both, nets, done⟩ := w
   simp only at hlead hl1 hl2
   rcases hlead with rfl | rfl
   ·rw [show restM ⟨a1, a2, term, 1, both, nets, done⟩ = ⟨⟨true, term, true, false, a1.ops⟩, ⟨true, term, false, false, a1.ops⟩, term, 1, true, [], a1.ops⟩ from rfl] at ec
    have eo := ev_lgOps h a1.ops a1.ops (by omega)
    rw [opsEq_refl] at eo
    rw [h.call]
    repeat (conv=>lhs;whnf;arg 2;tactic=>first|exact g1|exact hbig|exact e1|exact e2|exact e3|exact e4|exact ec|exact eo|exact gS|exact congrArg not hbig|exact g2)
    rfl
   ·rw [show restM ⟨a1, a2, term, 2, both, nets, done⟩ = ⟨⟨true, term, false, false, a2.ops⟩, ⟨true, term, true, false, a2.ops⟩, term, 2, true, [], a2.ops⟩ from rfl] at ec
    have eo := ev_lgOps h a2.ops a2.ops (by omega)
    rw [opsEq_refl] at eo
    rw [h.call]
    repeat (conv=>lhs;whnf;arg 2;tactic=>first|exact g1|exact hbig|exact e1|exact e2|exact e3|exact e4|exact ec|exact eo|exact gS|exact congrArg not hbig|exact g2)
    rfl
  ·have e2 := ev_iWorldPlayL h es hl
   have e3 := ev_sWorldPlayL h es hl
   have e4 := ev_lgWorldZ h
   rw [h.call]
   repeat (conv=>lhs;whnf;arg 2;tactic=>first|exact g1|exact hbig|exact e1|exact e2|exact e3|exact e4|exact congrArg not hbig|exact g2)
   rfl
 ·rw [h.call]
  repeat (conv=>lhs;whnf;arg 2;tactic=>first|exact g1|exact hbig|exact congrArg not hbig|exact g2)
  rfl
theorem ev_FnWorldStill (cs : List Int) (hc : BytesOk cs) (ds : List Int) (hd : BytesOk ds) : W f_laws_FnWorldStill [.sl .sh (cs.map byD), .sl .sh (ds.map byD)] [] = some (.bool true, []) := by
 obtain ⟨es, hes, hl, e1⟩ := ev_DrawWorldPlay h cs hc
 cases hbig : decide (((cs.map byD).length : Int) > 1048576)
 ·cases hbig2 : decide (((ds.map byD).length : Int) > 1048576)
  ·rcases hl with hl | hl
   ·have hg := GoodW.new.play es
    have e2 := ev_iWorldPlay h es hes hl
    have e3 := ev_sWorldPlay h es hes hl
    have e4 := ev_lgWorld h _ hg.g.wl
    generalize hw : playM worldNew es = w at e2 e3 e4 hg
    have ec := ev_iWorldCalm h w hg 1 (by decide)
    rw [calm_rest 0 hg.i] at ec
    have hgr : GoodW (restM w) := by
     have := hg.calm 1
     rwa [calm_rest 0 hg.i] at this
    have ec2 := ev_iWorldCalm h (restM w) hgr ((ds.map byD).length % 6) (by have := Nat.mod_lt (ds.map byD).length (show 0 < 6 by decide); omega)
    rw [calm_still hg.i] at ec2
    have ew := ev_lgWorld h (restM w) hgr.g.wl
    generalize restM w = x at ec ec2 ew
    rw [h.call]
    repeat (conv=>lhs;whnf;arg 2;tactic=>first|exact g1|exact hbig|exact hbig2|exact e1|exact e2|exact e3|exact e4|exact ec|exact ec2|exact ew|exact gS|exact congrArg not hbig|exact congrArg not hbig2|exact congrArg not ew|exact g2)
    rfl
   ·have e2 := ev_iWorldPlayL h es hl
    have e3 := ev_sWorldPlayL h es hl
    have e4 := ev_lgWorldZ h
    rw [h.call]
    repeat (conv=>lhs;whnf;arg 2;tactic=>first|exact g1|exact hbig|exact hbig2|exact e1|exact e2|exact e3|exact e4|exact congrArg not hbig|exact congrArg not hbig2|exact g2)
    rfl
  ·rw [h.call]
   repeat (conv=>lhs;whnf;arg 2;tactic=>first|exact g1|exact hbig|exact hbig2|exact congrArg not hbig|exact congrArg not hbig2|exact g2)
   rfl
 ·rw [h.call]
  repeat (conv=>lhs;whnf;arg 2;tactic=>first|exact g1|exact hbig|exact congrArg not hbig|exact g2)
  rfl
end
end Go.Gn

