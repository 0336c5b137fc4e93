/- Part 30 of a proof: an evaluator of the program, proved sound, and what it answers. -/
import Derived.Test.YtkgpnfeabojhcaaGreatA10
import Derived.Test.YtkgpnfeabojhcaaGreatA19
import Derived.Test.YtkgpnfeabojhcaaGreatA21
import Derived.Test.YtkgpnfeabojhcaaGreatA26
import Derived.Test.YtkgpnfeabojhcaaGreatA28
import Derived.Test.YtkgpnfeabojhcaaGreatA29
set_option linter.all false
namespace Go.Gn
open Go
set_option maxRecDepth 100000
set_option maxHeartbeats 16000000
def iPO (w : WorldM) : List Obj := [zW, .box [.hw 2, .int .i64 w.term, .int .i64 w.lead, .bool w.both, .hw 3, .hw 4], iN w, nR 0 w.nets, oR 5 w.done]
section
variable {W : CallF} {L : LoopF} {E : EqF} {T : Prop → Bool} (h : IsK G W L E T)
include h
theorem ev_iNodeNew1 : W f_impl_NodeNew [.int .i64 1] [] = some (.tup [.agg [.bool true, .int .i64 1, .bool true, .bool true, .nils], .bool true], []) := by
 rw [h.call]
 repeat (conv=>lhs;whnf;arg 2;tactic=>first|exact g1|exact g2)
 rfl
theorem ev_iNodeNew2 : W f_impl_NodeNew [.int .i64 2] [] = some (.tup [.agg [.bool true, .int .i64 0, .bool false, .bool false, .nils], .bool true], []) := by
 rw [h.call]
 repeat (conv=>lhs;whnf;arg 2;tactic=>first|exact g1|exact g2)
 rfl
theorem ev_iWorldNew : W f_impl_WorldNew [] [] = some (worldI worldNew, worldIO worldNew) := by
 have e1 := ev_iNodeNew1 h
 have e2 := ev_iNodeNew2 h
 rw [h.call]
 repeat (conv=>lhs;whnf;arg 2;tactic=>first|exact g1|exact e1|exact e2|exact congrArg not e1|exact congrArg not e2|exact g2)
 rfl
theorem iplay_loop (es : List EvM) (hes : EvS es) (hel : es.length < 2000000) : ∀ (m i : Nat) (w : WorldM), i + m = es.length → WG w → WInv w → L (norm 0 cf34.live) (exitN 0 cf34.out (evCW W L G cf34 0 c34l0)) ⟨[(2, .ptr 0 0), (4, .ptr 1 0), (12, .sl .br (es.map evD)), (13, .int .i64 ((es.map evD).length : Nat)), (14, .int .i64 (i : Nat))], iPO w⟩ =
  some (.ext 0, ⟨[(2, .ptr 0 0), (3, .top), (4, .ptr 1 0)], iPO (playM w (es.drop i))⟩)
 | 0, i, w, hm, hw, hi => by
  have hlen : ((es.map evD).length : Nat) = es.length := List.length_map ..
  rw [List.drop_eq_nil_of_le (show es.length ≤ i by omega), h.loop]
  repeat (conv=>lhs;whnf;arg 2;tactic=>first|exact g1|exact gS|exact g2)
  rfl
 | m + 1, i, w, hm, hw, hi => by
  have hlen : ((es.map evD).length : Nat) = es.length := List.length_map ..
  obtain ⟨e, hx⟩ := get_some (xs := es) (i := i) (by omega)
  have he := hes e (List.mem_of_getElem? hx)
  have ih := iplay_loop es hes hel m (i + 1) (doM w e) (by omega) (hw.doM e) (winv_do hi e)
  obtain ⟨r, hq, hr⟩ := ex_of (ev_ido h w hw hi e he.sz)
  rw [drop_cons hx]
  show _ = some (_, (⟨_, iPO (playM (doM w e) (es.drop (i + 1)))⟩ : St))
  rw [← ih]
  clear ih
  generalize doM w e = w2 at hr ⊢
  rw [h.loop]
  repeat (conv=>lhs;whnf;arg 2;tactic=>first|exact g1|exact map_get hx|exact gS|exact g2)
  conv => lhs; whnf; arg 2; tactic => exact hq
  cases hr
  ·repeat (conv=>lhs;whnf;arg 2;tactic=>first|exact g1|exact gS|exact g2)
   conv => lhs; whnf
   rw [wrap_succ (by omega)]
   rfl
  ·repeat (conv=>lhs;whnf;arg 2;tactic=>first|exact g1|exact gS|exact g2)
   conv => lhs; whnf
   rw [wrap_succ (by omega)]
   rfl
  ·repeat (conv=>lhs;whnf;arg 2;tactic=>first|exact g1|exact gS|exact g2)
   conv => lhs; whnf
   rw [wrap_succ (by omega)]
   rfl
  ·repeat (conv=>lhs;whnf;arg 2;tactic=>first|exact g1|exact gS|exact g2)
   conv => lhs; whnf
   rw [wrap_succ (by omega)]
   rfl
theorem ev_iWorldPlay (es : List EvM) (hes : EvS es) (hl : es.length ≤ 60) : W f_impl_WorldPlay [.sl .br (es.map evD)] [] = some (.tup [worldI (playM worldNew es), .bool true], worldIO (playM worldNew es)) := by
 have hlen : ((es.map evD).length : Nat) = es.length := List.length_map ..
 have e0 := ev_iWorldNew h
 have e1 := iplay_loop h es hes (by omega) es.length 0 worldNew (by omega) WG.new winv_new
 rw [nc0, List.drop_zero] at e1
 rw [h.call]
 repeat (conv=>lhs;whnf;arg 2;tactic=>first|exact g1|exact e0|exact e1|exact gS|exact congrArg not e0|exact congrArg not e1|exact g2)
 rfl
theorem ev_iWorldPlayL (es : List EvM) (hl : es.length = 61) : W f_impl_WorldPlay [.sl .br (es.map evD)] [] = some (.tup [.agg [.nils, .int .i64 0, .int .i64 0, .bool false, .nils, .nils], .bool false], []) := by
 have hlen : ((es.map evD).length : Nat) = es.length := List.length_map ..
 rw [h.call]
 repeat (conv=>lhs;whnf;arg 2;tactic=>first|exact g1|exact gS|exact g2)
 rfl
end
end Go.Gn

namespace Go.Gn
open Go
structure AskY (w : WorldM) (o : OpM) (x : WorldM) : Prop where
 nn : x.nd w.lead = nodeAdd (w.nd w.lead) o
 oo : x.nd (3 - w.lead) = w.nd (3 - w.lead)
 l : x.lead = w.lead
 b : x.both = w.both
 t : x.term = w.term
 da : w.both = false → x.done = (w.nd w.lead).ops ++ [o]
 db : w.both = true → x.done = w.done
 ns : x.nets = if w.nets.length < 12 then w.nets ++ [askMsg (w.nd w.lead) w.lead o] else w.nets
end Go.Gn

namespace Go.Gn
open Go
theorem OpsG.pre {a b : List OpM} (h : OpsG b) (hp : a <+: b) : OpsG a := by
 obtain ⟨c, rfl⟩ := hp
 have := h.take a.length
 rwa [List.take_left] at this
end Go.Gn

namespace Go.Gn
open Go
structure GoodW (w : WorldM) : Prop where
 g : WG w
 i : WInv w
theorem GoodW.new : GoodW worldNew := ⟨WG.new, winv_new⟩
theorem GoodW.doM {w : WorldM} (h : GoodW w) (e : EvM) : GoodW (doM w e) := ⟨h.g.doM e, winv_do h.i e⟩
theorem GoodW.play {w : WorldM} (h : GoodW w) (es : List EvM) : GoodW (playM w es) := ⟨h.g.play es, winv_play es h.i⟩
theorem GoodW.ok {w : WorldM} (h : GoodW w) : worldOkM w = true := (winv_iff h.i.lead).2 h.i
theorem WG.wl {w : WorldM} (h : WG w) : WL w := ⟨h.lead, h.o1.sz, h.o2.sz, by have := h.nl; omega, fun m hm => (h.nets m hm).sz, h.done.sz⟩
end Go.Gn

namespace Go.Gn
open Go
set_option maxRecDepth 100000
set_option maxHeartbeats 16000000
section
variable {W : CallF} {L : LoopF} {E : EqF} {T : Prop → Bool} (h : IsK G W L E T)
include h
theorem splay_loop (es : List EvM) (hes : EvS es) (hel : es.length < 2000000) : ∀ (m i : Nat) (w : WorldM), i + m = es.length → WG w → L (norm 0 cf35.live) (exitN 0 cf35.out (evCW W L G cf35 0 c35l0)) ⟨[(0, .sl .br (es.map evD)), (2, .ptr 0 0), (4, .ptr 1 0), (5, .int .i64 (i : Nat))], plO2 w⟩ =
  some (.ext 0, ⟨[(2, .ptr 0 0), (3, .top), (4, .ptr 1 0)], plO2 (playM w (es.drop i))⟩)
 | 0, i, w, hm, hw => by
  have hlen : ((es.map evD).length : Nat) = es.length := List.length_map ..
  rw [List.drop_eq_nil_of_le (show es.length ≤ i by omega), h.loop]
  repeat (conv=>lhs;whnf;arg 2;tactic=>first|exact g1|exact gS|exact g2)
  rfl
 | m + 1, i, w, hm, hw => by
  have hlen : ((es.map evD).length : Nat) = es.length := List.length_map ..
  obtain ⟨e, hx⟩ := get_some (xs := es) (i := i) (by omega)
  have he := hes e (List.mem_of_getElem? hx)
  have ih := splay_loop es hes hel m (i + 1) (doM w e) (by omega) (hw.doM e)
  obtain ⟨r, hq, hr⟩ := ex_of (ev_l22Do h w hw 10 e he.sz)
  rw [drop_cons hx]
  show _ = some (_, (⟨_, plO2 (playM (doM w e) (es.drop (i + 1)))⟩ : St))
  rw [← ih]
  clear ih
  generalize doM w e = w2 at hr ⊢
  rw [h.loop]
  repeat (conv=>lhs;whnf;arg 2;tactic=>first|exact g1|exact map_get hx|exact gS|exact g2)
  conv => lhs; whnf; arg 2; tactic => exact hq
  cases hr
  ·repeat (conv=>lhs;whnf;arg 2;tactic=>first|exact g1|exact gS|exact g2)
   conv => lhs; whnf
   rw [wrap_succ (by omega)]
   rfl
  ·repeat (conv=>lhs;whnf;arg 2;tactic=>first|exact g1|exact gS|exact g2)
   conv => lhs; whnf
   rw [wrap_succ (by omega)]
   rfl
  ·repeat (conv=>lhs;whnf;arg 2;tactic=>first|exact g1|exact gS|exact g2)
   conv => lhs; whnf
   rw [wrap_succ (by omega)]
   rfl
  ·repeat (conv=>lhs;whnf;arg 2;tactic=>first|exact g1|exact gS|exact g2)
   conv => lhs; whnf
   rw [wrap_succ (by omega)]
   rfl
  ·repeat (conv=>lhs;whnf;arg 2;tactic=>first|exact g1|exact gS|exact g2)
   conv => lhs; whnf
   rw [wrap_succ (by omega)]
   rfl
  ·repeat (conv=>lhs;whnf;arg 2;tactic=>first|exact g1|exact gS|exact g2)
   conv => lhs; whnf
   rw [wrap_succ (by omega)]
   rfl
  ·repeat (conv=>lhs;whnf;arg 2;tactic=>first|exact g1|exact gS|exact g2)
   conv => lhs; whnf
   rw [wrap_succ (by omega)]
   rfl
  ·repeat (conv=>lhs;whnf;arg 2;tactic=>first|exact g1|exact gS|exact g2)
   conv => lhs; whnf
   rw [wrap_succ (by omega)]
   rfl
  ·repeat (conv=>lhs;whnf;arg 2;tactic=>first|exact g1|exact gS|exact g2)
   conv => lhs; whnf
   rw [wrap_succ (by omega)]
   rfl
  ·repeat (conv=>lhs;whnf;arg 2;tactic=>first|exact g1|exact gS|exact g2)
   conv => lhs; whnf
   rw [wrap_succ (by omega)]
   rfl
  ·repeat (conv=>lhs;whnf;arg 2;tactic=>first|exact g1|exact gS|exact g2)
   conv => lhs; whnf
   rw [wrap_succ (by omega)]
   rfl
  ·repeat (conv=>lhs;whnf;arg 2;tactic=>first|exact g1|exact gS|exact g2)
   conv => lhs; whnf
   rw [wrap_succ (by omega)]
   rfl
  ·repeat (conv=>lhs;whnf;arg 2;tactic=>first|exact g1|exact gS|exact g2)
   conv => lhs; whnf
   rw [wrap_succ (by omega)]
   rfl
  ·repeat (conv=>lhs;whnf;arg 2;tactic=>first|exact g1|exact gS|exact g2)
   conv => lhs; whnf
   rw [wrap_succ (by omega)]
   rfl
  ·repeat (conv=>lhs;whnf;arg 2;tactic=>first|exact g1|exact gS|exact g2)
   conv => lhs; whnf
   rw [wrap_succ (by omega)]
   rfl
  ·repeat (conv=>lhs;whnf;arg 2;tactic=>first|exact g1|exact gS|exact g2)
   conv => lhs; whnf
   rw [wrap_succ (by omega)]
   rfl
  ·repeat (conv=>lhs;whnf;arg 2;tactic=>first|exact g1|exact gS|exact g2)
   conv => lhs; whnf
   rw [wrap_succ (by omega)]
   rfl
theorem ev_sWorldPlay (es : List EvM) (hes : EvS es) (hl : es.length ≤ 60) : W f_spec_WorldPlay [.sl .br (es.map evD)] [] = some (.tup [wV (playM worldNew es) 3 4, .bool true], worldSD (playM worldNew es)) := by
 have hlen : ((es.map evD).length : Nat) = es.length := List.length_map ..
 have e0 := ev_sWorldNew h
 have e1 := splay_loop h es hes (by omega) es.length 0 worldNew (by omega) WG.new
 rw [nc0, List.drop_zero] at e1
 have ec := ev_l22Copy h (playM worldNew es) (WG.new.play es)
 generalize playM worldNew es = w at e1 ec
 rw [h.call]
 repeat (conv=>lhs;whnf;arg 2;tactic=>first|exact g1|exact e0|exact e1|exact ec|exact gS|exact g2)
 rfl
theorem ev_sWorldPlayL (es : List EvM) (hl : es.length = 61) : W f_spec_WorldPlay [.sl .br (es.map evD)] [] = some (.tup [.agg [.nils, .int .i64 0, .int .i64 0, .bool false, .nils, .nils], .bool false], []) := by
 have hlen : ((es.map evD).length : Nat) = es.length := List.length_map ..
 rw [h.call]
 repeat (conv=>lhs;whnf;arg 2;tactic=>first|exact g1|exact gS|exact g2)
 rfl
end
end Go.Gn

namespace Go.Gn
open Go
set_option maxRecDepth 100000
set_option maxHeartbeats 16000000
theorem WZ.l {w : WorldM} (h : WZ w) : WL w := ⟨h.lead, h.o1.sz, h.o2.sz, by have := h.nl; omega, fun m hm => (h.nets m hm).sz, h.done.sz⟩
section
variable {W : CallF} {L : LoopF} {E : EqF} {T : Prop → Bool} (h : IsK G W L E T)
include h
end
end Go.Gn

namespace Go.Gn
open Go
set_option maxRecDepth 100000
set_option maxHeartbeats 16000000
theorem fB {b : Bool} (hb : b = true) : some (AV.bool b, ([] : List Obj)) = some (.bool true, []) := by rw [hb]
section
variable {W : CallF} {L : LoopF} {E : EqF} {T : Prop → Bool} (h : IsK G W L E T)
include h
theorem ev_FnWorldAlone (cs : List Int) (hc : BytesOk cs) : W f_laws_FnWorldAlone [.sl .sh (cs.map byD)] [] = some (.bool true, []) := by
 obtain ⟨es, hes, hl, e1⟩ := ev_DrawWorldPlay h cs hc
 cases hbig : decide (((cs.map byD).length : Int) > 1048576)
 ·rcases hl with hl | hl
  ·have hg := GoodW.new.play es
   have e2 := ev_iWorldPlay h es hes hl
   have e3 := ev_sWorldPlay h es hes hl
   have e4 := ev_lgWorld h _ hg.g.wl
   generalize hw : playM worldNew es = w at e2 e3 e4 hg
   have hlead := hg.g.lead
   have hal := fun hb => alone_done hg.i hb
   have hdl := hg.g.done.l
   obtain ⟨a1, a2, term, lead, both, nets, done⟩ := w
   simp only at hlead hal hdl
   rcases hlead with rfl | rfl
   ·cases both
    ·have eo := ev_lgOps h done done (by omega)
     rw [opsEq_refl] at eo
     have hd : done = a1.ops := hal rfl
     subst hd
     rw [h.call]
     repeat (conv=>lhs;whnf;arg 2;tactic=>first|exact g1|exact hbig|exact e1|exact e2|exact e3|exact e4|exact eo|exact gS|exact congrArg not hbig|exact congrArg not e1|exact congrArg not e2|exact congrArg not e3|exact congrArg not e4|exact congrArg not eo|exact g2)
     rfl
    ·rw [h.call]
     repeat (conv=>lhs;whnf;arg 2;tactic=>first|exact g1|exact hbig|exact e1|exact e2|exact e3|exact e4|exact gS|exact congrArg not hbig|exact congrArg not e1|exact congrArg not e2|exact congrArg not e3|exact congrArg not e4|exact g2)
     rfl
   ·cases both
    ·have eo := ev_lgOps h done done (by omega)
     rw [opsEq_refl] at eo
     have hd : done = a2.ops := hal rfl
     subst hd
     rw [h.call]
     repeat (conv=>lhs;whnf;arg 2;tactic=>first|exact g1|exact hbig|exact e1|exact e2|exact e3|exact e4|exact eo|exact gS|exact congrArg not hbig|exact congrArg not e1|exact congrArg not e2|exact congrArg not e3|exact congrArg not e4|exact congrArg not eo|exact g2)
     rfl
    ·rw [h.call]
     repeat (conv=>lhs;whnf;arg 2;tactic=>first|exact g1|exact hbig|exact e1|exact e2|exact e3|exact e4|exact gS|exact congrArg not hbig|exact congrArg not e1|exact congrArg not e2|exact congrArg not e3|exact congrArg not e4|exact g2)
     rfl
  ·have e2 := ev_iWorldPlayL h es hl
   have e3 := ev_sWorldPlayL h es hl
   have e4 := ev_lgWorldZ h
   rw [h.call]
   repeat (conv=>lhs;whnf;arg 2;tactic=>first|exact g1|exact hbig|exact e1|exact e2|exact e3|exact e4|exact congrArg not hbig|exact congrArg not e1|exact congrArg not e2|exact congrArg not e3|exact congrArg not e4|exact g2)
   rfl
 ·rw [h.call]
  repeat (conv=>lhs;whnf;arg 2;tactic=>first|exact g1|exact hbig|exact congrArg not hbig|exact g2)
  rfl
theorem ev_FnWorldOne (cs : List Int) (hc : BytesOk cs) : W f_laws_FnWorldOne [.sl .sh (cs.map byD)] [] = some (.bool true, []) := by
 obtain ⟨es, hes, hl, e1⟩ := ev_DrawWorldPlay h cs hc
 cases hbig : decide (((cs.map byD).length : Int) > 1048576)
 ·rcases hl with hl | hl
  ·have hg := GoodW.new.play es
   have e2 := ev_iWorldPlay h es hes hl
   have e3 := ev_sWorldPlay h es hes hl
   have e4 := ev_lgWorld h _ hg.g.wl
   generalize hw : playM worldNew es = w at e2 e3 e4 hg
   have hlead := hg.g.lead
   have hr := hg.i.r
   obtain ⟨a1, a2, term, lead, both, nets, done⟩ := w
   simp only at hlead
   rcases hlead with rfl | rfl
   ·have hr : RightP a1 a2 term both done := hr
    have c1 : a1.leads = true := hr.nl
    have c2 : (a1.term == term) = true := by simp [hr.nt]
    have c3 : a1.alone = !both := hr.na
    have c4 : a2.alone = false := hr.oa
    have c5 : decide (a2.term ≤ term) = true := decide_eq_true hr.ot
    cases c6 : a2.leads
    ·cases both
     ·have c8 : (if true = true then !(a1.alone == false) else (a1.alone == false)) = true := by rw [c3]; rfl
      rw [h.call]
      repeat (conv=>lhs;whnf;arg 2;tactic=>first|exact g1|exact hbig|exact e1|exact e2|exact e3|exact e4|exact c8|exact c1|exact c2|exact c3|exact c4|exact c5|exact c6|exact gS|exact congrArg not hbig|exact congrArg not e1|exact congrArg not e2|exact congrArg not e3|exact congrArg not e4|exact congrArg not c8|exact congrArg not c1|exact congrArg not c2|exact congrArg not c3|exact congrArg not c4|exact congrArg not c5|exact congrArg not c6|exact g2)
      conv => lhs; whnf
      exact fB c5
     ·have c8 : (if true = true then !(a1.alone == true) else (a1.alone == true)) = true := by rw [c3]; rfl
      rw [h.call]
      repeat (conv=>lhs;whnf;arg 2;tactic=>first|exact g1|exact hbig|exact e1|exact e2|exact e3|exact e4|exact c8|exact c1|exact c2|exact c3|exact c4|exact c5|exact c6|exact gS|exact congrArg not hbig|exact congrArg not e1|exact congrArg not e2|exact congrArg not e3|exact congrArg not e4|exact congrArg not c8|exact congrArg not c1|exact congrArg not c2|exact congrArg not c3|exact congrArg not c4|exact congrArg not c5|exact congrArg not c6|exact g2)
      conv => lhs; whnf
      exact fB c5
    ·have c7 : decide (a2.term < term) = true := decide_eq_true (by
      have := hr.ot
      have : a2.term ≠ term := fun e => by rw [(hr.p e).1] at c6; cases c6
      omega)
     cases both
     ·have c8 : (if true = true then !(a1.alone == false) else (a1.alone == false)) = true := by rw [c3]; rfl
      rw [h.call]
      repeat (conv=>lhs;whnf;arg 2;tactic=>first|exact g1|exact hbig|exact e1|exact e2|exact e3|exact e4|exact c8|exact c1|exact c2|exact c3|exact c4|exact c5|exact c6|exact c7|exact gS|exact congrArg not hbig|exact congrArg not e1|exact congrArg not e2|exact congrArg not e3|exact congrArg not e4|exact congrArg not c8|exact congrArg not c1|exact congrArg not c2|exact congrArg not c3|exact congrArg not c4|exact congrArg not c5|exact congrArg not c6|exact congrArg not c7|exact g2)
      conv => lhs; whnf
      exact fB c5
     ·have c8 : (if true = true then !(a1.alone == true) else (a1.alone == true)) = true := by rw [c3]; rfl
      rw [h.call]
      repeat (conv=>lhs;whnf;arg 2;tactic=>first|exact g1|exact hbig|exact e1|exact e2|exact e3|exact e4|exact c8|exact c1|exact c2|exact c3|exact c4|exact c5|exact c6|exact c7|exact gS|exact congrArg not hbig|exact congrArg not e1|exact congrArg not e2|exact congrArg not e3|exact congrArg not e4|exact congrArg not c8|exact congrArg not c1|exact congrArg not c2|exact congrArg not c3|exact congrArg not c4|exact congrArg not c5|exact congrArg not c6|exact congrArg not c7|exact g2)
      conv => lhs; whnf
      exact fB c5
   ·have hr : RightP a2 a1 term both done := hr
    have c1 : a2.leads = true := hr.nl
    have c2 : (a2.term == term) = true := by simp [hr.nt]
    have c3 : a2.alone = !both := hr.na
    have c4 : a1.alone = false := hr.oa
    have c5 : decide (a1.term ≤ term) = true := decide_eq_true hr.ot
    cases c6 : a1.leads
    ·cases both
     ·have c8 : (if true = true then !(a2.alone == false) else (a2.alone == false)) = true := by rw [c3]; rfl
      rw [h.call]
      repeat (conv=>lhs;whnf;arg 2;tactic=>first|exact g1|exact hbig|exact e1|exact e2|exact e3|exact e4|exact c8|exact c1|exact c2|exact c3|exact c4|exact c5|exact c6|exact gS|exact congrArg not hbig|exact congrArg not e1|exact congrArg not e2|exact congrArg not e3|exact congrArg not e4|exact congrArg not c8|exact congrArg not c1|exact congrArg not c2|exact congrArg not c3|exact congrArg not c4|exact congrArg not c5|exact congrArg not c6|exact g2)
      conv => lhs; whnf
      exact fB c5
     ·have c8 : (if true = true then !(a2.alone == true) else (a2.alone == true)) = true := by rw [c3]; rfl
      rw [h.call]
      repeat (conv=>lhs;whnf;arg 2;tactic=>first|exact g1|exact hbig|exact e1|exact e2|exact e3|exact e4|exact c8|exact c1|exact c2|exact c3|exact c4|exact c5|exact c6|exact gS|exact congrArg not hbig|exact congrArg not e1|exact congrArg not e2|exact congrArg not e3|exact congrArg not e4|exact congrArg not c8|exact congrArg not c1|exact congrArg not c2|exact congrArg not c3|exact congrArg not c4|exact congrArg not c5|exact congrArg not c6|exact g2)
      conv => lhs; whnf
      exact fB c5
    ·have c7 : decide (a1.term < term) = true := decide_eq_true (by
      have := hr.ot
      have : a1.term ≠ term := fun e => by rw [(hr.p e).1] at c6; cases c6
      omega)
     cases both
     ·have c8 : (if true = true then !(a2.alone == false) else (a2.alone == false)) = true := by rw [c3]; rfl
      rw [h.call]
      repeat (conv=>lhs;whnf;arg 2;tactic=>first|exact g1|exact hbig|exact e1|exact e2|exact e3|exact e4|exact c8|exact c1|exact c2|exact c3|exact c4|exact c5|exact c6|exact c7|exact gS|exact congrArg not hbig|exact congrArg not e1|exact congrArg not e2|exact congrArg not e3|exact congrArg not e4|exact congrArg not c8|exact congrArg not c1|exact congrArg not c2|exact congrArg not c3|exact congrArg not c4|exact congrArg not c5|exact congrArg not c6|exact congrArg not c7|exact g2)
      conv => lhs; whnf
      exact fB c5
     ·have c8 : (if true = true then !(a2.alone == true) else (a2.alone == true)) = true := by rw [c3]; rfl
      rw [h.call]
      repeat (conv=>lhs;whnf;arg 2;tactic=>first|exact g1|exact hbig|exact e1|exact e2|exact e3|exact e4|exact c8|exact c1|exact c2|exact c3|exact c4|exact c5|exact c6|exact c7|exact gS|exact congrArg not hbig|exact congrArg not e1|exact congrArg not e2|exact congrArg not e3|exact congrArg not e4|exact congrArg not c8|exact congrArg not c1|exact congrArg not c2|exact congrArg not c3|exact congrArg not c4|exact congrArg not c5|exact congrArg not c6|exact congrArg not c7|exact g2)
      conv => lhs; whnf
      exact fB c5
  ·have e2 := ev_iWorldPlayL h es hl
   have e3 := ev_sWorldPlayL h es hl
   have e4 := ev_lgWorldZ h
   rw [h.call]
   repeat (conv=>lhs;whnf;arg 2;tactic=>first|exact g1|exact hbig|exact e1|exact e2|exact e3|exact e4|exact congrArg not hbig|exact congrArg not e1|exact congrArg not e2|exact congrArg not e3|exact congrArg not e4|exact g2)
   rfl
 ·rw [h.call]
  repeat (conv=>lhs;whnf;arg 2;tactic=>first|exact g1|exact hbig|exact congrArg not hbig|exact g2)
  rfl
theorem ev_FnWorldBoth (cs : List Int) (hc : BytesOk cs) : W f_laws_FnWorldBoth [.sl .sh (cs.map byD)] [] = some (.bool true, []) := by
 obtain ⟨es, hes, hl, e1⟩ := ev_DrawWorldPlay h cs hc
 cases hbig : decide (((cs.map byD).length : Int) > 1048576)
 ·rcases hl with hl | hl
  ·have hg := GoodW.new.play es
   have e2 := ev_iWorldPlay h es hes hl
   have e3 := ev_sWorldPlay h es hes hl
   have e4 := ev_lgWorld h _ hg.g.wl
   generalize hw : playM worldNew es = w at e2 e3 e4 hg
   have hlead := hg.g.lead
   have hr := hg.i.r
   have hl1 := hg.g.o1.l
   have hl2 := hg.g.o2.l
   obtain ⟨a1, a2, term, lead, both, nets, done⟩ := w
   simp only at hlead hl1 hl2
   rcases hlead with rfl | rfl
   ·have hr : RightP a1 a2 term both done := hr
    cases both
    ·have c3 : a1.alone = true := hr.na
     rw [h.call]
     repeat (conv=>lhs;whnf;arg 2;tactic=>first|exact g1|exact hbig|exact e1|exact e2|exact e3|exact e4|exact c3|exact gS|exact congrArg not hbig|exact congrArg not e1|exact congrArg not e2|exact congrArg not e3|exact congrArg not e4|exact congrArg not c3|exact g2)
     conv => lhs; whnf
     exact fB c3
    ·have ht := hr.b rfl
     have c1 : (a2.term == term) = true := by simp [ht]
     have c2 : a2.leads = false := (hr.p ht).1
     have eb := ev_lgBegins h a2.ops a1.ops (by omega)
     rw [pre_begins, (pre_iff _ _).2 (hr.p ht).2] at eb
     rw [h.call]
     repeat (conv=>lhs;whnf;arg 2;tactic=>first|exact g1|exact hbig|exact e1|exact e2|exact e3|exact e4|exact c1|exact c2|exact eb|exact gS|exact congrArg not hbig|exact congrArg not e1|exact congrArg not e2|exact congrArg not e3|exact congrArg not e4|exact congrArg not c1|exact congrArg not c2|exact congrArg not eb|exact g2)
     rfl
   ·have hr : RightP a2 a1 term both done := hr
    cases both
    ·have c3 : a2.alone = true := hr.na
     rw [h.call]
     repeat (conv=>lhs;whnf;arg 2;tactic=>first|exact g1|exact hbig|exact e1|exact e2|exact e3|exact e4|exact c3|exact gS|exact congrArg not hbig|exact congrArg not e1|exact congrArg not e2|exact congrArg not e3|exact congrArg not e4|exact congrArg not c3|exact g2)
     conv => lhs; whnf
     exact fB c3
    ·have ht := hr.b rfl
     have c1 : (a1.term == term) = true := by simp [ht]
     have c2 : a1.leads = false := (hr.p ht).1
     have eb := ev_lgBegins h a1.ops a2.ops (by omega)
     rw [pre_begins, (pre_iff _ _).2 (hr.p ht).2] at eb
     rw [h.call]
     repeat (conv=>lhs;whnf;arg 2;tactic=>first|exact g1|exact hbig|exact e1|exact e2|exact e3|exact e4|exact c1|exact c2|exact eb|exact gS|exact congrArg not hbig|exact congrArg not e1|exact congrArg not e2|exact congrArg not e3|exact congrArg not e4|exact congrArg not c1|exact congrArg not c2|exact congrArg not eb|exact g2)
     rfl
  ·have e2 := ev_iWorldPlayL h es hl
   have e3 := ev_sWorldPlayL h es hl
   have e4 := ev_lgWorldZ h
   rw [h.call]
   repeat (conv=>lhs;whnf;arg 2;tactic=>first|exact g1|exact hbig|exact e1|exact e2|exact e3|exact e4|exact congrArg not hbig|exact congrArg not e1|exact congrArg not e2|exact congrArg not e3|exact congrArg not e4|exact g2)
   rfl
 ·rw [h.call]
  repeat (conv=>lhs;whnf;arg 2;tactic=>first|exact g1|exact hbig|exact congrArg not hbig|exact g2)
  rfl
end
end Go.Gn

