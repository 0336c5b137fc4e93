/- Part 35 of a proof: an evaluator of the program, proved sound, and what it answers. -/
import Derived.Test.YtkgpnfeabojhcaaGreatA11
import Derived.Test.YtkgpnfeabojhcaaGreatA21
import Derived.Test.YtkgpnfeabojhcaaGreatA29
import Derived.Test.YtkgpnfeabojhcaaGreatA30
import Derived.Test.YtkgpnfeabojhcaaGreatA32
set_option linter.all false
namespace Go.Gn
open Go
set_option maxRecDepth 100000
set_option maxHeartbeats 16000000
theorem mod_le (a b : Nat) (hb : b < 4611686018427387904) : ∃ k, k ≤ b ∧ binAV .rem (.int .i64 (a : Nat)) (.int .i64 (IntKind.i64.wrap ((b : Nat) + 1 : Int))) = some (.int .i64 (k : Nat)) := by
 refine ⟨a % (b + 1), by have := Nat.mod_lt a (show 0 < b + 1 by omega); omega, ?_⟩
 rw [wrap_succ hb]
 have hz : ¬ ((b + 1 : Nat) : Int) = 0 := by omega
 simp only [binAV, binI, hz, if_false, if_true, reduceCtorEq]
 rfl
section
variable {W : CallF} {L : LoopF} {E : EqF} {T : Prop → Bool} (h : IsK G W L E T)
include h
theorem ev_FnWorldTold (cs : List Int) (hc : BytesOk cs) (ds : List Int) (hd : BytesOk ds) : W f_laws_FnWorldTold [.sl .sh (cs.map byD), .sl .sh (ds.map byD)] [] = some (.bool true, []) := by
 obtain ⟨es, hes, hl, e1⟩ := ev_DrawWorldPlay h cs hc
 cases hbig : decide (((cs.map byD).length : Int) > 1048576)
 ·cases hbig2 : decide (((ds.map byD).length : Int) > 1048576)
  ·rcases hl with hl | hl
   ·have hg := GoodW.new.play es
    have e2 := ev_iWorldPlay h es hes hl
    have e3 := ev_sWorldPlay h es hes hl
    have e4 := ev_lgWorld h _ hg.g.wl
    generalize hw : playM worldNew es = w at e2 e3 e4 hg
    have hel : ((es.map evD).length : Nat) = es.length := List.length_map ..
    obtain ⟨k, hk, hmod⟩ := mod_le (ds.map byD).length (es.map evD).length (by omega)
    have hv : view (es.map evD) 0 (k - 0) = (es.take k).map evD := view_take evD es k
    have e6 := ev_iWorldPlay h (es.take k) (fun e he => hes e (List.mem_of_mem_take he)) (by rw [List.length_take]; omega)
    have hgx := GoodW.new.play (es.take k)
    have hL := later_take es k
    rw [hw] at hL
    have eb := ev_lgBegins h (playM worldNew (es.take k)).done w.done (by have := hgx.g.done.l; omega)
    rw [pre_begins, (pre_iff _ _).2 hL.d] at eb
    have eS := ev_lgSafe h _ hgx.g.lead (by have := hgx.g.done.l; omega)
    rw [ok_safe hgx.ok] at eS
    generalize playM worldNew (es.take k) = x at e6 eb eS
    rw [← hv] at e6
    rw [h.call]
    repeat (conv=>lhs;whnf;arg 2;tactic=>first|exact g1|exact hbig|exact hbig2|exact e1|exact e2|exact e3|exact e4|exact hmod|exact e6|exact eb|exact eS|exact gS|exact congrArg not hbig|exact congrArg not hbig2|exact congrArg not eS|exact g2)
    rfl
   ·have e2 := ev_iWorldPlayL h es hl
    have e3 := ev_sWorldPlayL h es hl
    have e4 := ev_lgWorldZ h
    rw [h.call]
    repeat (conv=>lhs;whnf;arg 2;tactic=>first|exact g1|exact hbig|exact hbig2|exact e1|exact e2|exact e3|exact e4|exact congrArg not hbig|exact congrArg not hbig2|exact g2)
    rfl
  ·rw [h.call]
   repeat (conv=>lhs;whnf;arg 2;tactic=>first|exact g1|exact hbig|exact hbig2|exact congrArg not hbig|exact congrArg not hbig2|exact g2)
   rfl
 ·rw [h.call]
  repeat (conv=>lhs;whnf;arg 2;tactic=>first|exact g1|exact hbig|exact congrArg not hbig|exact g2)
  rfl
end
end Go.Gn

namespace Go.Gn
open Go
set_option maxRecDepth 100000
set_option maxHeartbeats 16000000
section
variable {W : CallF} {L : LoopF} {E : EqF} {T : Prop → Bool} (h : IsK G W L E T)
include h
theorem nets_loop (w : WorldM) (hg : GoodW w) : ∀ (m i : Nat), i + m = w.nets.length → L (norm 0 cf5.live) (exitN 0 cf5.out (evCW W L G cf5 0 c5l0)) ⟨[(4, .ptr 0 0), (8, .int .i64 (i : Nat))], iS w⟩ =
  some (.ext 0, ⟨[(2, .top), (4, .ptr 0 0)], iS w⟩)
 | 0, i, hm => by
  have hlen : ((w.nets.map msgD).length : Nat) = w.nets.length := List.length_map ..
  rw [h.loop]
  repeat (conv=>lhs;whnf;arg 2;tactic=>first|exact g1|exact gS|exact g2)
  rfl
 | m + 1, i, hm => by
  have hlen : ((w.nets.map msgD).length : Nat) = w.nets.length := List.length_map ..
  have hnl := hg.g.nl
  obtain ⟨x, hx⟩ := get_some (xs := w.nets) (i := i) (by omega)
  have hmo := hg.i.ms x (List.mem_of_getElem? hx)
  have hle := hmo.2.le
  obtain ⟨hto, hkd, _⟩ := msg_kind hmo.1
  have ih := nets_loop w hg m (i + 1) (by omega)
  rw [← ih, h.loop]
  repeat (conv=>lhs;whnf;arg 2;tactic=>first|exact g1|exact map_get hx|exact gS|exact g2)
  conv => lhs; whnf
  rw [wrap_succ (by omega)]
  rfl
theorem ev_FnWorldNets (cs : List Int) (hc : BytesOk cs) : W f_laws_FnWorldNets [.sl .sh (cs.map byD)] [] = some (.bool true, []) := by
 obtain ⟨es, hes, hl, e1⟩ := ev_DrawWorldPlay h cs hc
 cases hbig : decide (((cs.map byD).length : Int) > 1048576)
 ·rcases hl with hl | hl
  ·have hg := GoodW.new.play es
   have e2 := ev_iWorldPlay h es hes hl
   have e3 := ev_sWorldPlay h es hes hl
   have e4 := ev_lgWorld h _ hg.g.wl
   generalize hw : playM worldNew es = w at e2 e3 e4 hg
   have hlen : ((w.nets.map msgD).length : Nat) = w.nets.length := List.length_map ..
   have hnl := hg.g.nl
   have eL := nets_loop h w hg w.nets.length 0 (by omega)
   rw [nc0] at eL
   rw [h.call]
   repeat (conv=>lhs;whnf;arg 2;tactic=>first|exact g1|exact hbig|exact e1|exact e2|exact e3|exact e4|exact eL|exact gS|exact congrArg not hbig|exact g2)
   conv => lhs; whnf
   exact fB dT
  ·have e2 := ev_iWorldPlayL h es hl
   have e3 := ev_sWorldPlayL h es hl
   have e4 := ev_lgWorldZ h
   rw [h.call]
   repeat (conv=>lhs;whnf;arg 2;tactic=>first|exact g1|exact hbig|exact e1|exact e2|exact e3|exact e4|exact congrArg not hbig|exact g2)
   rfl
 ·rw [h.call]
  repeat (conv=>lhs;whnf;arg 2;tactic=>first|exact g1|exact hbig|exact congrArg not hbig|exact g2)
  rfl
def nB (n : NodeM) : Obj := .box [.bool n.up, .int .i64 n.term, .bool n.leads, .bool n.alone, .sl .sh (n.ops.map opD)]
theorem letters_loop (w : WorldM) (hg : GoodW w) (n o : NodeM) (hn : n = w.nd w.lead) (ho : o = w.nd (3 - w.lead)) : ∀ (m i : Nat), i + m = w.nets.length → L (norm 0 cf8.live) (exitN 0 cf8.out (evCW W L G cf8 0 c8l0)) ⟨[(4, .ptr 0 0), (8, .ptr 4 0), (9, .ptr 5 0), (10, .int .i64 (i : Nat))], iS w ++ [nB n, nB o]⟩ =
  some (.ext 0, ⟨[(2, .top)], []⟩)
 | 0, i, hm => by
  have hlen : ((w.nets.map msgD).length : Nat) = w.nets.length := List.length_map ..
  rw [h.loop]
  repeat (conv=>lhs;whnf;arg 2;tactic=>first|exact g1|exact gS|exact g2)
  rfl
 | m + 1, i, hm => by
  have hlen : ((w.nets.map msgD).length : Nat) = w.nets.length := List.length_map ..
  have hnl := hg.g.nl
  obtain ⟨x, hx⟩ := get_some (xs := w.nets) (i := i) (by omega)
  have hmo := hg.i.ms x (List.mem_of_getElem? hx)
  have hxg := hg.g.nets x (List.mem_of_getElem? hx)
  have hT := hmo.2
  rw [← hn, ← ho] at hT
  obtain ⟨hto, hkd, _⟩ := msg_kind hmo.1
  have ih := letters_loop w hg n o hn ho m (i + 1) (by omega)
  have hln : ((n.ops.map opD).length : Nat) = n.ops.length := List.length_map ..
  have hlo : ((o.ops.map opD).length : Nat) = o.ops.length := List.length_map ..
  have hxl := hxg.ops.l
  have y1 : ∀ {a b : Int}, a = b → (a == b) = true := fun hab => by simp [hab]
  have n1 : ∀ {a b : Int}, ¬ a = b → (a == b) = false := fun hab => by simp [hab]
  rw [← ih]
  by_cases ht : x.term = w.term
  ·have ht' : (x.term != w.term) = false := by simp [ht]
   rcases hkd with hk | hk | hk | hk
   ·obtain ⟨_, c1, c2⟩ := hT.copy ht hk
    have h1 := hxg.copy hk
    obtain ⟨y, hy⟩ := get_some (xs := n.ops) (i := (x.n - 1).toNat) (by omega)
    have hyo : opEq y x.op = true := by
     unfold hasOp at c2
     rw [hy] at c2
     exact c2
    have eq := E_op h y x.op
    rw [hyo] at eq
    obtain ⟨k, hk'⟩ : ∃ k : Nat, x.n - 1 = k := ⟨(x.n - 1).toNat, by omega⟩
    rw [hk', Int.toNat_natCast] at hy
    have hws : IntKind.i64.wrap (x.n - 1) = (k : Nat) := by rw [wrap_id (by omega) (by have := hxg.n; omega)]; exact hk'
    rw [h.loop]
    repeat (conv=>lhs;whnf;arg 2;tactic=>first|exact g1|exact map_get hx|exact ht'|exact y1 hk|exact hws|exact map_get hy|exact eq|exact n1 (show ¬ x.kind = 2 by omega)|exact n1 (show ¬ x.kind = 3 by omega)|exact n1 (show ¬ x.kind = 4 by omega)|exact gS|exact congrArg not ht'|exact congrArg not hws|exact congrArg not eq|exact g2)
    conv => lhs; whnf
    rw [wrap_succ (by omega)]
    rfl
   ·obtain ⟨_, _, c1⟩ := hT.has ht (.inl hk)
    rw [h.loop]
    repeat (conv=>lhs;whnf;arg 2;tactic=>first|exact g1|exact map_get hx|exact ht'|exact n1 (show ¬ x.kind = 1 by omega)|exact n1 (show ¬ x.kind = 3 by omega)|exact y1 hk|exact gS|exact congrArg not ht'|exact g2)
    conv => lhs; whnf
    rw [wrap_succ (by omega)]
    rfl
   ·obtain ⟨_, c1⟩ := hT.join ht (by omega) (by omega)
    have eb := ev_lgBegins h x.ops n.ops (by omega)
    rw [pre_begins, (pre_iff _ _).2 c1] at eb
    rw [h.loop]
    repeat (conv=>lhs;whnf;arg 2;tactic=>first|exact g1|exact map_get hx|exact ht'|exact n1 (show ¬ x.kind = 1 by omega)|exact y1 hk|exact eb|exact n1 (show ¬ x.kind = 2 by omega)|exact n1 (show ¬ x.kind = 4 by omega)|exact gS|exact congrArg not ht'|exact g2)
    conv => lhs; whnf
    rw [wrap_succ (by omega)]
    rfl
   ·obtain ⟨_, _, c1⟩ := hT.has ht (.inr hk)
    rw [h.loop]
    repeat (conv=>lhs;whnf;arg 2;tactic=>first|exact g1|exact map_get hx|exact ht'|exact n1 (show ¬ x.kind = 1 by omega)|exact n1 (show ¬ x.kind = 3 by omega)|exact n1 (show ¬ x.kind = 2 by omega)|exact y1 hk|exact gS|exact congrArg not ht'|exact g2)
    conv => lhs; whnf
    rw [wrap_succ (by omega)]
    rfl
  ·have ht' : (x.term != w.term) = true := by simp [ht]
   rw [h.loop]
   repeat (conv=>lhs;whnf;arg 2;tactic=>first|exact g1|exact map_get hx|exact ht'|exact gS|exact congrArg not ht'|exact g2)
   conv => lhs; whnf
   rw [wrap_succ (by omega)]
   rfl
theorem ev_FnWorldLetters (cs : List Int) (hc : BytesOk cs) : W f_laws_FnWorldLetters [.sl .sh (cs.map byD)] [] = some (.bool true, []) := by
 obtain ⟨es, hes, hl, e1⟩ := ev_DrawWorldPlay h cs hc
 cases hbig : decide (((cs.map byD).length : Int) > 1048576)
 ·rcases hl with hl | hl
  ·have hg := GoodW.new.play es
   have e2 := ev_iWorldPlay h es hes hl
   have e3 := ev_sWorldPlay h es hes hl
   have e4 := ev_lgWorld h _ hg.g.wl
   generalize hw : playM worldNew es = w at e2 e3 e4 hg
   have hlen : ((w.nets.map msgD).length : Nat) = w.nets.length := List.length_map ..
   have hlead := hg.g.lead
   have eL := letters_loop h w hg _ _ rfl rfl w.nets.length 0 (by omega)
   rw [nc0] at eL
   obtain ⟨a1, a2, term, lead, both, nets, done⟩ := w
   simp only at hlead
   rcases hlead with rfl | rfl
   ·rw [show WorldM.nd ⟨a1, a2, term, 1, both, nets, done⟩ 1 = a1 from rfl, show WorldM.nd ⟨a1, a2, term, 1, both, nets, done⟩ (3 - 1) = a2 from rfl] at eL
    rw [h.call]
    repeat (conv=>lhs;whnf;arg 2;tactic=>first|exact g1|exact hbig|exact e1|exact e2|exact e3|exact e4|exact eL|exact gS|exact congrArg not hbig|exact g2)
    rfl
   ·rw [show WorldM.nd ⟨a1, a2, term, 2, both, nets, done⟩ 2 = a2 from rfl, show WorldM.nd ⟨a1, a2, term, 2, both, nets, done⟩ (3 - 2) = a1 from rfl] at eL
    rw [h.call]
    repeat (conv=>lhs;whnf;arg 2;tactic=>first|exact g1|exact hbig|exact e1|exact e2|exact e3|exact e4|exact eL|exact gS|exact congrArg not hbig|exact g2)
    rfl
  ·have e2 := ev_iWorldPlayL h es hl
   have e3 := ev_sWorldPlayL h es hl
   have e4 := ev_lgWorldZ h
   rw [h.call]
   repeat (conv=>lhs;whnf;arg 2;tactic=>first|exact g1|exact hbig|exact e1|exact e2|exact e3|exact e4|exact congrArg not hbig|exact g2)
   rfl
 ·rw [h.call]
  repeat (conv=>lhs;whnf;arg 2;tactic=>first|exact g1|exact hbig|exact congrArg not hbig|exact g2)
  rfl
def deafL (es : List EvM) : List EvM := es.filter fun e => e.kind != 2
theorem deaf_loop (es : List EvM) (hl : es.length ≤ 60) : ∀ (m i : Nat), i + m = es.length → L (norm 0 cf4.live) (exitN 0 cf4.out (evCW W L G cf4 0 c4l0)) ⟨[(3, .hw 0), (8, .hw 1), (9, .int .i64 (i : Nat))], [evR7 es, evR (deafL (es.take i))]⟩ =
  some (.ext 0, ⟨[(2, .top), (8, .hw 0)], [evR (deafL es)]⟩)
 | 0, i, hm => by
  have hlen : ((es.map evD).length : Nat) = es.length := List.length_map ..
  rw [List.take_of_length_le (show es.length ≤ i by omega), h.loop]
  repeat (conv=>lhs;whnf;arg 2;tactic=>first|exact g1|exact gS|exact g2)
  rfl
 | m + 1, i, hm => by
  have hlen : ((es.map evD).length : Nat) = es.length := List.length_map ..
  obtain ⟨x, hx⟩ := get_some (xs := es) (i := i) (by omega)
  have ih := deaf_loop es hl m (i + 1) (by omega)
  have hdl : (deafL (es.take i)).length ≤ 60 := by
   have h1 := List.length_filter_le (fun e : EvM => e.kind != 2) (es.take i)
   have h2 : (es.take i).length ≤ 60 := by rw [List.length_take]; omega
   unfold deafL
   omega
  have hld : (((deafL (es.take i)).map evD).length : Nat) = (deafL (es.take i)).length := List.length_map ..
  have hcap : ∀ y : List (List D), y.length = 1 → decide ((((deafL (es.take i)).map evD).length + y.length) * 80 ≤ 140737488355328) = true := fun y hy => decide_eq_true (by rw [hy, hld]; omega)
  rw [← ih, take_snoc hx]
  have hf : deafL (es.take i ++ [x]) = if x.kind != 2 then deafL (es.take i) ++ [x] else deafL (es.take i) := by
   unfold deafL
   rw [List.filter_append]
   cases hk : (x.kind != 2)
   ·simp [hk]
   ·simp [hk]
  rw [hf]
  cases hk : (x.kind != 2)
  ·rw [if_neg (by simp), h.loop]
   repeat (conv=>lhs;whnf;arg 2;tactic=>first|exact g1|exact map_get hx|exact hk|exact gS|exact congrArg not hk|exact g2)
   conv => lhs; whnf
   rw [wrap_succ (by omega)]
   rfl
  ·rw [if_pos rfl, h.loop]
   have hap : (deafL (es.take i)).map evD ++ chunks 7 1 [D.int .i64 x.kind, .int .i64 x.a, .int .i64 x.op.kind, .str x.op.name, .str x.op.to, .int .i64 x.op.n, .str x.op.text] = (deafL (es.take i) ++ [x]).map evD := by
    rw [List.map_append]; rfl
   repeat (conv=>lhs;whnf;arg 2;tactic=>first|exact g1|exact map_get hx|exact hk|exact hcap _ rfl|exact gS|exact congrArg not hk|exact g2)
   conv => lhs; whnf
   rw [wrap_succ (by omega), hap]
   rfl
theorem ev_FnWorldDeaf (cs : List Int) (hc : BytesOk cs) : W f_laws_FnWorldDeaf [.sl .sh (cs.map byD)] [] = some (.bool true, []) := by
 obtain ⟨es, hes, hl, e1⟩ := ev_DrawWorldPlay h cs hc
 cases hbig : decide (((cs.map byD).length : Int) > 1048576)
 ·rcases hl with hl | hl
  ·have hg := GoodW.new.play es
   have e2 := ev_iWorldPlay h es hes hl
   have e3 := ev_sWorldPlay h es hes hl
   have e4 := ev_lgWorld h _ hg.g.wl
   generalize hw : playM worldNew es = w at e2 e3 e4 hg
   have hlen : ((es.map evD).length : Nat) = es.length := List.length_map ..
   have eL := deaf_loop h es hl es.length 0 (by omega)
   rw [nc0, List.take_zero] at eL
   have hdl : (deafL es).length ≤ 60 := by
    have h1 := List.length_filter_le (fun e : EvM => e.kind != 2) es
    unfold deafL
    omega
   have e6 := ev_iWorldPlay h (deafL es) (fun e he => hes e (List.mem_filter.1 he).1) hdl
   have hgx := GoodW.new.play (deafL es)
   have hd := deaf_play (deafL es) deaf_new (fun e he => by have := (List.mem_filter.1 he).2; simpa using this)
   have ha := alone_done hgx.i hd.b
   rw [hd.l] at ha
   have hal := hgx.g.o1.l
   generalize playM worldNew (deafL es) = x at e6 hgx hd ha hal
   have q1 := ev_lgOps h x.n1.ops x.n1.ops (by omega)
   rw [opsEq_refl] at q1
   have d1 := hd.l
   have d2 := hd.t
   have d3 := hd.o
   obtain ⟨b1, b2, t3, l3, both3, nets3, done3⟩ := x
   simp only at d1 d2 d3
   have hb : done3 = b1.ops := ha
   clear ha hd
   subst d1 d2 hb
   have d4 : (((b2.ops.map opD).length : Int) == 0) = true := by rw [d3]; rfl
   rw [h.call]
   repeat (conv=>lhs;whnf;arg 2;tactic=>first|exact g1|exact hbig|exact e1|exact e2|exact e3|exact e4|exact eL|exact e6|exact d4|exact q1|exact gS|exact congrArg not hbig|exact g2)
   rfl
  ·have e2 := ev_iWorldPlayL h es hl
   have e3 := ev_sWorldPlayL h es hl
   have e4 := ev_lgWorldZ h
   rw [h.call]
   repeat (conv=>lhs;whnf;arg 2;tactic=>first|exact g1|exact hbig|exact e1|exact e2|exact e3|exact e4|exact congrArg not hbig|exact g2)
   rfl
 ·rw [h.call]
  repeat (conv=>lhs;whnf;arg 2;tactic=>first|exact g1|exact hbig|exact congrArg not hbig|exact g2)
  rfl
end
end Go.Gn

