/- Part 21 of a proof: an evaluator of the program, proved sound, and what it answers. -/
import Derived.Test.YtkgpnfeabojhcaaGreatA10
import Derived.Test.YtkgpnfeabojhcaaGreatA18
import Derived.Test.YtkgpnfeabojhcaaGreatA19
set_option linter.all false
namespace Go.Gn
open Go
set_option maxRecDepth 100000
set_option maxHeartbeats 16000000
def worldZA : AV := .agg [.sl .br [], .int .i64 0, .int .i64 0, .bool false, .sl .br [], .sl .br []]
def wBox (w : WorldM) : Obj := .box [.sl .br [nodeD w.n1, nodeD w.n2], .int .i64 w.term, .int .i64 w.lead, .bool w.both, .sl .br (w.nets.map msgD), .sl .br (w.done.map opD)]
theorem gL1 {α : Sort _} {a b : α} (q : a = b := by (rw [h.loop]; (repeat (conv=>lhs;whnf;arg 2;tactic=>first|exact g1|exact g2)); try rfl)) : a = b := q
theorem gC {p : Prop} [Decidable p] (q : p := by (simp only [chunks, List.length_map, List.length_take, List.length_cons, List.length_nil, List.length_append]; omega)) : decide p = true := decide_eq_true q
section
variable {W : CallF} {L : LoopF} {E : EqF} {T : Prop → Bool} (h : IsK G W L E T)
include h
theorem lgW_nets (w : WorldM) (hl : w.nets.length < 2000000) (hm : ∀ m ∈ w.nets, m.ops.length < 2000000) : ∀ (m i : Nat), i + m = w.nets.length → L (norm 0 cf36.live) (exitN 0 cf36.out (evCW W L G cf36 0 c36l0)) ⟨[(2, .ptr 0 0), (3, .ptr 1 0), (5, .top), (6, .int .i64 (i : Nat))], [wBox w, wBox w]⟩ =
  some (.ext 2, ⟨[(2, .ptr 0 0), (3, .ptr 1 0), (4, .top)], [wBox w, wBox w]⟩)
 | 0, i, hk => by
  have hlen : ((w.nets.map msgD).length : Nat) = w.nets.length := List.length_map ..
  rw [h.loop]
  repeat (conv=>lhs;whnf;arg 2;tactic=>first|exact g1|exact gS|exact g2)
  rfl
 | m + 1, i, hk => by
  obtain ⟨x, hx⟩ := get_some (xs := w.nets) (i := i) (by omega)
  have e := ev_lgMsg h x x (hm x (List.mem_of_getElem? hx))
  rw [msgEq_refl] at e
  rw [h.loop]
  repeat (conv=>lhs;whnf;arg 2;tactic=>first|exact g1|exact map_get hx|exact e|exact gS|exact g2)
  conv => lhs; whnf
  rw [wrap_succ (by omega)]
  exact lgW_nets w hl hm m (i + 1) (by omega)
theorem lgW_nodes (w : WorldM) (h1 : w.n1.ops.length < 2000000) (h2 : w.n2.ops.length < 2000000) : L (norm 0 cf36.live) (exitN 0 cf36.out (evCW W L G cf36 0 c36l1)) ⟨[(2, .ptr 0 0), (3, .ptr 1 0), (5, .int .i64 0), (6, .un)], [wBox w, wBox w]⟩ =
  some (.ext 0, ⟨[(2, .ptr 0 0), (3, .ptr 1 0), (4, .top)], [wBox w, wBox w]⟩) := by
 have e1 := ev_lgNode h w.n1 w.n1 h1
 have e2 := ev_lgNode h w.n2 w.n2 h2
 rw [nodeEq_refl] at e1 e2
 rw [h.loop]
 repeat (conv=>lhs;whnf;arg 2;tactic=>first|exact g1|exact e1|exact gS|exact g2)
 conv => lhs; whnf
 rw [h.loop]
 repeat (conv=>lhs;whnf;arg 2;tactic=>first|exact g1|exact e2|exact gS|exact g2)
 conv => lhs; whnf
 rw [h.loop]
 repeat (conv=>lhs;whnf;arg 2;tactic=>first|exact g1|exact gS|exact g2)
 rfl
theorem ev_lgWorld' (w : WorldM) (h1 : w.n1.ops.length < 2000000) (h2 : w.n2.ops.length < 2000000) (h3 : w.nets.length < 2000000) (h4 : ∀ m ∈ w.nets, m.ops.length < 2000000) (h5 : w.done.length < 2000000) : W f_laws_lgWorld [worldA w, worldA w] [] = some (.bool true, []) := by
 have e1 := lgW_nodes h w h1 h2
 have e3 := lgW_nets h w h3 h4 w.nets.length 0 (by omega)
 rw [nc0] at e3
 have e4 := ev_lgOps h w.done w.done h5
 rw [opsEq_refl] at e4
 have t1 : (w.term != w.term) = false := bne_self_eq_false _
 have t2 : (w.lead != w.lead) = false := bne_self_eq_false _
 have t3 : (w.both != w.both) = false := bne_self_eq_false _
 have t4 : ((((w.nets.map msgD).length : Nat) : Int) != ((w.nets.map msgD).length : Nat)) = false := bne_self_eq_false _
 rw [h.call]
 repeat (conv=>lhs;whnf;arg 2;tactic=>first|exact g1|exact t1|exact t2|exact t3|exact t4|exact e1|exact e3|exact e4|exact gS|exact congrArg not t1|exact congrArg not t2|exact congrArg not t3|exact congrArg not t4|exact g2)
 rfl
theorem ev_lgWorldZ : W f_laws_lgWorld [worldZA, worldZA] [] = some (.bool true, []) := by
 have e4 := ev_lgOps h [] [] (by decide)
 rw [opsEq_refl] at e4
 unfold worldZA
 rw [h.call]
 repeat (conv=>lhs;whnf;arg 2;tactic=>first|exact g1|exact e4|exact gS|exact gL1|exact g2)
 rfl
end
end Go.Gn

namespace Go.Gn
open Go
set_option maxRecDepth 100000
set_option maxHeartbeats 8000000
def iB (w : WorldM) (a b : Nat) : Obj := .box [.hw 1, .int .i64 w.term, .int .i64 w.lead, .bool w.both, .hw a, .hw b]
def iN (w : WorldM) : Obj := .row 5 0 0 [nodeD w.n1, nodeD w.n2]
def iS (w : WorldM) : List Obj := [iB w 2 3, iN w, nR 0 w.nets, oR 5 w.done]
def worldI (w : WorldM) : AV := .agg [.hw 0, .int .i64 w.term, .int .i64 w.lead, .bool w.both, .hw 1, .hw 2]
def worldIO (w : WorldM) : List Obj := [iN w, nR 0 w.nets, oR 5 w.done]
inductive IR (w : WorldM) : Option (AV × List Obj) → Prop
 | s00 : IR w (some (.tup [], [iB w 2 3, iN w, nR 0 w.nets, oR 5 w.done]))
 | sD0 : IR w (some (.tup [], [iB w 4 3, iN w, .dead, oR 5 w.done, nR 0 w.nets]))
 | s0R (d : List OpM) : IR w (some (.tup [], [iB w 2 4, iN w, nR 0 w.nets, oR 5 d, oR 5 w.done]))
 | sDR (d : List OpM) : IR w (some (.tup [], [iB w 4 5, iN w, .dead, oR 5 d, nR 0 w.nets, oR 5 w.done]))
theorem gN {α : Sort _} {a b : α} (q : a = b := by (unfold ckCall; rw [h.call]; (repeat (conv=>lhs;whnf;arg 2;tactic=>first|exact g1|exact g2)); try rfl)) : a = b := q
section
variable {W : CallF} {L : LoopF} {E : EqF} {T : Prop → Bool} (h : IsK G W L E T)
include h
theorem ev_isend (w : WorldM) (m : MsgM) (hm : m.ops = []) (hl : w.nets.length ≤ 12) : W f_impl_World_send [.ptr 0 0, msgV m .nils] (iS w) =
  some (.tup [], if decide ((w.nets.length : Int) < 12) then [iB w 4 3, iN w, .dead, oR 5 w.done, nR 0 (w.nets ++ [m])] else iS w) := by
 have hlen : ((w.nets.map msgD).length : Nat) = w.nets.length := List.length_map ..
 have hlt : decide (((w.nets.map msgD).length : Int) < 12) = decide ((w.nets.length : Int) < 12) := by rw [hlen]
 rw [h.call]
 cases c : decide ((w.nets.length : Int) < 12)
 ·rw [c] at hlt
  repeat (conv=>lhs;whnf;arg 2;tactic=>first|exact g1|exact hlt|exact gS|exact congrArg not hlt|exact g2)
  rfl
 ·rw [c] at hlt
  have c' : (w.nets.length : Int) < 12 := of_decide_eq_true c
  obtain ⟨k, t, te, n, o, ops⟩ := m
  simp only at hm
  subst hm
  have hap : w.nets.map msgD ++ chunks 10 1 [D.int .i64 k, .int .i64 t, .int .i64 te, .int .i64 n, .int .i64 o.kind, .str o.name, .str o.to, .int .i64 o.n, .str o.text, .sl []] = (w.nets ++ [(⟨k, t, te, n, o, []⟩ : MsgM)]).map msgD := by
   rw [List.map_append]
   rfl
  have hcap : ∀ x : List (List D), x.length = 1 → decide (((w.nets.map msgD).length + x.length) * 120 ≤ 140737488355328) = true := fun x hx => decide_eq_true (by
   rw [hlen, hx]
   omega)
  repeat (conv=>lhs;whnf;arg 2;tactic=>first|exact g1|exact hlt|exact hcap _ rfl|exact gS|exact congrArg not hlt|exact g2)
  conv => lhs; whnf
  rw [hap]
  rfl
theorem ev_isendH (w : WorldM) (m : MsgM) (hl : w.nets.length ≤ 12) : W f_impl_World_send [.ptr 0 0, msgV m (.hw 4)] (iS w ++ [oR 5 m.ops]) =
  some (.tup [], if decide ((w.nets.length : Int) < 12) then [iB w 5 3, iN w, .dead, oR 5 w.done, .frz 5 (m.ops.map opD), nR 0 (w.nets ++ [m])] else iS w ++ [oR 5 m.ops]) := by
 have hlen : ((w.nets.map msgD).length : Nat) = w.nets.length := List.length_map ..
 have hlt : decide (((w.nets.map msgD).length : Int) < 12) = decide ((w.nets.length : Int) < 12) := by rw [hlen]
 rw [h.call]
 cases c : decide ((w.nets.length : Int) < 12)
 ·rw [c] at hlt
  repeat (conv=>lhs;whnf;arg 2;tactic=>first|exact g1|exact hlt|exact gS|exact congrArg not hlt|exact g2)
  rfl
 ·rw [c] at hlt
  have c' : (w.nets.length : Int) < 12 := of_decide_eq_true c
  obtain ⟨k, t, te, n, o, ops⟩ := m
  have hap : w.nets.map msgD ++ chunks 10 1 [D.int .i64 k, .int .i64 t, .int .i64 te, .int .i64 n, .int .i64 o.kind, .str o.name, .str o.to, .int .i64 o.n, .str o.text, .sl (ops.map opD)] = (w.nets ++ [(⟨k, t, te, n, o, ops⟩ : MsgM)]).map msgD := by
   rw [List.map_append]
   rfl
  have hcap : ∀ x : List (List D), x.length = 1 → decide (((w.nets.map msgD).length + x.length) * 120 ≤ 140737488355328) = true := fun x hx => decide_eq_true (by
   rw [hlen, hx]
   omega)
  repeat (conv=>lhs;whnf;arg 2;tactic=>first|exact g1|exact hlt|exact hcap _ rfl|exact gS|exact congrArg not hlt|exact g2)
  conv => lhs; whnf
  rw [hap]
  rfl
theorem ev_cloneView (os : List OpM) (k : Nat) (hk : os.length < 2000000) : W f_slices_Clone_Op [.sl .br ((os.take k).map opD)] [] = some (.hw 0, [.row 5 0 5 ((os.take k).map opD)]) := ev_cloneOp h (os.take k) (by rw [List.length_take]; omega)
theorem ev_iack (w : WorldM) (j : Nat) (n : NodeM) (hj : (j = 0 ∧ n = w.n1) ∨ (j = 1 ∧ n = w.n2)) (k : Nat) (hn : n.ops.length < 2000000) : W f_impl_World_acknowledge [.ptr 0 0, .rp 1 j 0, .int .i64 (k : Nat)] (iS w) =
  some (.tup [], if decide ((k : Int) > (w.done.length : Int)) && decide ((k : Int) ≤ (n.ops.length : Int)) then [iB w 2 4, iN w, nR 0 w.nets, oR 5 w.done, oR 5 (n.ops.take k)] else iS w) := by
 have hl1 : ((w.done.map opD).length : Nat) = w.done.length := List.length_map ..
 have hl2 : ((n.ops.map opD).length : Nat) = n.ops.length := List.length_map ..
 have hv : view (n.ops.map opD) 0 (k - 0) = (n.ops.take k).map opD := view_take opD n.ops k
 have ec := ev_cloneView h n.ops k hn
 rw [← hv] at ec
 have q1 : decide ((k : Int) > ((w.done.map opD).length : Int)) = decide ((k : Int) > (w.done.length : Int)) := by rw [hl1]
 have q2 : decide ((((n.ops.map opD).length : Nat) : Int) ≥ (k : Int)) = decide ((k : Int) ≤ (n.ops.length : Int)) := by rw [hl2]
 rcases hj with ⟨rfl, rfl⟩ | ⟨rfl, rfl⟩
 ·rw [h.call]
  cases c1 : decide ((k : Int) > (w.done.length : Int))
  ·rw [c1] at q1
   repeat (conv=>lhs;whnf;arg 2;tactic=>first|exact g1|exact q1|exact gS|exact g2)
   rfl
  ·rw [c1] at q1
   cases c2 : decide ((k : Int) ≤ (w.n1.ops.length : Int))
   ·rw [c2] at q2
    repeat (conv=>lhs;whnf;arg 2;tactic=>first|exact g1|exact q1|exact q2|exact gS|exact g2)
    rfl
   ·rw [c2] at q2
    have c2' : (k : Int) ≤ (w.n1.ops.length : Int) := of_decide_eq_true c2
    repeat (conv=>lhs;whnf;arg 2;tactic=>first|exact g1|exact q1|exact q2|exact ec|exact gS|exact g2)
    conv => lhs; whnf
    rw [hv]
    rfl
 ·rw [h.call]
  cases c1 : decide ((k : Int) > (w.done.length : Int))
  ·rw [c1] at q1
   repeat (conv=>lhs;whnf;arg 2;tactic=>first|exact g1|exact q1|exact gS|exact g2)
   rfl
  ·rw [c1] at q1
   cases c2 : decide ((k : Int) ≤ (w.n2.ops.length : Int))
   ·rw [c2] at q2
    repeat (conv=>lhs;whnf;arg 2;tactic=>first|exact g1|exact q1|exact q2|exact gS|exact g2)
    rfl
   ·rw [c2] at q2
    have c2' : (k : Int) ≤ (w.n2.ops.length : Int) := of_decide_eq_true c2
    repeat (conv=>lhs;whnf;arg 2;tactic=>first|exact g1|exact q1|exact q2|exact ec|exact gS|exact g2)
    conv => lhs; whnf
    rw [hv]
    rfl
theorem ev_iackB (w : WorldM) (n : NodeM) (k : Nat) (hn : n.ops.length < 2000000) : W f_impl_World_acknowledge [.ptr 0 0, .ptr 4 0, .int .i64 (k : Nat)] (iS w ++ [.box [.bool n.up, .int .i64 n.term, .bool n.leads, .bool n.alone, .hw 5], .frz 5 (n.ops.map opD)]) =
  some (.tup [], if decide ((k : Int) > (w.done.length : Int)) && decide ((k : Int) ≤ (n.ops.length : Int)) then [iB w 2 6, iN w, nR 0 w.nets, oR 5 w.done, .box [.bool n.up, .int .i64 n.term, .bool n.leads, .bool n.alone, .hw 5], .frz 5 (n.ops.map opD), oR 5 (n.ops.take k)]
   else iS w ++ [.box [.bool n.up, .int .i64 n.term, .bool n.leads, .bool n.alone, .hw 5], .frz 5 (n.ops.map opD)]) := by
 have hl1 : ((w.done.map opD).length : Nat) = w.done.length := List.length_map ..
 have hl2 : ((n.ops.map opD).length : Nat) = n.ops.length := List.length_map ..
 have hv : view (n.ops.map opD) 0 (k - 0) = (n.ops.take k).map opD := view_take opD n.ops k
 have ec := ev_cloneView h n.ops k hn
 rw [← hv] at ec
 have q1 : decide ((k : Int) > ((w.done.map opD).length : Int)) = decide ((k : Int) > (w.done.length : Int)) := by rw [hl1]
 have q2 : decide ((((n.ops.map opD).length : Nat) : Int) ≥ (k : Int)) = decide ((k : Int) ≤ (n.ops.length : Int)) := by rw [hl2]
 rw [h.call]
 cases c1 : decide ((k : Int) > (w.done.length : Int))
 ·rw [c1] at q1
  repeat (conv=>lhs;whnf;arg 2;tactic=>first|exact g1|exact q1|exact gS|exact g2)
  rfl
 ·rw [c1] at q1
  cases c2 : decide ((k : Int) ≤ (n.ops.length : Int))
  ·rw [c2] at q2
   repeat (conv=>lhs;whnf;arg 2;tactic=>first|exact g1|exact q1|exact q2|exact gS|exact g2)
   rfl
  ·rw [c2] at q2
   have c2' : (k : Int) ≤ (n.ops.length : Int) := of_decide_eq_true c2
   repeat (conv=>lhs;whnf;arg 2;tactic=>first|exact g1|exact q1|exact q2|exact ec|exact gS|exact g2)
   conv => lhs; whnf
   rw [hv]
   rfl
end
end Go.Gn

namespace Go.Gn
open Go
set_option maxRecDepth 100000
set_option maxHeartbeats 16000000
theorem iask_off {n : NodeM} {id : Int} {o : OpM} (hn : nodeOk n = true) (hi : inR id 1 2 = true) (hb : askOk n o = false) : nodeAsk n id o = (.tup [nodeW n 0, msgZ noMsg, .bool false], [opsRow n.ops]) := by
 unfold nodeAsk askR
 simp only [hn, hi, hb, Bool.and_self, if_true, Bool.false_eq_true, if_false]
theorem iask_on {n : NodeM} {id : Int} {o : OpM} (hn : nodeOk n = true) (hi : inR id 1 2 = true) (hb : askOk n o = true) : nodeAsk n id o = (.tup [nodeW n 0, msgZ (askMsg n id o), .bool true], [opsRow (n.ops ++ [o])]) := by
 unfold nodeAsk askR
 simp only [hn, hi, hb, Bool.and_self, if_true]
section
variable {W : CallF} {L : LoopF} {E : EqF} {T : Prop → Bool} (h : IsK G W L E T)
include h
theorem ev_itake (w : WorldM) (hw : WG w) (id : Int) (hid : id = 1 ∨ id = 2) : IR (leadM w id) (W f_impl_World_takeOver [.ptr 0 0, .int .i64 id] (iS w)) := by
 have ht := hw.t
 have hwt : IntKind.i64.wrap (w.term + 1) = w.term + 1 := wrap_id (by omega) (by omega)
 unfold leadM
 rw [← hwt]
 by_cases c : w.term ≥ 99
 ·have c' : decide (w.term ≥ 99) = true := decide_eq_true c
  rw [if_pos c, h.call]
  repeat (conv=>arg 2;whnf;arg 2;tactic=>first|exact g1|exact c'|exact gN|exact congrArg not c'|exact g2)
  conv => arg 2; whnf
  exact .s00 ..
 ·have c' : decide (w.term ≥ 99) = false := decide_eq_false c
  rw [if_neg c]
  rcases hid with rfl | rfl
  ·have ho := hw.o1.l
   have hk : (((w.n1.ops.map opD).length : Nat) : Int) = w.n1.ops.length := by rw [List.length_map]
   obtain ⟨w2, hw2⟩ : ∃ w2 : WorldM, w2 = { w.setN 1 ⟨w.n1.up, IntKind.i64.wrap (w.term + 1), true, true, w.n1.ops⟩ with term := IntKind.i64.wrap (w.term + 1), lead := 1, both := false } := ⟨_, rfl⟩
   have ea := ev_iack h w2 0 ⟨w.n1.up, IntKind.i64.wrap (w.term + 1), true, true, w.n1.ops⟩ (by rw [hw2]; first | exact .inl ⟨rfl, rfl⟩ | exact .inr ⟨rfl, rfl⟩) (w.n1.ops.map opD).length (by show w.n1.ops.length < _; omega)
   show IR (doneM { w.setN 1 ⟨w.n1.up, IntKind.i64.wrap (w.term + 1), true, true, w.n1.ops⟩ with term := IntKind.i64.wrap (w.term + 1), lead := 1, both := false } w.n1.ops (w.n1.ops.length : Nat)) _
   rw [← hk, ← hw2]
   unfold doneM
   cases c2 : decide ((((w.n1.ops.map opD).length : Nat) : Int) > (w2.done.length : Int)) && decide ((((w.n1.ops.map opD).length : Nat) : Int) ≤ (w.n1.ops.length : Int))
   ·simp only [c2, Bool.false_eq_true, if_false] at ea ⊢
    subst hw2
    rw [h.call]
    repeat (conv=>arg 2;whnf;arg 2;tactic=>first|exact g1|exact c'|exact ea|exact gS|exact gN|exact congrArg not c'|exact g2)
    conv => arg 2; whnf
    exact .s00 ..
   ·simp only [c2, if_true] at ea ⊢
    subst hw2
    rw [h.call]
    repeat (conv=>arg 2;whnf;arg 2;tactic=>first|exact g1|exact c'|exact ea|exact gS|exact gN|exact congrArg not c'|exact g2)
    conv => arg 2; whnf
    exact .s0R ..
  ·have ho := hw.o2.l
   have hk : (((w.n2.ops.map opD).length : Nat) : Int) = w.n2.ops.length := by rw [List.length_map]
   obtain ⟨w2, hw2⟩ : ∃ w2 : WorldM, w2 = { w.setN 2 ⟨w.n2.up, IntKind.i64.wrap (w.term + 1), true, true, w.n2.ops⟩ with term := IntKind.i64.wrap (w.term + 1), lead := 2, both := false } := ⟨_, rfl⟩
   have ea := ev_iack h w2 1 ⟨w.n2.up, IntKind.i64.wrap (w.term + 1), true, true, w.n2.ops⟩ (by rw [hw2]; first | exact .inl ⟨rfl, rfl⟩ | exact .inr ⟨rfl, rfl⟩) (w.n2.ops.map opD).length (by show w.n2.ops.length < _; omega)
   show IR (doneM { w.setN 2 ⟨w.n2.up, IntKind.i64.wrap (w.term + 1), true, true, w.n2.ops⟩ with term := IntKind.i64.wrap (w.term + 1), lead := 2, both := false } w.n2.ops (w.n2.ops.length : Nat)) _
   rw [← hk, ← hw2]
   unfold doneM
   cases c2 : decide ((((w.n2.ops.map opD).length : Nat) : Int) > (w2.done.length : Int)) && decide ((((w.n2.ops.map opD).length : Nat) : Int) ≤ (w.n2.ops.length : Int))
   ·simp only [c2, Bool.false_eq_true, if_false] at ea ⊢
    subst hw2
    rw [h.call]
    repeat (conv=>arg 2;whnf;arg 2;tactic=>first|exact g1|exact c'|exact ea|exact gS|exact gN|exact congrArg not c'|exact g2)
    conv => arg 2; whnf
    exact .s00 ..
   ·simp only [c2, if_true] at ea ⊢
    subst hw2
    rw [h.call]
    repeat (conv=>arg 2;whnf;arg 2;tactic=>first|exact g1|exact c'|exact ea|exact gS|exact gN|exact congrArg not c'|exact g2)
    conv => arg 2; whnf
    exact .s0R ..
theorem ev_iask (w : WorldM) (hw : WG w) (k1 : nodeOk w.n1 = true) (k2 : nodeOk w.n2 = true) (id : Int) (hid : id = 1 ∨ id = 2) (o : OpM) (ho : o.Sz) : IR (askM w id o) (W f_impl_World_ask [.ptr 0 0, .int .i64 id, .agg (opC o)] (iS w)) := by
 have hl := hw.nl
 rcases hid with rfl | rfl
 ·have ea := ev_NodeAsk h w.n1 hw.o1.sz 1 o ho
  have hno : nodeOk w.n1 = true := k1
  cases ha : askOk w.n1 o
  ·rw [show askM w 1 o = w from by unfold askM; rw [show w.nd 1 = w.n1 from rfl, ha]; rfl]
   rw [iask_off hno (by decide) ha] at ea
   rw [h.call]
   repeat (conv=>arg 2;whnf;arg 2;tactic=>first|exact g1|exact ea|exact gS|exact gN|exact g2)
   conv => arg 2; whnf
   exact .s00 ..
  ·rw [iask_on hno (by decide) ha] at ea
   have hop := (askOk_G ha).2
   have hld : (w.n1.ops ++ [o]).length < 2000000 := by have := hop.l; omega
   cases al : w.n1.alone
   ·rw [show askM w 1 o = sendM (w.setN 1 (nodeAdd w.n1 o)) (askMsg w.n1 1 o) from by unfold askM; rw [show w.nd 1 = w.n1 from rfl, ha, al]; rfl]
    have es := ev_isend h (w.setN 1 (nodeAdd w.n1 o)) (askMsg w.n1 1 o) rfl hl
    unfold sendM
    cases hc : decide (((w.setN 1 (nodeAdd w.n1 o)).nets.length : Int) < 12)
    ·simp only [hc, Bool.false_eq_true, if_false] at es ⊢
     rw [h.call]
     repeat (conv=>arg 2;whnf;arg 2;tactic=>first|exact g1|exact ea|exact gS|exact al|exact es|exact gN|exact congrArg not al|exact g2)
     conv => arg 2; whnf
     exact .s00 ..
    ·simp only [hc, if_true] at es ⊢
     rw [h.call]
     repeat (conv=>arg 2;whnf;arg 2;tactic=>first|exact g1|exact ea|exact gS|exact al|exact es|exact gN|exact congrArg not al|exact g2)
     conv => arg 2; whnf
     exact .sD0 ..
   ·have hk : (((w.n1.ops ++ [o]).length : Nat) : Int) = (((w.n1.ops ++ [o]).map opD).length : Nat) := by rw [List.length_map]
    rw [show askM w 1 o = sendM (doneM (w.setN 1 (nodeAdd w.n1 o)) (w.n1.ops ++ [o]) (((w.n1.ops ++ [o]).map opD).length : Nat)) (askMsg w.n1 1 o) from by unfold askM; rw [show w.nd 1 = w.n1 from rfl, ha, al, hk]; rfl]
    have ed := ev_iackB h (w.setN 1 (nodeAdd w.n1 o)) (nodeAdd w.n1 o) ((w.n1.ops ++ [o]).map opD).length hld
    unfold doneM
    cases hd : decide ((((w.n1.ops ++ [o]).map opD).length : Int) > ((w.setN 1 (nodeAdd w.n1 o)).done.length : Int)) && decide ((((w.n1.ops ++ [o]).map opD).length : Int) ≤ ((w.n1.ops ++ [o]).length : Int))
    ·rw [show (nodeAdd w.n1 o).ops = w.n1.ops ++ [o] from rfl, hd] at ed
     have es := ev_isend h (w.setN 1 (nodeAdd w.n1 o)) (askMsg w.n1 1 o) rfl hl
     unfold sendM
     simp only [Bool.false_eq_true, if_false]
     cases hc : decide (((w.setN 1 (nodeAdd w.n1 o)).nets.length : Int) < 12)
     ·simp only [hc, Bool.false_eq_true, if_false] at es ⊢
      rw [h.call]
      repeat (conv=>arg 2;whnf;arg 2;tactic=>first|exact g1|exact ea|exact gS|exact al|exact ed|exact es|exact gN|exact congrArg not al|exact g2)
      conv => arg 2; whnf
      exact .s00 ..
     ·simp only [hc, if_true] at es ⊢
      rw [h.call]
      repeat (conv=>arg 2;whnf;arg 2;tactic=>first|exact g1|exact ea|exact gS|exact al|exact ed|exact es|exact gN|exact congrArg not al|exact g2)
      conv => arg 2; whnf
      exact .sD0 ..
    ·rw [show (nodeAdd w.n1 o).ops = w.n1.ops ++ [o] from rfl, hd] at ed
     have es := ev_isend h { w.setN 1 (nodeAdd w.n1 o) with done := (w.n1.ops ++ [o]).take ((w.n1.ops ++ [o]).map opD).length } (askMsg w.n1 1 o) rfl hl
     unfold sendM
     simp only [if_true]
     cases hc : decide (((w.setN 1 (nodeAdd w.n1 o)).nets.length : Int) < 12)
     ·simp only [hc, Bool.false_eq_true, if_false] at es ⊢
      rw [h.call]
      repeat (conv=>arg 2;whnf;arg 2;tactic=>first|exact g1|exact ea|exact gS|exact al|exact ed|exact es|exact gN|exact congrArg not al|exact g2)
      conv => arg 2; whnf
      exact .s0R ..
     ·simp only [hc, if_true] at es ⊢
      rw [h.call]
      repeat (conv=>arg 2;whnf;arg 2;tactic=>first|exact g1|exact ea|exact gS|exact al|exact ed|exact es|exact gN|exact congrArg not al|exact g2)
      conv => arg 2; whnf
      exact .sDR ..
 ·have ea := ev_NodeAsk h w.n2 hw.o2.sz 2 o ho
  have hno : nodeOk w.n2 = true := k2
  cases ha : askOk w.n2 o
  ·rw [show askM w 2 o = w from by unfold askM; rw [show w.nd 2 = w.n2 from rfl, ha]; rfl]
   rw [iask_off hno (by decide) ha] at ea
   rw [h.call]
   repeat (conv=>arg 2;whnf;arg 2;tactic=>first|exact g1|exact ea|exact gS|exact gN|exact g2)
   conv => arg 2; whnf
   exact .s00 ..
  ·rw [iask_on hno (by decide) ha] at ea
   have hop := (askOk_G ha).2
   have hld : (w.n2.ops ++ [o]).length < 2000000 := by have := hop.l; omega
   cases al : w.n2.alone
   ·rw [show askM w 2 o = sendM (w.setN 2 (nodeAdd w.n2 o)) (askMsg w.n2 2 o) from by unfold askM; rw [show w.nd 2 = w.n2 from rfl, ha, al]; rfl]
    have es := ev_isend h (w.setN 2 (nodeAdd w.n2 o)) (askMsg w.n2 2 o) rfl hl
    unfold sendM
    cases hc : decide (((w.setN 2 (nodeAdd w.n2 o)).nets.length : Int) < 12)
    ·simp only [hc, Bool.false_eq_true, if_false] at es ⊢
     rw [h.call]
     repeat (conv=>arg 2;whnf;arg 2;tactic=>first|exact g1|exact ea|exact gS|exact al|exact es|exact gN|exact congrArg not al|exact g2)
     conv => arg 2; whnf
     exact .s00 ..
    ·simp only [hc, if_true] at es ⊢
     rw [h.call]
     repeat (conv=>arg 2;whnf;arg 2;tactic=>first|exact g1|exact ea|exact gS|exact al|exact es|exact gN|exact congrArg not al|exact g2)
     conv => arg 2; whnf
     exact .sD0 ..
   ·have hk : (((w.n2.ops ++ [o]).length : Nat) : Int) = (((w.n2.ops ++ [o]).map opD).length : Nat) := by rw [List.length_map]
    rw [show askM w 2 o = sendM (doneM (w.setN 2 (nodeAdd w.n2 o)) (w.n2.ops ++ [o]) (((w.n2.ops ++ [o]).map opD).length : Nat)) (askMsg w.n2 2 o) from by unfold askM; rw [show w.nd 2 = w.n2 from rfl, ha, al, hk]; rfl]
    have ed := ev_iackB h (w.setN 2 (nodeAdd w.n2 o)) (nodeAdd w.n2 o) ((w.n2.ops ++ [o]).map opD).length hld
    unfold doneM
    cases hd : decide ((((w.n2.ops ++ [o]).map opD).length : Int) > ((w.setN 2 (nodeAdd w.n2 o)).done.length : Int)) && decide ((((w.n2.ops ++ [o]).map opD).length : Int) ≤ ((w.n2.ops ++ [o]).length : Int))
    ·rw [show (nodeAdd w.n2 o).ops = w.n2.ops ++ [o] from rfl, hd] at ed
     have es := ev_isend h (w.setN 2 (nodeAdd w.n2 o)) (askMsg w.n2 2 o) rfl hl
     unfold sendM
     simp only [Bool.false_eq_true, if_false]
     cases hc : decide (((w.setN 2 (nodeAdd w.n2 o)).nets.length : Int) < 12)
     ·simp only [hc, Bool.false_eq_true, if_false] at es ⊢
      rw [h.call]
      repeat (conv=>arg 2;whnf;arg 2;tactic=>first|exact g1|exact ea|exact gS|exact al|exact ed|exact es|exact gN|exact congrArg not al|exact g2)
      conv => arg 2; whnf
      exact .s00 ..
     ·simp only [hc, if_true] at es ⊢
      rw [h.call]
      repeat (conv=>arg 2;whnf;arg 2;tactic=>first|exact g1|exact ea|exact gS|exact al|exact ed|exact es|exact gN|exact congrArg not al|exact g2)
      conv => arg 2; whnf
      exact .sD0 ..
    ·rw [show (nodeAdd w.n2 o).ops = w.n2.ops ++ [o] from rfl, hd] at ed
     have es := ev_isend h { w.setN 2 (nodeAdd w.n2 o) with done := (w.n2.ops ++ [o]).take ((w.n2.ops ++ [o]).map opD).length } (askMsg w.n2 2 o) rfl hl
     unfold sendM
     simp only [if_true]
     cases hc : decide (((w.setN 2 (nodeAdd w.n2 o)).nets.length : Int) < 12)
     ·simp only [hc, Bool.false_eq_true, if_false] at es ⊢
      rw [h.call]
      repeat (conv=>arg 2;whnf;arg 2;tactic=>first|exact g1|exact ea|exact gS|exact al|exact ed|exact es|exact gN|exact congrArg not al|exact g2)
      conv => arg 2; whnf
      exact .s0R ..
     ·simp only [hc, if_true] at es ⊢
      rw [h.call]
      repeat (conv=>arg 2;whnf;arg 2;tactic=>first|exact g1|exact ea|exact gS|exact al|exact ed|exact es|exact gN|exact congrArg not al|exact g2)
      conv => arg 2; whnf
      exact .sDR ..
end
end Go.Gn

namespace Go.Gn
open Go
set_option maxRecDepth 100000
set_option maxHeartbeats 16000000
def zWd : Obj := .box [.nils, .int .i64 0, .int .i64 0, .bool false, .nils, .nils]
def worldS (w : WorldM) : List Obj := [wB w 1 2, oR 5 w.n1.ops, oR 5 w.n2.ops, nR 0 w.nets, oR 0 w.done]
def worldSD (w : WorldM) : List Obj := [wB w 1 2, oR 5 w.n1.ops, oR 5 w.n2.ops, nR 10 w.nets, oR 5 w.done]
theorem nets_snocS (a : List MsgM) (m : MsgM) : a.map msgD ++ chunks 10 1 [D.int .i64 m.kind, .int .i64 m.to, .int .i64 m.term, .int .i64 m.n, .int .i64 m.op.kind, .str m.op.name, .str m.op.to, .int .i64 m.op.n, .str m.op.text, .sl (m.ops.map opD)] = (a ++ [m]).map msgD := by
 rw [List.map_append]; rfl
def plO2 (w : WorldM) : List Obj := [zWd, .box [.hs 2 0 2, .int .i64 w.term, .int .i64 w.lead, .bool w.both, .hw 5, .hw 6], wB w 3 4, opsRow w.n1.ops, opsRow w.n2.ops, nR 10 w.nets, opsRow w.done]
section
variable {W : CallF} {L : LoopF} {E : EqF} {T : Prop → Bool} (h : IsK G W L E T)
include h
theorem copyW_loop (w : WorldM) (hl : w.nets.length < 2000000) (hm : ∀ m ∈ w.nets, m.ops.length < 2000000) : ∀ (m i : Nat), i + m = w.nets.length → L (norm 0 cf79.live) (exitN 0 cf79.out (evCW W L G cf79 0 c79l0)) ⟨[(1, .ptr 0 0), (2, .ptr 1 0), (3, .hw 2), (4, .int .i64 (i : Nat))], [wBox w, zWd, nR 0 (w.nets.take i)]⟩ =
  some (.ext 0, ⟨[(1, .ptr 0 0), (2, .ptr 1 0), (3, .hw 2)], [wBox w, zWd, nR 0 w.nets]⟩)
 | 0, i, hk => by
  have hlen : ((w.nets.map msgD).length : Nat) = w.nets.length := List.length_map ..
  rw [List.take_of_length_le (show w.nets.length ≤ i by omega), h.loop]
  repeat (conv=>lhs;whnf;arg 2;tactic=>first|exact g1|exact gS|exact g2)
  rfl
 | m + 1, i, hk => by
  obtain ⟨x, hx⟩ := get_some (xs := w.nets) (i := i) (by omega)
  have hlx := hm x (List.mem_of_getElem? hx)
  have ih := copyW_loop w hl hm m (i + 1) (by omega)
  have hlen : ((w.nets.map msgD).length : Nat) = w.nets.length := List.length_map ..
  have hlt : (((w.nets.take i).map msgD).length : Nat) = i := by rw [List.length_map, List.length_take]; omega
  have hlo : ((x.ops.map opD).length : Nat) = x.ops.length := List.length_map ..
  rw [take_snoc hx] at ih
  rw [← ih, h.loop]
  repeat (conv=>lhs;whnf;arg 2;tactic=>first|exact g1|exact map_get hx|exact szOk_map opD 5 (fun _ => rfl) _|exact gC|exact gS|exact g2)
  conv => lhs; whnf
  rw [wrap_succ (by omega), show (x.ops.map opD).map (fun y => y.map D.scrub) = x.ops.map opD from scrub_map opD (fun _ => rfl) x.ops]
  show L _ _ ⟨_, [_, _, .row 10 0 0 ((w.nets.take i).map msgD ++ chunks 10 1 [D.int .i64 x.kind, .int .i64 x.to, .int .i64 x.term, .int .i64 x.n, .int .i64 x.op.kind, .str x.op.name, .str x.op.to, .int .i64 x.op.n, .str x.op.text, .sl (x.ops.map opD)])]⟩ = _
  rw [nets_snocS]
  rfl
theorem ev_l22Copy (w : WorldM) (hw : WG w) : W f_spec_l22Copy [worldA w] [] = some (wV w 3 4, worldS w) := by
 have l1 := hw.o1.l
 have l2 := hw.o2.l
 have ld := hw.done.l
 have hld : ((w.done.map opD).length : Nat) = w.done.length := List.length_map ..
 have e1 := ev_l21Copy h w.n1 (by omega)
 have e2 := ev_l21Copy h w.n2 (by omega)
 have e3 := copyW_loop h w (by have := hw.nl; omega) (fun m hm => by have := (hw.nets m hm).ops.l; omega) w.nets.length 0 (by omega)
 rw [nc0, List.take_zero] at e3
 rw [h.call]
 repeat (conv=>lhs;whnf;arg 2;tactic=>first|exact g1|exact e3|exact e1|exact e2|exact szOk_map opD 5 (fun _ => rfl) _|exact gC|exact gS|exact g2)
 conv => lhs; whnf
 rw [show (w.done.map opD).map (fun y => y.map D.scrub) = w.done.map opD from scrub_map opD (fun _ => rfl) w.done]
 rfl
end
end Go.Gn

