/- Part 17 of a proof: an evaluator of the program, proved sound, and what it answers. -/
import Derived.Test.YtkgpnfeabojhcaaGreatA10
import Derived.Test.YtkgpnfeabojhcaaGreatA15
import Derived.Test.YtkgpnfeabojhcaaGreatA16
set_option linter.all false
namespace Go.Gn
open Go
set_option maxRecDepth 100000
set_option maxHeartbeats 8000000
section
variable {W : CallF} {L : LoopF} {E : EqF} {T : Prop → Bool} (h : IsK G W L E T)
include h
theorem ev_Make0 (nm : Str) (sz : Int) : W f_spec_l11Make [.agg [.hw 0, .hw 1], .str nm, .int .i64 sz] (specP poolNew) = some (if sMakeBad poolNew nm sz then (.tup [.agg [.hw 0, .hw 1], .bool false], specP poolNew)
  else (.tup [.agg [.hw 0, .hw 2], .bool true], [.row 2 0 2 (emptySlots.map slotD), .row 2 0 2 [], .row 2 0 2 ((insS ⟨nm, List.replicate sz.toNat 0⟩ []).map volD)])) := by
 have hn := ev_l3Name h nm
 have hr := ev_l6In h sz 1 6
 have hv := ev_l11At h poolNew (by decide) nm
 rw [show fndI (volIx poolNew.vols nm) = -1 from rfl] at hv
 unfold sMakeBad
 rw [show decide (fndI (volIx poolNew.vols nm) ≥ 0) = false from rfl]
 cases c1 : sName nm
 ·rw [c1] at hn
  rw [h.call]
  repeat (conv=>lhs;whnf;arg 2;tactic=>first|exact g1|exact hn|exact congrArg not hn|exact g2)
  rfl
 ·rw [c1] at hn
  cases c2 : inR sz 1 6
  ·rw [c2] at hr
   rw [h.call]
   repeat (conv=>lhs;whnf;arg 2;tactic=>first|exact g1|exact hn|exact hr|exact congrArg not hn|exact congrArg not hr|exact g2)
   rfl
  ·have c2' := c2
   rw [c2] at hr
   simp only [inR, Bool.and_eq_true, decide_eq_true_eq] at c2'
   obtain ⟨n, rfl⟩ : ∃ n : Nat, sz = n := ⟨sz.toNat, by omega⟩
   have hins := ev_l11Add h poolNew (by decide) ⟨nm, List.replicate n 0⟩ 0
   rw [show (List.replicate n (0 : Int)).map intD = List.replicate n (intD 0) from List.map_replicate ..] at hins
   rw [Int.toNat_natCast, h.call]
   repeat (conv=>lhs;whnf;arg 2;tactic=>first|exact g1|exact hn|exact hr|exact hv|exact hins|exact congrArg not hn|exact congrArg not hr|exact congrArg not hv|exact congrArg not hins|exact g2)
   rfl
theorem ev_Do0 (o : OpM) : W f_spec_l12Do [.agg [.hw 0, .hw 1], .agg (opC o)] (specP poolNew) = some (if o.kind = 1 ∧ sMakeBad poolNew o.name o.n = false then (.tup [.agg [.hw 0, .hw 2], .bool true], [.row 2 0 2 (emptySlots.map slotD), .row 2 0 2 [], .row 2 0 2 ((insS ⟨o.name, List.replicate o.n.toNat 0⟩ []).map volD)])
  else (.tup [.agg [.hw 0, .hw 1], .bool false], specP poolNew)) := by
 have n1 : ∀ {a b : Int}, ¬ a = b → (a == b) = false := fun hab => by simp [hab]
 have y1 : ∀ {a b : Int}, a = b → (a == b) = true := fun hab => by simp [hab]
 by_cases k1 : o.kind = 1
 ·have e := ev_Make0 h o.name o.n
  cases hb : sMakeBad poolNew o.name o.n
  ·rw [hb, if_neg (by simp)] at e
   rw [if_pos ⟨k1, rfl⟩, h.call]
   repeat (conv=>lhs;whnf;arg 2;tactic=>first|exact g1|exact y1 k1|exact e|exact g2)
   rfl
  ·rw [hb, if_pos rfl] at e
   rw [if_neg (by simp), h.call]
   repeat (conv=>lhs;whnf;arg 2;tactic=>first|exact g1|exact y1 k1|exact e|exact g2)
   rfl
 ·rw [if_neg (fun e => k1 e.1)]
  by_cases k2 : o.kind = 2
  ·have hv := ev_l11At h poolNew (by decide) o.name
   rw [show fndI (volIx poolNew.vols o.name) = -1 from rfl] at hv
   have e : W f_spec_l11Write [.agg [.hw 0, .hw 1], .str o.name, .int .i64 o.n, .str o.text] (specP poolNew) = some (.tup [.agg [.hw 0, .hw 1], .bool false], specP poolNew) := by
    rw [h.call]
    repeat (conv=>lhs;whnf;arg 2;tactic=>first|exact g1|exact hv|exact congrArg not hv|exact g2)
    rfl
   rw [h.call]
   repeat (conv=>lhs;whnf;arg 2;tactic=>first|exact g1|exact n1 k1|exact y1 k2|exact e|exact g2)
   rfl
  ·by_cases k3 : o.kind = 3
   ·have hv := ev_l11At h poolNew (by decide) o.name
    rw [show fndI (volIx poolNew.vols o.name) = -1 from rfl] at hv
    have e : W f_spec_l11Clone [.agg [.hw 0, .hw 1], .str o.name, .str o.to] (specP poolNew) = some (.tup [.agg [.hw 0, .hw 1], .bool false], specP poolNew) := by
     rw [h.call]
     repeat (conv=>lhs;whnf;arg 2;tactic=>first|exact g1|exact hv|exact congrArg not hv|exact g2)
     rfl
    rw [h.call]
    repeat (conv=>lhs;whnf;arg 2;tactic=>first|exact g1|exact n1 k1|exact n1 k2|exact y1 k3|exact e|exact g2)
    rfl
   ·have hv := ev_l11At h poolNew (by decide) o.name
    rw [show fndI (volIx poolNew.vols o.name) = -1 from rfl] at hv
    have e : W f_spec_l11Gone [.agg [.hw 0, .hw 1], .str o.name] (specP poolNew) = some (.tup [.agg [.hw 0, .hw 1], .bool false], specP poolNew) := by
     rw [h.call]
     repeat (conv=>lhs;whnf;arg 2;tactic=>first|exact g1|exact hv|exact congrArg not hv|exact g2)
     rfl
    rw [h.call]
    repeat (conv=>lhs;whnf;arg 2;tactic=>first|exact g1|exact n1 k1|exact n1 k2|exact n1 k3|exact e|exact g2)
    rfl
theorem ev_Run0 (o : OpM) (hos : o.Sz) (hn : (runM poolNew [o]).isSome = false) : W f_spec_l13Run [.agg [.hw 0, .hw 1], .sl .br ([o].map opD)] (specP poolNew) = some (.tup [.agg [.hw 0, .hw 1], .bool false], specP poolNew) := by
 have ed := ev_Do0 h o
 have hok := ev_sOpOk h o hos
 have hc : sOpOk o = false ∨ (sOpOk o = true ∧ ¬ (o.kind = 1 ∧ sMakeBad poolNew o.name o.n = false)) := by
  cases c : sOpOk o
  ·exact .inl rfl
  ·refine .inr ⟨rfl, fun hh => ?_⟩
   have : (sDo poolNew o).2 = true := by
    rw [sDo, if_pos hh.1, sMake, if_neg (by rw [hh.2]; simp)]
   simp only [runM, c, this, Bool.and_self, if_true, Option.isSome_some] at hn
   cases hn
 have e : L (norm 2 cf159.live) (exitN 2 cf159.out (evCW W L G cf159 2 c159l0)) ⟨[(1, .sl .br ([o].map opD)), (2, .ptr 2 0), (4, .ptr 3 0), (6, .int .i64 0)], [.row 2 0 2 (emptySlots.map slotD), .row 2 0 2 [], .box [.hw 0, .hw 1], .box [.nils, .nils]]⟩ = some (.ret, ⟨[(2, .ptr 2 0), (4, .ptr 3 0), (5, .bool false)], [.row 2 0 2 (emptySlots.map slotD), .row 2 0 2 [], .box [.hw 0, .hw 1], .box [.hw 0, .hw 1]]⟩) := by
  have hg0 : ([o] : List OpM)[0]? = some o := rfl
  rcases hc with c | ⟨c, hm⟩
  ·rw [c] at hok
   rw [h.loop]
   split at ed
   ·repeat (conv=>lhs;whnf;arg 2;tactic=>first|exact g1|exact map_get hg0|exact ed|exact hok|exact congrArg not hok|exact g2)
    rfl
   ·repeat (conv=>lhs;whnf;arg 2;tactic=>first|exact g1|exact map_get hg0|exact ed|exact hok|exact congrArg not hok|exact g2)
    rfl
  ·rw [c] at hok
   rw [if_neg hm] at ed
   rw [h.loop]
   repeat (conv=>lhs;whnf;arg 2;tactic=>first|exact g1|exact map_get hg0|exact ed|exact hok|exact congrArg not hok|exact g2)
   rfl
 rw [h.call]
 repeat (conv=>lhs;whnf;arg 2;tactic=>first|exact g1|exact e|exact g2)
 rfl
end
end Go.Gn

namespace Go.Gn
open Go
set_option maxRecDepth 100000
set_option maxHeartbeats 8000000
def nodeZ : AV := .agg [.bool false, .int .i64 0, .bool false, .bool false, .nils]
def askOk (n : NodeM) (o : OpM) : Bool := n.up && (n.leads && canAdd n.ops o)
def askMsg (n : NodeM) (id : Int) (o : OpM) : MsgM := ⟨1, 3 - id, n.term, ((n.ops ++ [o]).map opD).length, o, []⟩
def askR (n : NodeM) (id : Int) (o : OpM) : AV × List Obj := if askOk n o then (.tup [nodeW n 0, msgZ (askMsg n id o), .bool true], [opsRow (n.ops ++ [o])]) else (.tup [nodeW n 0, msgZ noMsg, .bool false], [opsRow n.ops])
def nodeAsk (n : NodeM) (id : Int) (o : OpM) : AV × List Obj := if nodeOk n && inR id 1 2 then askR n id o else (.tup [nodeZ, msgZ noMsg, .bool false], [])
theorem nodeOk_run {n : NodeM} (h : nodeOk n = true) : (runM poolNew n.ops).isSome = true ∧ n.ops.length ≤ 20 := by
 simp only [nodeOk, areOps_run, Bool.and_eq_true, decide_eq_true_eq] at h
 exact ⟨h.2.2.1, by omega⟩
section
variable {W : CallF} {L : LoopF} {E : EqF} {T : Prop → Bool} (h : IsK G W L E T)
include h
theorem ev_l21Ask (n : NodeM) (hs : OpsSz n.ops) (hr0 : (runM poolNew n.ops).isSome = true) (id : Int) (hid : 1 ≤ id ∧ id ≤ 2) (o : OpM) (ho : o.Sz) : W f_spec_l21Ask [nodeW n 0, .int .i64 id, .agg (opC o)] [opsRow n.ops] =
  some (if askOk n o then (.tup [nodeW n 1, msgZ (askMsg n id o), .bool true], [.dead, opsRow (n.ops ++ [o])]) else (.tup [nodeW n 0, msgZ noMsg, .bool false], [opsRow n.ops])) := by
 have ea := ev_l21Add h n hs hr0 o ho
 have hw : IntKind.i64.wrap (3 - id) = 3 - id := wrap_id (by omega) (by omega)
 unfold askOk askMsg
 obtain ⟨up, term, leads, alone, ops⟩ := n
 rw [h.call, ← hw]
 cases up
 ·rfl
 ·cases leads
  ·rfl
  ·cases hc : canAdd ops o
   ·simp only [hc, Bool.false_eq_true, if_false] at ea
    repeat (conv=>lhs;whnf;arg 2;tactic=>first|exact ea)
    rfl
   ·simp only [hc, if_true] at ea
    repeat (conv=>lhs;whnf;arg 2;tactic=>first|exact ea|exact gS)
    rfl
end
end Go.Gn

namespace Go.Gn
open Go
set_option maxRecDepth 100000
set_option maxHeartbeats 8000000
theorem canTake_eq {os : List OpM} (h20 : os.length ≤ 20) (hr : (runM poolNew os).isSome = true) (o : OpM) : canTake os o = canAdd os o := by
 obtain ⟨q, hq⟩ := Option.isSome_iff_exists.mp hr
 have hqo := runM_ok os poolNew_ok hq
 unfold canTake canAdd
 rw [run_eq os poolNew_ok]
 simp only [hq]
 rw [hqo, poolDo_eq hqo]
 have : decide ((os.length : Int) < 20) = !(decide ((os.length : Int) ≥ 20)) := by
  rw [← decide_not]; exact decide_eq_decide.mpr (by omega)
 rw [this]
 cases opOk o <;> cases (sDo q o).2 <;> cases decide ((os.length : Int) ≥ 20) <;> rfl
theorem canAdd_len {os : List OpM} {o : OpM} (h : canAdd os o = true) : os.length < 20 := by
 unfold canAdd at h
 split at h
 ·simp only [Bool.and_eq_true, Bool.not_eq_true', decide_eq_false_iff_not] at h
  omega
 ·cases h
section
variable {W : CallF} {L : LoopF} {E : EqF} {T : Prop → Bool} (h : IsK G W L E T)
include h
theorem ev_NodeAsk (n : NodeM) (hs : OpsSz n.ops) (id : Int) (o : OpM) (ho : o.Sz) : W f_impl_NodeAsk [nodeA n, .int .i64 id, .agg (opC o)] [] = some (nodeAsk n id o) := by
 have hok := ev_NodeOk h n hs
 have hin := ev_isNode h id
 have hlen : ((n.ops.map opD).length : Nat) = n.ops.length := List.length_map ..
 unfold nodeAsk
 rw [h.call]
 cases hn : nodeOk n
 ·repeat (conv=>lhs;whnf;arg 2;tactic=>first|exact hok|exact congrArg not hn)
  rfl
 ·cases hi : inR id 1 2
  ·repeat (conv=>lhs;whnf;arg 2;tactic=>first|exact hok|exact hin|exact congrArg not hn|exact congrArg not hi)
   rfl
  ·have hi' := hi
   simp only [inR, Bool.and_eq_true, decide_eq_true_eq] at hi'
   have hw : IntKind.i64.wrap (3 - id) = 3 - id := wrap_id (by omega) (by omega)
   obtain ⟨hr, h20⟩ := nodeOk_run hn
   have hc := ev_Node_clone h n (by have := hs.1; omega)
   have ht := ev_canTake h n hs o ho (by rw [run_eq _ poolNew_ok]; exact hr)
   rw [canTake_eq h20 hr] at ht
   unfold askR askOk askMsg
   rw [← hw]
   obtain ⟨up, term, leads, alone, ops⟩ := n
   cases up
   ·repeat (conv=>lhs;whnf;arg 2;tactic=>first|exact hok|exact hin|exact hc|exact congrArg not hn|exact congrArg not hi)
    rfl
   ·cases leads
    ·repeat (conv=>lhs;whnf;arg 2;tactic=>first|exact hok|exact hin|exact hc|exact congrArg not hn|exact congrArg not hi)
     rfl
    ·cases ha : canAdd ops o
     ·repeat (conv=>lhs;whnf;arg 2;tactic=>first|exact hok|exact hin|exact hc|exact ht|exact congrArg not hn|exact congrArg not hi|exact congrArg not ha)
      rfl
     ·have hlt := canAdd_len ha
      have hcap : decide (((ops.map opD).length + (chunks 5 1 [D.int .i64 o.kind, .str o.name, .str o.to, .int .i64 o.n, .str o.text]).length) * 64 ≤ 140737488355328) = true := decide_eq_true (by
       rw [hlen]
       show (ops.length + 1) * 64 ≤ _
       omega)
      repeat (conv=>lhs;whnf;arg 2;tactic=>first|exact hok|exact hin|exact hc|exact ht|exact hcap|exact gS|exact congrArg not hn|exact congrArg not hi|exact congrArg not ha)
      conv => lhs; whnf
      simp only [app_row]
      rfl
end
end Go.Gn

namespace Go.Gn
open Go
set_option maxRecDepth 100000
set_option maxHeartbeats 8000000
inductive Cop where
 | no | has | add
def copK (n : NodeM) (m : MsgM) : Cop := if (m.term != n.term) || n.leads then .no else
 if decide (m.n ≤ (n.ops.length : Int)) then (match n.ops[(m.n - 1).toNat]? with | some o => if opEq o m.op then .has else .no | none => .no)
 else if decide (m.n > (n.ops.length : Int) + 1) then .no else if canAdd n.ops m.op then .add else .no
def hasMsg (n : NodeM) (id : Int) (m : MsgM) : MsgM := ⟨2, 3 - id, n.term, m.n, noOp, []⟩
section
variable {W : CallF} {L : LoopF} {E : EqF} {T : Prop → Bool} (h : IsK G W L E T)
include h
theorem ev_l21Copied (n : NodeM) (hs : OpsSz n.ops) (hr0 : (runM poolNew n.ops).isSome = true) (h20 : n.ops.length ≤ 20) (id : Int) (hid : 1 ≤ id ∧ id ≤ 2) (m : MsgM) (ho : m.op.Sz) (hm : 1 ≤ m.n ∧ m.n ≤ 20) :
  match copK n m with
  | .no => ∃ mm, W f_spec_l21Copied [nodeW n 0, .int .i64 id, msgA m] [opsRow n.ops] = some (.tup [nodeW n 0, msgZ mm, .bool false], [opsRow n.ops])
  | .has => W f_spec_l21Copied [nodeW n 0, .int .i64 id, msgA m] [opsRow n.ops] = some (.tup [nodeW n 0, msgZ (hasMsg n id m), .bool true], [opsRow n.ops])
  | .add => W f_spec_l21Copied [nodeW n 0, .int .i64 id, msgA m] [opsRow n.ops] = some (.tup [nodeW n 1, msgZ (hasMsg n id m), .bool true], [.dead, opsRow (n.ops ++ [m.op])]) := by
 have ea := ev_l21Add h n hs hr0 m.op ho
 have hw : IntKind.i64.wrap (3 - id) = 3 - id := wrap_id (by omega) (by omega)
 have hlen : ((n.ops.map opD).length : Nat) = n.ops.length := List.length_map ..
 have hle : decide (m.n ≤ ((n.ops.map opD).length : Int)) = decide (m.n ≤ (n.ops.length : Int)) := by rw [hlen]
 have hw1 : IntKind.i64.wrap (((n.ops.map opD).length : Nat) + 1) = (n.ops.length : Int) + 1 := by rw [hlen, wrap_id (by omega) (by omega)]
 have hgt : decide (m.n > IntKind.i64.wrap (((n.ops.map opD).length : Nat) + 1)) = decide (m.n > (n.ops.length : Int) + 1) := by rw [hw1]
 unfold copK hasMsg
 obtain ⟨up, term, leads, alone, ops⟩ := n
 simp only at *
 cases ht : m.term != term
 ·cases leads
  ·simp only [Bool.or_false, Bool.false_eq_true, if_false]
   cases h1 : decide (m.n ≤ (ops.length : Int))
   ·rw [h1] at hle
    simp only [Bool.false_eq_true, if_false]
    cases h2 : decide (m.n > (ops.length : Int) + 1)
    ·rw [h2] at hgt
     simp only [Bool.false_eq_true, if_false]
     cases hc : canAdd ops m.op
     ·simp only [hc, Bool.false_eq_true, if_false] at ea ⊢
      refine ⟨⟨2, IntKind.i64.wrap (3 - id), term, m.n, noOp, []⟩, ?_⟩
      rw [h.call]
      repeat (conv=>lhs;whnf;arg 2;tactic=>first|exact ht|exact hle|exact hgt|exact ea|exact gS)
      rfl
     ·simp only [hc, if_true] at ea ⊢
      rw [h.call, ← hw]
      repeat (conv=>lhs;whnf;arg 2;tactic=>first|exact ht|exact hle|exact hgt|exact ea|exact gS)
      rfl
    ·rw [h2] at hgt
     simp only [if_true]
     refine ⟨noMsg, ?_⟩
     rw [h.call]
     repeat (conv=>lhs;whnf;arg 2;tactic=>first|exact ht|exact hle|exact hgt)
     rfl
   ·rw [h1] at hle
    simp only [if_true]
    simp only [decide_eq_true_eq] at h1
    obtain ⟨k, hk⟩ : ∃ k : Nat, m.n = (k : Int) + 1 := ⟨(m.n - 1).toNat, by omega⟩
    have hk' : (m.n - 1).toNat = k := by omega
    have hwk : IntKind.i64.wrap (m.n - 1) = (k : Int) := by rw [wrap_id (by omega) (by omega)]; omega
    obtain ⟨o, hoo⟩ := get_some (xs := ops) (i := k) (by omega)
    have heq := E_op h o m.op
    simp only [hk', hoo]
    cases he : opEq o m.op
    ·rw [he] at heq
     simp only [Bool.false_eq_true, if_false]
     refine ⟨⟨2, IntKind.i64.wrap (3 - id), term, m.n, noOp, []⟩, ?_⟩
     rw [h.call]
     repeat (conv=>lhs;whnf;arg 2;tactic=>first|exact g1|exact ht|exact hwk|exact map_get hoo|exact heq|exact gS)
     rfl
    ·rw [he] at heq
     simp only [if_true]
     rw [h.call, ← hw]
     repeat (conv=>lhs;whnf;arg 2;tactic=>first|exact g1|exact ht|exact hwk|exact map_get hoo|exact heq|exact gS)
     rfl
  ·simp only [Bool.or_true, if_true]
   refine ⟨noMsg, ?_⟩
   rw [h.call]
   repeat (conv=>lhs;whnf;arg 2;tactic=>first|exact ht)
   rfl
 ·simp only [Bool.true_or, if_true]
  refine ⟨noMsg, ?_⟩
  rw [h.call]
  repeat (conv=>lhs;whnf;arg 2;tactic=>first|exact ht)
  rfl
end
end Go.Gn

