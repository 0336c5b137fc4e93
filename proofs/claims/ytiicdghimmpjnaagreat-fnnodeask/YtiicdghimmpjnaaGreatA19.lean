/- Part 19 of a proof: an evaluator of the program, proved sound, and what it answers. -/
import Derived.Test.YtiicdghimmpjnaaGreatA18
set_option linter.all false
namespace Go.Gn
open Go
set_option linter.unusedVariables false
set_option linter.unusedSimpArgs false
set_option maxRecDepth 100000
set_option maxHeartbeats 8000000
def nodeZ : AV := .agg [.bool false, .int .i64 0, .bool false, .bool false, .nils]
def askOk (n : NodeM) (o : OpM) : Bool := n.up && (n.leads && canAdd n.ops o)
def askMsg (n : NodeM) (id : Int) (o : OpM) : MsgM := ⟨1, 3 - id, n.term, ((n.ops ++ [o]).map opD).length, o, []⟩
def askR (n : NodeM) (id : Int) (o : OpM) : AV × List Obj := if askOk n o then (.tup [nodeW n 0, msgZ (askMsg n id o), .bool true], [opsRow (n.ops ++ [o])]) else (.tup [nodeW n 0, msgZ noMsg, .bool false], [opsRow n.ops])
def nodeAsk (n : NodeM) (id : Int) (o : OpM) : AV × List Obj := if nodeOk n && inR id 1 2 then askR n id o else (.tup [nodeZ, msgZ noMsg, .bool false], [])
theorem nodeOk_run {n : NodeM} (h : nodeOk n = true) : (runM poolNew n.ops).isSome = true ∧ n.ops.length ≤ 20 := by
 simp only [nodeOk, areOps_run, Bool.and_eq_true, decide_eq_true_eq] at h
 exact ⟨h.2.2.1, by omega⟩
section
variable {W : CallF} {L : LoopF} {E : EqF} {T : Prop → Bool} (h : IsK G W L E T)
include h
theorem ev_l21Ask (n : NodeM) (hs : OpsSz n.ops) (hr0 : (runM poolNew n.ops).isSome = true) (id : Int) (hid : 1 ≤ id ∧ id ≤ 2) (o : OpM) (ho : o.Sz) : W f_spec_l21Ask [nodeW n 0, .int .i64 id, .agg (opC o)] [opsRow n.ops] =
  some (if askOk n o then (.tup [nodeW n 1, msgZ (askMsg n id o), .bool true], [.dead, opsRow (n.ops ++ [o])]) else (.tup [nodeW n 0, msgZ noMsg, .bool false], [opsRow n.ops])) := by
 have ea := ev_l21Add h n hs hr0 o ho
 have hw : IntKind.i64.wrap (3 - id) = 3 - id := wrap_id (by omega) (by omega)
 unfold askOk askMsg
 obtain ⟨up, term, leads, alone, ops⟩ := n
 rw [h.call, ← hw]
 cases up
 ·rfl
 ·cases leads
  ·rfl
  ·cases hc : canAdd ops o
   ·simp only [hc, Bool.false_eq_true, if_false] at ea
    repeat (conv=>lhs;whnf;arg 2;tactic=>first|exact g1|exact ea|exact congrArg not ea|exact g2)
    rfl
   ·simp only [hc, if_true] at ea
    repeat (conv=>lhs;whnf;arg 2;tactic=>first|exact g1|exact ea|exact gS|exact congrArg not ea|exact g2)
    rfl
theorem ev_sNodeAsk (n : NodeM) (hs : OpsSz n.ops) (id : Int) (o : OpM) (ho : o.Sz) : W f_spec_NodeAsk [nodeA n, .int .i64 id, .agg (opC o)] [] = some (nodeAsk n id o) := by
 have hok := ev_sNodeOk h n hs
 have hin := ev_l6In h id 1 2
 unfold nodeAsk askR
 rw [h.call]
 cases hn : nodeOk n
 ·repeat (conv=>lhs;whnf;arg 2;tactic=>first|exact g1|exact hok|exact hn|exact congrArg not hok|exact congrArg not hn|exact g2)
  rfl
 ·cases hi : inR id 1 2
  ·repeat (conv=>lhs;whnf;arg 2;tactic=>first|exact g1|exact hok|exact hn|exact hin|exact hi|exact congrArg not hok|exact congrArg not hn|exact congrArg not hin|exact congrArg not hi|exact g2)
   rfl
  ·have hi' := hi
   simp only [inR, Bool.and_eq_true, decide_eq_true_eq] at hi'
   have hc := ev_l21Copy h n (by have := hs.1; omega)
   have ea := ev_l21Ask h n hs (nodeOk_run hn).1 id hi' o ho
   cases ha : askOk n o
   ·rw [ha] at ea
    repeat (conv=>lhs;whnf;arg 2;tactic=>first|exact g1|exact hok|exact hn|exact hin|exact hi|exact hc|exact ea|exact gS|exact congrArg not hok|exact congrArg not hn|exact congrArg not hin|exact congrArg not hi|exact congrArg not hc|exact congrArg not ea|exact g2)
    rfl
   ·rw [ha] at ea
    repeat (conv=>lhs;whnf;arg 2;tactic=>first|exact g1|exact hok|exact hn|exact hin|exact hi|exact hc|exact ea|exact gS|exact congrArg not hok|exact congrArg not hn|exact congrArg not hin|exact congrArg not hi|exact congrArg not hc|exact congrArg not ea|exact g2)
    rfl
end
end Go.Gn

namespace Go.Gn
open Go
set_option linter.unusedVariables false
set_option linter.unusedSimpArgs false
set_option maxRecDepth 100000
set_option maxHeartbeats 8000000
theorem canTake_eq {os : List OpM} (h20 : os.length ≤ 20) (hr : (runM poolNew os).isSome = true) (o : OpM) : canTake os o = canAdd os o := by
 obtain ⟨q, hq⟩ := Option.isSome_iff_exists.mp hr
 have hqo := runM_ok os poolNew_ok hq
 unfold canTake canAdd
 rw [run_eq os poolNew_ok]
 simp only [hq]
 rw [hqo, poolDo_eq hqo]
 have : decide ((os.length : Int) < 20) = !(decide ((os.length : Int) ≥ 20)) := by
  rw [← decide_not]; exact decide_eq_decide.mpr (by omega)
 rw [this]
 cases opOk o <;> cases (sDo q o).2 <;> cases decide ((os.length : Int) ≥ 20) <;> rfl
theorem canAdd_len {os : List OpM} {o : OpM} (h : canAdd os o = true) : os.length < 20 := by
 unfold canAdd at h
 split at h
 ·simp only [Bool.and_eq_true, Bool.not_eq_true', decide_eq_false_iff_not] at h
  omega
 ·cases h
section
variable {W : CallF} {L : LoopF} {E : EqF} {T : Prop → Bool} (h : IsK G W L E T)
include h
theorem ev_iNodePool (n : NodeM) (hs : OpsSz n.ops) : W f_impl_NodePool [nodeA n] [] = some (if nodeOk n then match runM poolNew n.ops with
   | some q => (.agg [.hw 0, .hw 1], poolV q)
   | none => (.agg [.nils, .nils], [])
  else (.agg [.nils, .nils], [])) := by
 have hok := ev_NodeOk h n hs
 rw [h.call]
 cases hl : nodeOk n
 ·repeat (conv=>lhs;whnf;arg 2;tactic=>first|exact g1|exact hok|exact hl|exact congrArg not hok|exact congrArg not hl|exact g2)
  rfl
 ·obtain ⟨q, hq⟩ := Option.isSome_iff_exists.mp (nodeOk_run hl).1
  have hp := ev_Node_pool h n hs q (by rw [run_eq _ poolNew_ok]; exact hq)
  simp only [hq]
  repeat (conv=>lhs;whnf;arg 2;tactic=>first|exact g1|exact hok|exact hl|exact hp|exact congrArg not hok|exact congrArg not hl|exact congrArg not hp|exact g2)
  rfl
theorem ev_NodeAsk (n : NodeM) (hs : OpsSz n.ops) (id : Int) (o : OpM) (ho : o.Sz) : W f_impl_NodeAsk [nodeA n, .int .i64 id, .agg (opC o)] [] = some (nodeAsk n id o) := by
 have hok := ev_NodeOk h n hs
 have hin := ev_isNode h id
 have hlen : ((n.ops.map opD).length : Nat) = n.ops.length := List.length_map ..
 unfold nodeAsk
 rw [h.call]
 cases hn : nodeOk n
 ·repeat (conv=>lhs;whnf;arg 2;tactic=>first|exact g1|exact hok|exact hn|exact congrArg not hok|exact congrArg not hn|exact g2)
  rfl
 ·cases hi : inR id 1 2
  ·repeat (conv=>lhs;whnf;arg 2;tactic=>first|exact g1|exact hok|exact hn|exact hin|exact hi|exact congrArg not hok|exact congrArg not hn|exact congrArg not hin|exact congrArg not hi|exact g2)
   rfl
  ·have hi' := hi
   simp only [inR, Bool.and_eq_true, decide_eq_true_eq] at hi'
   have hw : IntKind.i64.wrap (3 - id) = 3 - id := wrap_id (by omega) (by omega)
   obtain ⟨hr, h20⟩ := nodeOk_run hn
   have hc := ev_Node_clone h n (by have := hs.1; omega)
   have ht := ev_canTake h n hs o ho (by rw [run_eq _ poolNew_ok]; exact hr)
   rw [canTake_eq h20 hr] at ht
   unfold askR askOk askMsg
   rw [← hw]
   obtain ⟨up, term, leads, alone, ops⟩ := n
   cases up
   ·repeat (conv=>lhs;whnf;arg 2;tactic=>first|exact g1|exact hok|exact hn|exact hin|exact hi|exact hc|exact congrArg not hok|exact congrArg not hn|exact congrArg not hin|exact congrArg not hi|exact congrArg not hc|exact g2)
    rfl
   ·cases leads
    ·repeat (conv=>lhs;whnf;arg 2;tactic=>first|exact g1|exact hok|exact hn|exact hin|exact hi|exact hc|exact congrArg not hok|exact congrArg not hn|exact congrArg not hin|exact congrArg not hi|exact congrArg not hc|exact g2)
     rfl
    ·cases ha : canAdd ops o
     ·repeat (conv=>lhs;whnf;arg 2;tactic=>first|exact g1|exact hok|exact hn|exact hin|exact hi|exact hc|exact ht|exact ha|exact congrArg not hok|exact congrArg not hn|exact congrArg not hin|exact congrArg not hi|exact congrArg not hc|exact congrArg not ht|exact congrArg not ha|exact g2)
      rfl
     ·have hlt := canAdd_len ha
      have hcap : decide (((ops.map opD).length + (chunks 5 1 [D.int .i64 o.kind, .str o.name, .str o.to, .int .i64 o.n, .str o.text]).length) * 64 ≤ 140737488355328) = true := decide_eq_true (by
       rw [hlen]
       show (ops.length + 1) * 64 ≤ _
       omega)
      repeat (conv=>lhs;whnf;arg 2;tactic=>first|exact g1|exact hok|exact hn|exact hin|exact hi|exact hc|exact ht|exact ha|exact hcap|exact gS|exact congrArg not hok|exact congrArg not hn|exact congrArg not hin|exact congrArg not hi|exact congrArg not hc|exact congrArg not ht|exact congrArg not ha|exact congrArg not hcap|exact g2)
      conv => lhs; whnf
      simp only [app_row]
      rfl
end
end Go.Gn

