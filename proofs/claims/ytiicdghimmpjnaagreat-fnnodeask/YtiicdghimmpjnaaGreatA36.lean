/- Part 36 of a proof: an evaluator of the program, proved sound, and what it answers. -/
import Derived.Test.YtiicdghimmpjnaaGreatA35
set_option linter.all false
namespace Go.Gn
open Go
set_option linter.unusedVariables false
set_option linter.unusedSimpArgs false
set_option maxRecDepth 100000
set_option maxHeartbeats 16000000
theorem opsEq_refl (a : List OpM) : opsEq a a = true := by simp [opsEq]
theorem opEq_refl (a : OpM) : opEq a a = true := by rw [opEq_eq]; simp
theorem nodeEq_refl (a : NodeM) : nodeEq a a = true := by simp [nodeEq, opsEq_refl]
theorem msgEq_refl (a : MsgM) : msgEq a a = true := by simp [msgEq, opsEq_refl, opEq_refl]
theorem hearK_ops (n : NodeM) (id : Int) (m : MsgM) : (hearK n id m).2.1.ops = [] := by
 unfold hearK
 split
 ·split <;> rfl
 ·split
  ·split <;> rfl
  ·rfl
theorem hearK_law {n : NodeM} {id : Int} {m : MsgM} (hok : (hearK n id m).2.2 = true) (ht : m.term = n.term) :
  (m.kind = 3 → m.n > (n.ops.length : Int) → (hearK n id m).1.ops = m.ops) ∧ (¬ (m.kind = 3 ∧ m.n > (n.ops.length : Int)) → n.ops <+: (hearK n id m).1.ops ∧ (hearK n id m).1.ops.length ≤ n.ops.length + 1) := by
 unfold hearK at hok ⊢
 by_cases h1 : m.kind = 1
 ·simp only [if_pos h1] at hok ⊢
  refine ⟨fun h3 => by omega, fun _ => ?_⟩
  split at hok
  ·rename_i hc
   rw [if_pos hc]
   show n.ops <+: (hearCopy n m).1.ops ∧ (hearCopy n m).1.ops.length ≤ n.ops.length + 1
   unfold hearCopy
   split
   ·exact ⟨List.prefix_refl _, by simp⟩
   ·split
    ·exact ⟨List.prefix_refl _, by simp⟩
    ·split
     ·exact ⟨List.prefix_refl _, by simp⟩
     ·exact ⟨List.prefix_append _ _, by simp⟩
  ·cases hok
 ·simp only [if_neg h1] at hok ⊢
  by_cases h3 : m.kind = 3
  ·simp only [if_pos h3] at hok ⊢
   split at hok
   ·rename_i hc
    rw [if_pos hc]
    show (m.kind = 3 → _ → (hearJoin n m).1.ops = m.ops) ∧ (_ → n.ops <+: (hearJoin n m).1.ops ∧ (hearJoin n m).1.ops.length ≤ n.ops.length + 1)
    unfold hearJoin at hc ⊢
    split at hc
    ·cases hc
    ·rename_i h4
     rw [if_neg h4]
     have hg : decide (m.term > n.term) = false := decide_eq_false (by omega)
     rw [hg, Bool.false_or]
     refine ⟨fun _ hn => by rw [if_pos (decide_eq_true hn)], fun hn => ?_⟩
     have : ¬ m.n > (n.ops.length : Int) := fun hh => hn ⟨h3, hh⟩
     rw [if_neg (by simpa using this)]
     exact ⟨List.prefix_refl _, by simp⟩
   ·cases hok
  ·simp only [if_neg h3, Bool.false_eq_true] at hok
theorem hearK_len {n : NodeM} {id : Int} {m : MsgM} (h1 : n.ops.length < 1000000) (h2 : m.ops.length < 2000000) : (hearK n id m).1.ops.length < 2000000 := by
 have hC : (hearCopy n m).1.ops.length < 2000000 := by
  unfold hearCopy
  split
  ·show n.ops.length < _; omega
  ·split
   ·show n.ops.length < _; omega
   ·split
    ·show n.ops.length < _; omega
    ·show (n.ops ++ [m.op]).length < _; simp; omega
 have hJ : (hearJoin n m).1.ops.length < 2000000 := by
  unfold hearJoin
  split
  ·show n.ops.length < _; omega
  ·split
   ·exact h2
   ·show n.ops.length < _; omega
 unfold hearK
 split
 ·split
  ·exact hC
  ·exact hC
 ·split
  ·split
   ·exact hJ
   ·exact hJ
  ·show n.ops.length < _; omega
def zNd : NodeM := ⟨false, 0, false, false, []⟩
section
variable {W : CallF} {L : LoopF} {E : EqF} {T : Prop → Bool} (h : IsK G W L E T)
include h
theorem ev_FnHearLess (cs : List Int) (hc : BytesOk cs) : W f_laws_FnHearLess [.sl .sh (cs.map byD)] [] = some (.bool true, []) := by
 obtain ⟨n, id, m, v, c, hn, hm, hv, e1⟩ := ev_DrawNodeHear h cs hc
 have e2 := ev_sNodeHear h n hn.sz id m hm
 have e3 := ev_NodeHear h n hn.sz id m hm
 have hl : ((cs.map byD).length : Nat) = cs.length := List.length_map ..
 have hml := hm.ops.1
 have hnl := hn.o.1
 have hln : ((n.ops.map opD).length : Nat) = n.ops.length := List.length_map ..
 have hv2 : ∃ u : AV, u = v ∧ ((v = .nils ∧ m.ops = []) ∨ v = .sl .sh (m.ops.map opD)) := ⟨v, rfl, hv⟩
 cases hbig : decide (((cs.map byD).length : Int) > 1048576)
 ·cases hq : nodeHear n id m with
  | none =>
   rw [hq] at e2 e3
   have e4 := ev_lgNode h zNd zNd (by decide)
   have e5 := ev_lgMsg h noMsg noMsg (by decide)
   rw [nodeEq_refl] at e4
   rw [msgEq_refl] at e5
   obtain ⟨kind, to, mt, mn, op, ops⟩ := m
   rcases hv with ⟨rfl, hz⟩ | rfl
   ·simp only at hz
    subst hz
    rw [h.call]
    repeat (conv=>lhs;whnf;arg 2;tactic=>first|exact g1|exact hbig|exact e1|exact e2|exact e3|exact e4|exact e5|exact congrArg not hbig|exact g2)
    rfl
   ·rw [h.call]
    repeat (conv=>lhs;whnf;arg 2;tactic=>first|exact g1|exact hbig|exact e1|exact e2|exact e3|exact e4|exact e5|exact congrArg not hbig|exact g2)
    rfl
  | some r =>
   have hr : r = hearK n id m := by
    unfold nodeHear at hq
    split at hq
    ·cases hq; rfl
    ·cases hq
   rw [hq, hr] at e2 e3
   have hops := hearK_ops n id m
   have hlaw := @hearK_law n id m
   have hlen := hearK_len (id := id) (show n.ops.length < 1000000 by omega) hml
   generalize hearK n id m = r at *
   obtain ⟨n', a, ok⟩ := r
   obtain ⟨ak, ato, at_, an, ao, aops⟩ := a
   simp only at hops hlaw hlen
   subst hops
   clear hr hq
   have e4 := ev_lgNode h n' n' hlen
   have e5 := ev_lgMsg h ⟨ak, ato, at_, an, ao, []⟩ ⟨ak, ato, at_, an, ao, []⟩ (by show 0 < 2000000; omega)
   rw [nodeEq_refl] at e4
   rw [msgEq_refl] at e5
   have e6 := ev_lgOps h n'.ops m.ops hlen
   have e7 := ev_lgBegins h n.ops n'.ops (by omega)
   rw [pre_begins] at e7
   obtain ⟨kind, to, mt, mn, op, ops⟩ := m
   simp only at *
   have hgt : decide (mn > ((n.ops.map opD).length : Int)) = decide (mn > (n.ops.length : Int)) := by rw [hln]
   have hln' : ((n'.ops.map opD).length : Nat) = n'.ops.length := List.length_map ..
   have both : ∀ u, (u = AV.nils ∧ ops = []) ∨ u = AV.sl .sh (ops.map opD) → W f_spec_DrawNodeHear [.sl .sh (cs.map byD)] [] = some (.tup [nodeW n 0, .int .i64 id, msgV ⟨kind, to, mt, mn, op, ops⟩ u], [oR c n.ops]) → W f_laws_FnHearLess [.sl .sh (cs.map byD)] [] = some (.bool true, []) := by
    clear e1 hv hv2
    intro u hu e1
    have hu' : (u = AV.nils ∧ ops = []) ∨ (u = AV.sl .sh (ops.map opD)) := hu
    cases ok
    ·rcases hu' with ⟨rfl, rfl⟩ | rfl
     all_goals
      rw [h.call]
      repeat (conv=>lhs;whnf;arg 2;tactic=>first|exact g1|exact hbig|exact e1|exact e2|exact e3|exact e4|exact e5|exact congrArg not hbig|exact g2)
      rfl
    ·cases ht : mt != n.term
     ·have ht' : mt = n.term := by simpa using ht
      obtain ⟨l1, l2⟩ := hlaw rfl ht'
      have short : (kind == 3) = false ∨ ((kind == 3) = true ∧ decide (mn > (n.ops.length : Int)) = false) → W f_laws_FnHearLess [.sl .sh (cs.map byD)] [] = some (.bool true, []) := by
       intro hk
       have hno : ¬ (kind = 3 ∧ mn > (n.ops.length : Int)) := by
        rintro ⟨h3, hn3⟩
        rcases hk with hk | ⟨_, hk⟩
        ·subst h3; exact absurd hk (by decide)
        ·exact absurd hn3 (of_decide_eq_false hk)
       obtain ⟨l3, l4⟩ := l2 hno
       rw [(pre_iff _ _).2 l3] at e7
       have hle : decide (((n'.ops.map opD).length : Int) ≤ IntKind.i64.wrap (((n.ops.map opD).length : Int) + 1)) = true := decide_eq_true (by
        rw [hln, hln', wrap_id (by omega) (by omega)]; omega)
       rcases hk with hk | ⟨hk, hk2⟩
       ·rcases hu' with ⟨rfl, rfl⟩ | rfl
        all_goals
         rw [h.call]
         repeat (conv=>lhs;whnf;arg 2;tactic=>first|exact g1|exact hbig|exact e1|exact e2|exact e3|exact e4|exact e5|exact ht|exact hk|exact e7|exact hle|exact congrArg not hbig|exact congrArg not ht|exact congrArg not hk|exact congrArg not hle|exact g2)
         conv => lhs; whnf
         exact congrArg (fun b => some (AV.bool b, ([] : List Obj))) hle
       ·rw [hk2] at hgt
        rcases hu' with ⟨rfl, rfl⟩ | rfl
        all_goals
         rw [h.call]
         repeat (conv=>lhs;whnf;arg 2;tactic=>first|exact g1|exact hbig|exact e1|exact e2|exact e3|exact e4|exact e5|exact ht|exact hk|exact hgt|exact e7|exact hle|exact congrArg not hbig|exact congrArg not ht|exact congrArg not hk|exact congrArg not hgt|exact congrArg not hle|exact g2)
         conv => lhs; whnf
         exact congrArg (fun b => some (AV.bool b, ([] : List Obj))) hle
      cases hk : kind == 3
      ·exact short (.inl hk)
      ·cases hk2 : decide (mn > (n.ops.length : Int))
       ·exact short (.inr ⟨hk, hk2⟩)
       ·have l3 := l1 (by simpa using hk) (of_decide_eq_true hk2)
        rw [hk2] at hgt
        rw [show opsEq n'.ops ops = true from by rw [l3]; exact opsEq_refl _] at e6
        rcases hu' with ⟨rfl, rfl⟩ | rfl
        all_goals
         rw [h.call]
         repeat (conv=>lhs;whnf;arg 2;tactic=>first|exact g1|exact hbig|exact e1|exact e2|exact e3|exact e4|exact e5|exact ht|exact hk|exact hgt|exact e6|exact congrArg not hbig|exact congrArg not ht|exact congrArg not hk|exact congrArg not hgt|exact g2)
         rfl
     ·rcases hu' with ⟨rfl, rfl⟩ | rfl
      all_goals
       rw [h.call]
       repeat (conv=>lhs;whnf;arg 2;tactic=>first|exact g1|exact hbig|exact e1|exact e2|exact e3|exact e4|exact e5|exact ht|exact congrArg not hbig|exact congrArg not ht|exact g2)
       rfl
   exact both v hv e1
 ·rw [h.call]
  repeat (conv=>lhs;whnf;arg 2;tactic=>first|exact g1|exact hbig|exact congrArg not hbig|exact g2)
  rfl
end
end Go.Gn

namespace Go.Gn
open Go
set_option linter.unusedVariables false
set_option linter.unusedSimpArgs false
set_option maxRecDepth 100000
set_option maxHeartbeats 16000000
theorem nodeAsk_off {n : NodeM} {id : Int} {o : OpM} (hn : nodeOk n = true) (hi : inR id 1 2 = true) (hb : askOk n o = false) : nodeAsk n id o = (.tup [nodeW n 0, msgZ noMsg, .bool false], [opsRow n.ops]) := by
 unfold nodeAsk askR
 simp only [hn, hi, hb, Bool.and_self, if_true, Bool.false_eq_true, if_false]
theorem nodeAsk_on {n : NodeM} {id : Int} {o : OpM} (hn : nodeOk n = true) (hi : inR id 1 2 = true) (hb : askOk n o = true) : nodeAsk n id o = (.tup [nodeW n 0, msgZ (askMsg n id o), .bool true], [opsRow (n.ops ++ [o])]) := by
 unfold nodeAsk askR
 simp only [hn, hi, hb, Bool.and_self, if_true]
theorem nodeAsk_no {n : NodeM} {id : Int} {o : OpM} (hn : (nodeOk n && inR id 1 2) = false) : nodeAsk n id o = (.tup [nodeZ, msgZ noMsg, .bool false], []) := by
 unfold nodeAsk
 simp only [hn, Bool.false_eq_true, if_false]
theorem opOk_noOp : opOk noOp = false := by decide
theorem nm4 (k : Nat) : ∃ nm : Str, nm.size ≤ 10 ∧ ([[D.str ⟨#[65]⟩], [.str ⟨#[66]⟩], [.str ⟨#[67]⟩], [.str ⟨#[68]⟩]] : List (List D))[k % 4]? = some [.str nm] := by
 have h : k % 4 = 0 ∨ k % 4 = 1 ∨ k % 4 = 2 ∨ k % 4 = 3 := by omega
 rcases h with h | h | h | h <;> rw [h]
 ·exact ⟨⟨#[65]⟩, by decide, rfl⟩
 ·exact ⟨⟨#[66]⟩, by decide, rfl⟩
 ·exact ⟨⟨#[67]⟩, by decide, rfl⟩
 ·exact ⟨⟨#[68]⟩, by decide, rfl⟩
theorem NZ.ask {n : NodeM} (h : NZ n) {o : OpM} (ho : OpS o) : OpsSz (nodeAdd n o).ops := ⟨by
 have := h.o.1
 show (n.ops ++ [o]).length < _
 simp; omega, fun x hx => by
 rcases List.mem_append.1 hx with hx | hx
 ·exact (h.o.2 x hx).sz
 ·rw [List.mem_singleton] at hx; subst hx; exact ho.sz⟩
section
variable {W : CallF} {L : LoopF} {E : EqF} {T : Prop → Bool} (h : IsK G W L E T)
include h
theorem ev_FnAskNot (cs : List Int) (hc : BytesOk cs) : W f_laws_FnAskNot [.sl .sh (cs.map byD)] [] = some (.bool true, []) := by
 obtain ⟨n, id, o, c, hn, ho, e1⟩ := ev_DrawNodeAsk h cs hc
 have e2 := ev_sNodeAsk h n hn.sz id o ho.sz
 have e3 := ev_NodeAsk h n hn.sz id o ho.sz
 have hol := hn.o.1
 have z4 := ev_lgNode h zNd zNd (by decide)
 have z5 := ev_lgMsg h noMsg noMsg (by decide)
 rw [nodeEq_refl] at z4
 rw [msgEq_refl] at z5
 have n4 := ev_lgNode h n n (by omega)
 rw [nodeEq_refl] at n4
 cases hbig : decide (((cs.map byD).length : Int) > 1048576)
 ·cases hok : nodeOk n && inR id 1 2
  ·rw [nodeAsk_no hok] at e2 e3
   rw [h.call]
   repeat (conv=>lhs;whnf;arg 2;tactic=>first|exact g1|exact hbig|exact e1|exact e2|exact e3|exact z4|exact z5|exact congrArg not hbig|exact g2)
   rfl
  ·obtain ⟨hno, hid⟩ : nodeOk n = true ∧ inR id 1 2 = true := by simpa using hok
   cases ha : askOk n o
   ·rw [nodeAsk_off hno hid ha] at e2 e3
    rw [h.call]
    repeat (conv=>lhs;whnf;arg 2;tactic=>first|exact g1|exact hbig|exact e1|exact e2|exact e3|exact n4|exact z5|exact congrArg not hbig|exact g2)
    rfl
   ·rw [nodeAsk_on hno hid ha] at e2 e3
    have e4 := ev_lgNode h (nodeAdd n o) (nodeAdd n o) (hn.ask ho).1
    have e5 := ev_lgMsg h (askMsg n id o) (askMsg n id o) (by show 0 < 2000000; omega)
    rw [nodeEq_refl] at e4
    rw [msgEq_refl] at e5
    have na : nodeOk { n with up := false } = true := hno
    have nb : nodeOk { n with leads := false, alone := false } = true := by
     unfold nodeOk at hno ⊢
     simp only [Bool.and_eq_true] at hno ⊢
     exact ⟨hno.1, rfl, hno.2.2⟩
    have ea := ev_NodeAsk h { n with up := false } hn.sz id o ho.sz
    have eb := ev_NodeAsk h { n with leads := false, alone := false } hn.sz id o ho.sz
    have ec := ev_NodeAsk h n hn.sz id noOp opS_noOp.sz
    rw [nodeAsk_off na hid (by unfold askOk; rfl)] at ea
    rw [nodeAsk_off nb hid (by unfold askOk; simp)] at eb
    rw [nodeAsk_off hno hid (by
     have : canAdd n.ops noOp = false := by
      unfold canAdd
      rw [opOk_noOp]
      split <;> rfl
     unfold askOk; rw [this]; simp)] at ec
    have e6 := ev_lgNode h { n with up := false } { n with up := false } (by show n.ops.length < _; omega)
    have e7 := ev_lgNode h { n with leads := false, alone := false } { n with leads := false, alone := false } (by show n.ops.length < _; omega)
    rw [nodeEq_refl] at e6 e7
    rw [h.call]
    repeat (conv=>lhs;whnf;arg 2;tactic=>first|exact g1|exact hbig|exact e1|exact e2|exact e3|exact e4|exact e5|exact ea|exact eb|exact ec|exact e6|exact e7|exact congrArg not hbig|exact g2)
    rfl
 ·rw [h.call]
  repeat (conv=>lhs;whnf;arg 2;tactic=>first|exact g1|exact hbig|exact congrArg not hbig|exact g2)
  rfl
end
end Go.Gn

namespace Go.Gn
open Go
set_option linter.unusedVariables false
set_option linter.unusedSimpArgs false
set_option maxRecDepth 100000
set_option maxHeartbeats 16000000
section
variable {W : CallF} {L : LoopF} {E : EqF} {T : Prop → Bool} (h : IsK G W L E T)
include h
theorem ev_FnNodeAsk (cs : List Int) (hc : BytesOk cs) : W f_laws_FnNodeAsk [.sl .sh (cs.map byD)] [] = some (.bool true, []) := by
 obtain ⟨n, id, o, c, hn, ho, e1⟩ := ev_DrawNodeAsk h cs hc
 have e2 := ev_sNodeAsk h n hn.sz id o ho.sz
 have e3 := ev_NodeAsk h n hn.sz id o ho.sz
 have eok := ev_sNodeOk h n hn.sz
 have hol := hn.o.1
 have z4 := ev_lgNode h zNd zNd (by decide)
 have z5 := ev_lgMsg h noMsg noMsg (by decide)
 rw [nodeEq_refl] at z4
 rw [msgEq_refl] at z5
 have n4 := ev_lgNode h n n (by omega)
 rw [nodeEq_refl] at n4
 cases hbig : decide (((cs.map byD).length : Int) > 1048576)
 ·cases hno : nodeOk n
  ·have hok : (nodeOk n && inR id 1 2) = false := by rw [hno]; rfl
   rw [nodeAsk_no hok] at e2 e3
   rw [hno] at eok
   rw [h.call]
   repeat (conv=>lhs;whnf;arg 2;tactic=>first|exact g1|exact hbig|exact e1|exact e2|exact e3|exact z4|exact z5|exact eok|exact congrArg not hbig|exact g2)
   rfl
  ·rw [hno] at eok
   cases hid : inR id 1 2
   ·have hok : (nodeOk n && inR id 1 2) = false := by rw [hno, hid]; rfl
    rw [nodeAsk_no hok] at e2 e3
    cases hid1 : decide (id < 1)
    ·have hid2 : decide (id > 2) = true := by
      have := of_decide_eq_false hid1
      simp only [inR, Bool.and_eq_false_iff, decide_eq_false_iff_not] at hid
      exact decide_eq_true (by omega)
     rw [h.call]
     repeat (conv=>lhs;whnf;arg 2;tactic=>first|exact g1|exact hbig|exact e1|exact e2|exact e3|exact z4|exact z5|exact eok|exact hid1|exact hid2|exact congrArg not hbig|exact congrArg not hid1|exact congrArg not hid2|exact g2)
     rfl
    ·rw [h.call]
     repeat (conv=>lhs;whnf;arg 2;tactic=>first|exact g1|exact hbig|exact e1|exact e2|exact e3|exact z4|exact z5|exact eok|exact hid1|exact congrArg not hbig|exact congrArg not hid1|exact g2)
     rfl
   ·have hid' := inR12 hid
    have hid1 : decide (id < 1) = false := decide_eq_false (by omega)
    have hid2 : decide (id > 2) = false := decide_eq_false (by omega)
    obtain ⟨q, hq⟩ := Option.isSome_iff_exists.mp (nodeOk_run hno).1
    have h20 := (nodeOk_run hno).2
    have hqo := runM_ok n.ops poolNew_ok hq
    have hqs : PoolSz q := doAllM_sz n.ops poolNew q poolNew_sz hn.sz.2 (by rw [run_eq n.ops poolNew_ok]; exact hq)
    have ep := ev_iNodePool h n hn.sz
    simp only [hno, if_true, hq] at ep
    have ed := ev_OpDo h q hqs o ho.sz
    have hcan : canAdd n.ops o = (opOk o && (!(decide ((n.ops.length : Int) ≥ 20)) && (sDo q o).2)) := by unfold canAdd; rw [hq]
    have hl : ((n.ops.map opD).length : Nat) = n.ops.length := List.length_map ..
    have hk20 : decide (((n.ops.map opD).length : Int) < 20) = !(decide ((n.ops.length : Int) ≥ 20)) := by
     rw [hl, ← decide_not]
     exact decide_eq_decide.mpr (by omega)
    have hf : ∃ f, (∃ a b s, W f_impl_OpDo [poolA q, .agg (opC o)] [] = some (.tup [a, .bool f], s) ∧ ((a = .agg [.nils, .nils] ∧ s = []) ∨ (a = .agg [.hw 0, .hw 1] ∧ s = poolV b))) ∧ canAdd n.ops o = (f && !(decide ((n.ops.length : Int) ≥ 20))) := by
     rw [hcan, ed]
     unfold opDo
     rw [if_pos hqo]
     cases hoo : opOk o
     ·rw [if_neg (by simp)]
      exact ⟨false, ⟨_, q, _, rfl, .inl ⟨rfl, rfl⟩⟩, rfl⟩
     ·rw [if_pos rfl]
      refine ⟨(poolDo q o).2, ⟨_, (poolDo q o).1, _, rfl, .inr ⟨rfl, rfl⟩⟩, ?_⟩
      rw [poolDo_eq hqo, Bool.true_and, Bool.and_comm]
    obtain ⟨f, ⟨a, b, s, ed2, has⟩, hcf⟩ := hf
    have off : askOk n o = false → W f_laws_FnNodeAsk [.sl .sh (cs.map byD)] [] = some (.bool true, []) := by
     intro ha
     rw [nodeAsk_off hno hid ha] at e2 e3
     have hcase : n.up = false ∨ (n.up = true ∧ n.leads = false) ∨ (n.up = true ∧ n.leads = true ∧ f = false) ∨ (n.up = true ∧ n.leads = true ∧ f = true ∧ decide ((n.ops.length : Int) ≥ 20) = true) := by
      unfold askOk at ha
      rw [hcf] at ha
      cases hu : n.up
      ·exact .inl rfl
      ·cases hle : n.leads
       ·exact .inr (.inl ⟨rfl, rfl⟩)
       ·rw [hu, hle] at ha
        cases f
        ·exact .inr (.inr (.inl ⟨rfl, rfl, rfl⟩))
        ·exact .inr (.inr (.inr ⟨rfl, rfl, rfl, by simpa using ha⟩))
     rcases hcase with hu | ⟨hu, hle⟩ | ⟨hu, hle, rfl⟩ | ⟨hu, hle, rfl, hg⟩
     ·rcases has with ⟨rfl, rfl⟩ | ⟨rfl, rfl⟩
      all_goals
       rw [h.call]
       repeat (conv=>lhs;whnf;arg 2;tactic=>first|exact g1|exact hbig|exact e1|exact e2|exact e3|exact n4|exact z5|exact eok|exact hid1|exact hid2|exact ep|exact ed2|exact hu|exact congrArg not hbig|exact congrArg not hid1|exact congrArg not hid2|exact congrArg not hu|exact g2)
       rfl
     ·rcases has with ⟨rfl, rfl⟩ | ⟨rfl, rfl⟩
      all_goals
       rw [h.call]
       repeat (conv=>lhs;whnf;arg 2;tactic=>first|exact g1|exact hbig|exact e1|exact e2|exact e3|exact n4|exact z5|exact eok|exact hid1|exact hid2|exact ep|exact ed2|exact hu|exact hle|exact congrArg not hbig|exact congrArg not hid1|exact congrArg not hid2|exact congrArg not hu|exact congrArg not hle|exact g2)
       rfl
     ·rcases has with ⟨rfl, rfl⟩ | ⟨rfl, rfl⟩
      all_goals
       rw [h.call]
       repeat (conv=>lhs;whnf;arg 2;tactic=>first|exact g1|exact hbig|exact e1|exact e2|exact e3|exact n4|exact z5|exact eok|exact hid1|exact hid2|exact ep|exact ed2|exact hu|exact hle|exact congrArg not hbig|exact congrArg not hid1|exact congrArg not hid2|exact congrArg not hu|exact congrArg not hle|exact g2)
       rfl
     ·rw [hg] at hk20
      have hbq : (if false = true then !(false == decide (((n.ops.map opD).length : Int) < 20)) else (false == decide (((n.ops.map opD).length : Int) < 20))) = true := by rw [hk20]; rfl
      rcases has with ⟨rfl, rfl⟩ | ⟨rfl, rfl⟩
      all_goals
       rw [h.call]
       repeat (conv=>lhs;whnf;arg 2;tactic=>first|exact g1|exact hbig|exact e1|exact e2|exact e3|exact n4|exact z5|exact eok|exact hid1|exact hid2|exact ep|exact ed2|exact hu|exact hle|exact hk20|exact hbq|exact congrArg not hbig|exact congrArg not hid1|exact congrArg not hid2|exact congrArg not hu|exact congrArg not hle|exact congrArg not hk20|exact congrArg not hbq|exact g2)
       rfl
    cases ha : askOk n o
    ·exact off ha
    ·rw [nodeAsk_on hno hid ha] at e2 e3
     have hu : n.up = true := by unfold askOk at ha; simp only [Bool.and_eq_true] at ha; exact ha.1
     have hle : n.leads = true := by unfold askOk at ha; simp only [Bool.and_eq_true] at ha; exact ha.2.1
     have hca : canAdd n.ops o = true := by unfold askOk at ha; simp only [Bool.and_eq_true] at ha; exact ha.2.2
     rw [hcf, Bool.and_eq_true, Bool.not_eq_true'] at hca
     obtain ⟨rfl, hg⟩ := hca
     rw [hg] at hk20
     have e4 := ev_lgNode h (nodeAdd n o) (nodeAdd n o) (hn.ask ho).1
     have e5 := ev_lgMsg h (askMsg n id o) (askMsg n id o) (by show 0 < 2000000; omega)
     rw [nodeEq_refl] at e4
     rw [msgEq_refl] at e5
     have hno2 := nodeOk_add hno ha
     have eok2 := ev_NodeOk h (nodeAdd n o) (hn.ask ho)
     rw [hno2] at eok2
     have hlx : (((n.ops ++ [o]).map opD).length : Nat) = n.ops.length + 1 := by simp
     have hv : view ((n.ops ++ [o]).map opD) 0 ((n.ops.map opD).length - 0) = n.ops.map opD := by
      rw [hl]
      refine (view_take opD (n.ops ++ [o]) n.ops.length).trans ?_
      simp
     have n5 := n4
     unfold nodeA at n5
     have hN : ((((n.ops ++ [o]).map opD).length : Int) == IntKind.i64.wrap (((n.ops.map opD).length : Int) + 1)) = true := by
      rw [hlx, hl, wrap_id (by omega) (by omega)]; simp
     have g1' : (n.ops ++ [o])[(n.ops.map opD).length]? = some o := by rw [hl]; simp
     have q2 := E_op h o o
     rw [opEq_refl] at q2
     have hn4 : W f_laws_lgNode [.agg [.bool n.up, .int .i64 n.term, .bool n.leads, .bool n.alone, .sl .br (view ((n.ops ++ [o]).map opD) 0 ((n.ops.map opD).length - 0))], nodeA n] [] = some (.bool true, []) := by
      rw [hv]; exact n4
     have t1 : ((3 - id : Int) == IntKind.i64.wrap (3 - id)) = true := by rw [wrap_id (by omega) (by omega)]; simp
     have t2 : (n.term == n.term) = true := by simp
     have hbq : (if false = true then !(true == decide (((n.ops.map opD).length : Int) < 20)) else (true == decide (((n.ops.map opD).length : Int) < 20))) = true := by rw [hk20]; rfl
     rcases has with ⟨rfl, rfl⟩ | ⟨rfl, rfl⟩
     all_goals
      rw [h.call]
      repeat (conv=>lhs;whnf;arg 2;tactic=>first|exact g1|exact hbig|exact e1|exact e2|exact e3|exact e4|exact e5|exact eok|exact hid1|exact hid2|exact ep|exact ed2|exact hu|exact hle|exact hk20|exact hbq|exact hn4|exact hN|exact map_get g1'|exact q2|exact t1|exact t2|exact eok2|exact gS|exact congrArg not hbig|exact congrArg not hid1|exact congrArg not hid2|exact congrArg not hu|exact congrArg not hle|exact congrArg not hk20|exact congrArg not hbq|exact congrArg not hn4|exact congrArg not hN|exact congrArg not q2|exact congrArg not t1|exact congrArg not t2|exact g2)
      rfl
 ·rw [h.call]
  repeat (conv=>lhs;whnf;arg 2;tactic=>first|exact g1|exact hbig|exact congrArg not hbig|exact g2)
  rfl
end
end Go.Gn

