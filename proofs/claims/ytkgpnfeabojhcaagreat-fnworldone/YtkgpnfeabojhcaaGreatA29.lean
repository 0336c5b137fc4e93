/- Part 29 of a proof: an evaluator of the program, proved sound, and what it answers. -/
import Derived.Test.YtkgpnfeabojhcaaGreatA19
import Derived.Test.YtkgpnfeabojhcaaGreatA21
import Derived.Test.YtkgpnfeabojhcaaGreatA28
set_option linter.all false
namespace Go.Gn
open Go
section
variable {W : CallF} {L : LoopF} {E : EqF} {T : Prop → Bool} (h : IsK G W L E T)
include h
theorem ev_lgWorld (w : WorldM) (hw : WL w) : W f_laws_lgWorld [worldA w, worldA w] [] = some (.bool true, []) := ev_lgWorld' h w hw.o1.1 hw.o2.1 (by have := hw.nl; omega) (fun m hm => (hw.nets m hm).2.1) hw.done.1
end
end Go.Gn

namespace Go.Gn
open Go
structure TrueP (n o : NodeM) (term lead : Int) (done : List OpM) (m : MsgM) : Prop where
 le : m.term ≤ term
 old : m.term < term → (m.kind = 2 ∨ m.kind = 4) → m.to = 3 - lead → o.leads = true → o.term = m.term → m.n ≤ (o.ops.length : Int) ∧ o.ops.take m.n.toNat <+: done
 has : m.term = term → (m.kind = 2 ∨ m.kind = 4) → m.to = lead ∧ o.term = term ∧ m.n ≤ (o.ops.length : Int)
 copy : m.term = term → m.kind = 1 → m.to = 3 - lead ∧ m.n ≤ (n.ops.length : Int) ∧ hasOp n.ops m.n m.op = true
 join : m.term = term → ¬ (m.kind = 2 ∨ m.kind = 4) → m.kind ≠ 1 → m.to = 3 - lead ∧ m.ops <+: n.ops
theorem hasK_iff (m : MsgM) : hasK m = true ↔ (m.kind = 2 ∨ m.kind = 4) := by simp [hasK]
theorem true_iff (n o : NodeM) (term lead : Int) (done : List OpM) (m : MsgM) : trueM n o term lead done m = true ↔ TrueP n o term lead done m := by
 have hk := hasK_iff m
 unfold trueM
 by_cases h1 : m.term > term
 ·simp only [h1, decide_true, cond_true, Bool.false_eq_true, false_iff]
  intro h; have := h.le; omega
 ·simp only [h1, decide_false, cond_false]
  by_cases h2 : m.term < term
  ·simp only [h2, decide_true, Bool.true_and, cond_true]
   cases hc : hasK m && ((m.to == 3 - lead) && (o.leads && (o.term == m.term)))
   ·rw [cond_false]
    refine ⟨fun _ => ⟨by omega, fun _ a b c d => ?_, fun e => by omega, fun e => by omega, fun e => by omega⟩, fun _ => rfl⟩
    have : (hasK m && ((m.to == 3 - lead) && (o.leads && (o.term == m.term)))) = true := by
     rw [hk.2 a, b, c, d]; simp
    rw [this] at hc; cases hc
   ·simp only [cond_true, Bool.and_eq_true, decide_eq_true_eq, pre_iff]
    simp only [Bool.and_eq_true, beq_iff_eq] at hc
    constructor
    ·intro h
     exact ⟨by omega, fun _ _ _ _ _ => h, fun e => by omega, fun e => by omega, fun e => by omega⟩
    ·intro h
     exact h.old h2 (hk.1 hc.1) hc.2.1 hc.2.2.1 hc.2.2.2
  ·have h3 : m.term = term := by omega
   simp only [h2, decide_false, Bool.false_and, cond_false]
   cases hh : hasK m
   ·have hn : ¬ (m.kind = 2 ∨ m.kind = 4) := fun e => by rw [hk.2 e] at hh; cases hh
    simp only [cond_false]
    by_cases h4 : m.kind = 1
    ·simp only [h4, beq_self_eq_true, cond_true, Bool.and_eq_true, beq_iff_eq, decide_eq_true_eq]
     constructor
     ·intro h
      exact ⟨by omega, fun e => by omega, fun _ e => absurd e hn, fun _ _ => h, fun _ _ e => absurd h4 e⟩
     ·intro h; exact h.copy h3 h4
    ·have h5 : (m.kind == 1) = false := by simp [h4]
     simp only [h5, cond_false, Bool.and_eq_true, beq_iff_eq, pre_iff]
     constructor
     ·intro h
      exact ⟨by omega, fun e => by omega, fun _ e => absurd e hn, fun _ e => absurd e h4, fun _ _ _ => h⟩
     ·intro h; exact h.join h3 hn h4
   ·have hy := hk.1 hh
    simp only [cond_true, Bool.and_eq_true, beq_iff_eq, decide_eq_true_eq]
    constructor
    ·intro h
     exact ⟨by omega, fun e => by omega, fun _ _ => h, fun _ e => by omega, fun _ e => absurd hy e⟩
    ·intro h; exact h.has h3 hy
structure RightP (n o : NodeM) (term : Int) (both : Bool) (done : List OpM) : Prop where
 nt : n.term = term
 nl : n.leads = true
 na : n.alone = !both
 ot : o.term ≤ term
 oa : o.alone = false
 b : both = true → o.term = term
 p : o.term = term → o.leads = false ∧ o.ops <+: n.ops
 d : done <+: n.ops
 bd : both = true → done <+: o.ops
 ad : n.alone = true → done.length = n.ops.length
theorem right_iff (n o : NodeM) (term : Int) (both : Bool) (done : List OpM) : rightM n o term both done = true ↔ RightP n o term both done := by
 unfold rightM
 simp only [Bool.and_eq_true, Bool.not_eq_true', bne_eq_false_iff_eq, beq_eq_false_iff_ne, ne_eq, decide_eq_false_iff_not, Bool.and_eq_false_iff, Bool.or_eq_false_iff, Bool.not_eq_false', pre_iff]
 constructor
 ·rintro ⟨h1, h2, h3, h4, h5, h6, h7, h8, h9, h10⟩
  refine ⟨h1, h2, by revert h3; cases n.alone <;> cases both <;> simp, by omega, h5, fun hb => ?_, fun he => ?_, h8, fun hb => ?_, fun ha => ?_⟩
  ·rcases h6 with h6 | h6
   ·rw [hb] at h6; cases h6
   ·exact h6
  ·rcases h7 with h7 | h7
   ·exact absurd he h7
   ·exact h7
  ·rcases h9 with h9 | h9
   ·rw [hb] at h9; cases h9
   ·exact h9
  ·rcases h10 with h10 | h10
   ·rw [ha] at h10; cases h10
   ·omega
 ·intro h
  refine ⟨h.nt, h.nl, by rw [h.na]; cases both <;> simp, by have := h.ot; omega, h.oa, ?_, ?_, h.d, ?_, ?_⟩
  ·cases hb : both
   ·exact .inl rfl
   ·exact .inr (h.b hb)
  ·by_cases he : o.term = term
   ·exact .inr (h.p he)
   ·exact .inl he
  ·cases hb : both
   ·exact .inl rfl
   ·exact .inr (h.bd hb)
  ·cases ha : n.alone
   ·exact .inl rfl
   ·exact .inr (by have := h.ad ha; omega)
structure WInv (w : WorldM) : Prop where
 lead : w.lead = 1 ∨ w.lead = 2
 nl : w.nets.length ≤ 12
 k1 : nodeOk w.n1 = true
 k2 : nodeOk w.n2 = true
 r : RightP (w.nd w.lead) (w.nd (3 - w.lead)) w.term w.both w.done
 ms : ∀ m ∈ w.nets, msgOk m = true ∧ TrueP (w.nd w.lead) (w.nd (3 - w.lead)) w.term w.lead w.done m
theorem winv_iff {w : WorldM} (hl : w.lead = 1 ∨ w.lead = 2) : worldOkM w = true ↔ WInv w := by
 unfold worldOkM letterM
 simp only [Bool.and_eq_true, Bool.not_eq_true', decide_eq_false_iff_not, right_iff, List.all_eq_true, true_iff]
 constructor
 ·rintro ⟨h1, h2, h3, h4, h5⟩
  exact ⟨hl, by omega, h2, h3, h4, h5⟩
 ·intro h
  exact ⟨by have := h.nl; omega, h.k1, h.k2, h.r, h.ms⟩
theorem WInv.kd {w : WorldM} (h : WInv w) (id : Int) : nodeOk (w.nd id) = true := by
 unfold WorldM.nd
 split
 ·exact h.k1
 ·exact h.k2
theorem nd_set_same {w : WorldM} {id : Int} {n : NodeM} (hid : id = 1 ∨ id = 2) : (w.setN id n).nd id = n := by
 rcases hid with rfl | rfl <;> rfl
theorem nd_set_other {w : WorldM} {id : Int} {n : NodeM} (hid : id = 1 ∨ id = 2) : (w.setN id n).nd (3 - id) = w.nd (3 - id) := by
 rcases hid with rfl | rfl <;> rfl
theorem setN_other {w : WorldM} {id : Int} {n : NodeM} : (w.setN id n).term = w.term ∧ (w.setN id n).lead = w.lead ∧ (w.setN id n).both = w.both ∧ (w.setN id n).nets = w.nets ∧ (w.setN id n).done = w.done := by
 unfold WorldM.setN; split <;> exact ⟨rfl, rfl, rfl, rfl, rfl⟩
theorem nodeOk_set {w : WorldM} (h1 : nodeOk w.n1 = true) (h2 : nodeOk w.n2 = true) {id : Int} {n : NodeM} (hn : nodeOk n = true) : nodeOk (w.setN id n).n1 = true ∧ nodeOk (w.setN id n).n2 = true := by
 unfold WorldM.setN; split <;> exact ⟨by assumption, by assumption⟩
end Go.Gn

namespace Go.Gn
open Go
theorem hasOp_pre {a b : List OpM} (h : a <+: b) {k : Int} {o : OpM} (hh : hasOp a k o = true) : hasOp b k o = true := by
 unfold hasOp at hh ⊢
 obtain ⟨c, rfl⟩ := h
 cases ha : a[(k - 1).toNat]? with
 | none => rw [ha] at hh; cases hh
 | some x =>
  rw [ha] at hh
  have hl := (List.getElem?_eq_some_iff.1 ha).1
  rw [List.getElem?_append_left hl, ha]
  exact hh
theorem TrueP.grow {n n' o : NodeM} {term lead : Int} {done done' : List OpM} {m : MsgM} (h : TrueP n o term lead done m) (hn : n.ops <+: n'.ops) (hd : done <+: done') : TrueP n' o term lead done' m :=
 ⟨h.le, fun a b c d e => let ⟨p, q⟩ := h.old a b c d e; ⟨p, q.trans hd⟩, h.has, fun a b => let ⟨p, q, r⟩ := h.copy a b; ⟨p, by have := hn.length_le; omega, hasOp_pre hn r⟩, fun a b c => let ⟨p, q⟩ := h.join a b c; ⟨p, q.trans hn⟩⟩
theorem take_pre {a b : List OpM} (h : a <+: b) {k : Nat} (hk : k ≤ a.length) : b.take k = a.take k := by
 obtain ⟨c, rfl⟩ := h
 rw [List.take_append_of_le_length hk]
theorem TrueP.other {n o o' : NodeM} {term lead : Int} {done : List OpM} {m : MsgM} (h : TrueP n o term lead done m) (hA : o.term = term → o'.term = term ∧ o.ops.length ≤ o'.ops.length) (hB : o'.leads = true → o.leads = true ∧ o'.term = o.term ∧ o.ops <+: o'.ops) : TrueP n o' term lead done m :=
 ⟨h.le, fun a b c d e => by
  obtain ⟨b1, b2, b3⟩ := hB d
  obtain ⟨p, q⟩ := h.old a b c b1 (by rw [← b2]; exact e)
  refine ⟨by have := b3.length_le; omega, ?_⟩
  rw [take_pre b3 (by omega)]
  exact q, fun a b => by
  obtain ⟨p, q, r⟩ := h.has a b
  obtain ⟨s, t⟩ := hA q
  exact ⟨p, s, by omega⟩, h.copy, h.join⟩
theorem winv_send {w : WorldM} {m : MsgM} (h : WInv w) (hm : msgOk m = true) (ht : TrueP (w.nd w.lead) (w.nd (3 - w.lead)) w.term w.lead w.done m) : WInv (sendM w m) := by
 unfold sendM
 split
 ·rename_i hc
  have hc' := of_decide_eq_true hc
  exact ⟨h.lead, by simp; omega, h.k1, h.k2, h.r, fun x hx => by
   rcases List.mem_append.1 hx with hx | hx
   ·exact h.ms x hx
   ·rw [List.mem_singleton] at hx; subst hx; exact ⟨hm, ht⟩⟩
 ·exact h
theorem areOps_G {os : List OpM} (h : OpsG os) : areOps os = true := by
 rw [areOps_run, h.run, Bool.true_and, decide_eq_true_eq]
 have := h.l; omega
theorem nodeOk_iff {n : NodeM} : nodeOk n = true ↔ (0 ≤ n.term ∧ n.term ≤ 99) ∧ (n.leads = true ∨ n.alone = false) ∧ OpsG n.ops := by
 unfold nodeOk
 rw [areOps_run]
 simp only [inR, Bool.and_eq_true, Bool.or_eq_true, Bool.not_eq_true', decide_eq_true_eq]
 constructor
 ·rintro ⟨h1, h2, h3, h4⟩; exact ⟨h1, h2, h3, by omega⟩
 ·rintro ⟨h1, h2, h3⟩; exact ⟨h1, h2, h3.run, by have := h3.l; omega⟩
theorem len0 {os : List OpM} (h : ((os.length : Int) == 0) = true) : os = [] := List.eq_nil_of_length_eq_zero (by simpa using h)
theorem inR_iff {a l h : Int} : inR a l h = true ↔ l ≤ a ∧ a ≤ h := by simp [inR]
theorem set_lead {w : WorldM} (hl : w.lead = 1 ∨ w.lead = 2) (n : NodeM) : (w.setN w.lead n).nd (w.setN w.lead n).lead = n ∧ (w.setN w.lead n).nd (3 - (w.setN w.lead n).lead) = w.nd (3 - w.lead) := by
 have e : (w.setN w.lead n).lead = w.lead := setN_other.2.1
 rw [e]
 exact ⟨nd_set_same hl, nd_set_other hl⟩
theorem set_other {w : WorldM} (hl : w.lead = 1 ∨ w.lead = 2) (n : NodeM) : (w.setN (3 - w.lead) n).nd (w.setN (3 - w.lead) n).lead = w.nd w.lead ∧ (w.setN (3 - w.lead) n).nd (3 - (w.setN (3 - w.lead) n).lead) = n := by
 have e : (w.setN (3 - w.lead) n).lead = w.lead := setN_other.2.1
 rw [e]
 have h3 : 3 - w.lead = 1 ∨ 3 - w.lead = 2 := by omega
 refine ⟨?_, nd_set_same h3⟩
 have := nd_set_other (w := w) (n := n) h3
 rw [show 3 - (3 - w.lead) = w.lead by omega] at this
 exact this
theorem winv_lead {w : WorldM} (h : WInv w) {n' : NodeM} {done' : List OpM} (hn : nodeOk n' = true) (hp : (w.nd w.lead).ops <+: n'.ops) (hd : w.done <+: done') (hr : RightP n' (w.nd (3 - w.lead)) w.term w.both done') : WInv { w.setN w.lead n' with done := done' } := by
 obtain ⟨s1, s2⟩ := set_lead h.lead n'
 obtain ⟨t1, t2, t3, t4, t5⟩ := setN_other (w := w) (id := w.lead) (n := n')
 obtain ⟨k1, k2⟩ := nodeOk_set h.k1 h.k2 (id := w.lead) hn
 refine ⟨by show (w.setN w.lead n').lead = 1 ∨ _; rw [t2]; exact h.lead, by show (w.setN w.lead n').nets.length ≤ 12; rw [t4]; exact h.nl, k1, k2, ?_, ?_⟩
 ·show RightP ((w.setN w.lead n').nd (w.setN w.lead n').lead) ((w.setN w.lead n').nd (3 - (w.setN w.lead n').lead)) (w.setN w.lead n').term (w.setN w.lead n').both done'
  rw [s1, s2, t1, t3]; exact hr
 ·intro m hm
  have hm' : m ∈ w.nets := by rw [← t4]; exact hm
  obtain ⟨m1, m2⟩ := h.ms m hm'
  refine ⟨m1, ?_⟩
  show TrueP ((w.setN w.lead n').nd (w.setN w.lead n').lead) ((w.setN w.lead n').nd (3 - (w.setN w.lead n').lead)) (w.setN w.lead n').term (w.setN w.lead n').lead done' m
  rw [s1, s2, t1, t2]; exact m2.grow hp hd
theorem winv_other {w : WorldM} (h : WInv w) {o' : NodeM} (hn : nodeOk o' = true) (hA : (w.nd (3 - w.lead)).term = w.term → o'.term = w.term ∧ (w.nd (3 - w.lead)).ops.length ≤ o'.ops.length) (hB : o'.leads = true → (w.nd (3 - w.lead)).leads = true ∧ o'.term = (w.nd (3 - w.lead)).term ∧ (w.nd (3 - w.lead)).ops <+: o'.ops)
  (hr : RightP (w.nd w.lead) o' w.term w.both w.done) : WInv (w.setN (3 - w.lead) o') := by
 obtain ⟨s1, s2⟩ := set_other h.lead o'
 obtain ⟨t1, t2, t3, t4, t5⟩ := setN_other (w := w) (id := 3 - w.lead) (n := o')
 obtain ⟨k1, k2⟩ := nodeOk_set h.k1 h.k2 (id := 3 - w.lead) hn
 refine ⟨by rw [t2]; exact h.lead, by rw [t4]; exact h.nl, k1, k2, ?_, ?_⟩
 ·rw [s1, s2, t1, t3, t5]; exact hr
 ·intro m hm
  rw [t4] at hm
  obtain ⟨m1, m2⟩ := h.ms m hm
  refine ⟨m1, ?_⟩
  rw [s1, s2, t1, t2, t5]; exact m2.other hA hB
theorem askMsg_ok {n : NodeM} {id : Int} {o : OpM} (hid : id = 1 ∨ id = 2) (hn : nodeOk n = true) (ha : askOk n o = true) : msgOk (askMsg n id o) = true := by
 obtain ⟨h1, h2⟩ := askOk_G ha
 have ht := (nodeOk_iff.1 hn).1
 have hl := h2.l
 have hlen : ((((n.ops ++ [o]).map opD).length : Nat) : Int) = (n.ops.length : Int) + 1 := by simp
 unfold msgOk askMsg
 simp only [hlen]
 simp only [inR, Bool.and_eq_true, decide_eq_true_eq, if_true, List.length_nil]
 simp at hl
 refine ⟨by omega, by omega, by omega, h1, by omega, by simp⟩
theorem winv_ask {w : WorldM} (h : WInv w) {id : Int} (hid : id = 1 ∨ id = 2) (op : OpM) : WInv (askM w id op) := by
 unfold askM
 split
 ·rename_i ha
  obtain ⟨g1', g2'⟩ := askOk_G ha
  have hk := h.kd id
  have hko := nodeOk_add hk ha
  have hmo := askMsg_ok hid hk ha
  have hl := h.lead
  have hr := h.r
  by_cases hi : id = w.lead
  ·subst hi
   have key : ∀ w2 : WorldM, WInv w2 → w2.nd w2.lead = nodeAdd (w.nd w.lead) op → w2.lead = w.lead → w2.term = w.term → WInv (sendM w2 (askMsg (w.nd w.lead) w.lead op)) := by
    intro w2 i2 e1 e2 e3
    refine winv_send i2 hmo ?_
    rw [e1, e2, e3]
    have hlen : ((((w.nd w.lead).ops ++ [op]).map opD).length : Nat) = (w.nd w.lead).ops.length + 1 := by simp
    refine ⟨by show (w.nd w.lead).term ≤ w.term; rw [hr.nt]; omega, fun e => ?_, fun _ e => ?_, fun _ _ => ⟨rfl, ?_, ?_⟩, fun _ _ e => absurd rfl e⟩
    ·have : (w.nd w.lead).term < w.term := e
     rw [hr.nt] at this; omega
    ·rcases e with e | e <;> cases e
    ·show (((((w.nd w.lead).ops ++ [op]).map opD).length : Nat) : Int) ≤ (((w.nd w.lead).ops ++ [op]).length : Nat)
     rw [hlen]; simp
    ·show hasOp ((w.nd w.lead).ops ++ [op]) (((((w.nd w.lead).ops ++ [op]).map opD).length : Nat) : Int) op = true
     unfold hasOp
     rw [hlen, show ((((w.nd w.lead).ops.length + 1 : Nat) : Int) - 1).toNat = (w.nd w.lead).ops.length by omega]
     simp [opEq_eq]
   obtain ⟨s1, s2⟩ := set_lead hl (nodeAdd (w.nd w.lead) op)
   obtain ⟨t1, t2, t3, t4, t5⟩ := setN_other (w := w) (id := w.lead) (n := nodeAdd (w.nd w.lead) op)
   cases hal : (w.nd w.lead).alone
   ·simp only [Bool.false_eq_true, if_false]
    have i2 := winv_lead h (n' := nodeAdd (w.nd w.lead) op) (done' := w.done) hko (List.prefix_append _ _) (List.prefix_refl _) ⟨hr.nt, hr.nl, hr.na, hr.ot, hr.oa, hr.b, fun e => ⟨(hr.p e).1, (hr.p e).2.trans (List.prefix_append _ _)⟩, hr.d.trans (List.prefix_append _ _), hr.bd, fun e => by
     have e' : (w.nd w.lead).alone = true := e
     rw [hal] at e'; cases e'⟩
    have ew : { w.setN w.lead (nodeAdd (w.nd w.lead) op) with done := w.done } = w.setN w.lead (nodeAdd (w.nd w.lead) op) := by
     unfold WorldM.setN; split <;> rfl
    rw [ew] at i2
    exact key _ i2 s1 t2 t1
   ·simp only [if_true]
    have hd := hr.ad hal
    have hdone : doneM (w.setN w.lead (nodeAdd (w.nd w.lead) op)) ((w.nd w.lead).ops ++ [op]) (((w.nd w.lead).ops ++ [op]).length : Nat) = { w.setN w.lead (nodeAdd (w.nd w.lead) op) with done := (w.nd w.lead).ops ++ [op] } := by
     unfold doneM
     rw [t5, if_pos (by simp; omega), Int.toNat_natCast, List.take_length]
    rw [hdone]
    have hboth : w.both = false := by
     have := hr.na
     rw [hal] at this
     cases hb : w.both
     ·rfl
     ·rw [hb] at this; cases this
    have hde : w.done = (w.nd w.lead).ops := hr.d.eq_of_length hd
    have i2 := winv_lead h (n' := nodeAdd (w.nd w.lead) op) (done' := (w.nd w.lead).ops ++ [op]) hko (List.prefix_append _ _) (by rw [hde]; exact List.prefix_append _ _) ⟨hr.nt, hr.nl, hr.na, hr.ot, hr.oa, hr.b, fun e => ⟨(hr.p e).1, (hr.p e).2.trans (List.prefix_append _ _)⟩, List.prefix_refl _, (fun e => by rw [hboth] at e; cases e), fun _ => rfl⟩
    exact key _ i2 s1 t2 t1
  ·
   have hi2 : id = 3 - w.lead := by omega
   subst hi2
   have hle : (w.nd (3 - w.lead)).leads = true := by
    unfold askOk at ha; simp only [Bool.and_eq_true] at ha; exact ha.2.1
   have hnt : (w.nd (3 - w.lead)).term ≠ w.term := fun e => by
    have := (hr.p e).1
    rw [hle] at this; cases this
   rw [hr.oa]
   simp only [Bool.false_eq_true, if_false]
   have i2 := winv_other h (o' := nodeAdd (w.nd (3 - w.lead)) op) hko (fun e => absurd e hnt) (fun _ => ⟨hle, rfl, List.prefix_append _ _⟩) ⟨hr.nt, hr.nl, hr.na, hr.ot, hr.oa, hr.b, fun e => absurd e hnt, hr.d, fun e => absurd (hr.b e) hnt, hr.ad⟩
   refine winv_send i2 hmo ?_
   obtain ⟨s1, s2⟩ := set_other hl (nodeAdd (w.nd (3 - w.lead)) op)
   obtain ⟨t1, t2, t3, t4, t5⟩ := setN_other (w := w) (id := 3 - w.lead) (n := nodeAdd (w.nd (3 - w.lead)) op)
   rw [s1, s2, t1, t2, t5]
   have hlt : (w.nd (3 - w.lead)).term < w.term := by have := hr.ot; omega
   exact ⟨by show (w.nd (3 - w.lead)).term ≤ w.term; omega, (fun _ e => by rcases e with e | e <;> cases e), fun e => absurd e hnt, fun e => absurd e hnt, fun e => absurd e hnt⟩
 ·exact h
end Go.Gn

namespace Go.Gn
open Go
theorem mkDone_eq (w : WorldM) (os : List OpM) (k : Int) : doneM w os k = { w with done := if decide (k > (w.done.length : Int)) && decide (k ≤ (os.length : Int)) then os.take k.toNat else w.done } := by
 unfold doneM
 split <;> rfl
theorem winv_done {w : WorldM} (h : WInv w) {d : List OpM} (hd : w.done <+: d) (hr : RightP (w.nd w.lead) (w.nd (3 - w.lead)) w.term w.both d) : WInv { w with done := d } :=
 ⟨h.lead, h.nl, h.k1, h.k2, hr, fun m hm => ⟨(h.ms m hm).1, (h.ms m hm).2.grow (List.prefix_refl _) hd⟩⟩
theorem pre_len {a b c : List OpM} (h1 : a <+: c) (h2 : b <+: c) (h : a.length ≤ b.length) : a <+: b := List.prefix_of_prefix_length_le h1 h2 h
theorem winv_answer {w : WorldM} (h : WInv w) {k N : Int} (hk : k = 2 ∨ k = 4) (h0 : 0 ≤ N) (hN : N ≤ ((w.nd (3 - w.lead)).ops.length : Int)) : WInv (sendM w ⟨k, 3 - (3 - w.lead), (w.nd (3 - w.lead)).term, N, noOp, []⟩) := by
 have hl := h.lead
 have hr := h.r
 have hko := nodeOk_iff.1 (h.kd (3 - w.lead))
 have h20 := hko.2.2.l
 refine winv_send h ?_ ⟨hr.ot, fun e _ e2 => ?_, fun e _ => ⟨by show 3 - (3 - w.lead) = w.lead; omega, e, hN⟩, fun _ e => ?_, fun _ e => absurd hk e⟩
 ·unfold msgOk
  rcases hk with rfl | rfl
  all_goals
   simp only [inR, Bool.and_eq_true, decide_eq_true_eq, Int.reduceEq, if_false, or_true, true_or, if_true, List.length_nil]
   refine ⟨by omega, by omega, by omega, by rw [opEq_eq]; simp, by simp⟩
 ·have : 3 - (3 - w.lead) = 3 - w.lead := e2
  omega
 ·have : k = 1 := e
  omega
theorem winv_bring {w : WorldM} (h : WInv w) {m : MsgM} (hm : msgOk m = true) (ht : TrueP (w.nd w.lead) (w.nd (3 - w.lead)) w.term w.lead w.done m) : WInv (bringM w m) := by
 have hl := h.lead
 have hr := h.r
 have hto : m.to = 1 ∨ m.to = 2 := by
  unfold msgOk at hm
  simp only [Bool.and_eq_true, inR_iff] at hm
  omega
 have hkm := h.kd m.to
 have hn0 : (0 ≤ m.n ∧ m.n ≤ 20) ∧ (0 ≤ m.term ∧ m.term ≤ 99) := by
  unfold msgOk at hm
  simp only [Bool.and_eq_true, inR_iff] at hm
  exact ⟨hm.2.2.1, hm.2.1⟩
 unfold bringM
 split
 ·rename_i hup
  split
  ·rename_i hk
   split
   ·rename_i hok
    have notlead : ¬ ((w.nd w.lead).leads = false) := by rw [hr.nl]; simp
    rcases hk with hk | hk
    ·
     unfold hearK at hok ⊢
     simp only [if_pos hk] at hok ⊢
     split at hok
     ·rename_i hc
      rw [if_pos hc]
      have hcop := hc
      unfold hearCopy at hcop
      split at hcop
      ·cases hcop
      ·rename_i h1
       simp only [Bool.or_eq_true, bne_iff_ne, ne_eq, not_or, Decidable.not_not, Bool.not_eq_true] at h1
       have hi2 : m.to = 3 - w.lead := by
        have : m.to ≠ w.lead := fun e => by rw [e, hr.nl] at h1; cases h1.2
        omega
       rw [hi2] at h1 hcop ⊢
       split at hcop
       ·rename_i h2
        have hsame : (hearCopy (w.nd (3 - w.lead)) m).1 = w.nd (3 - w.lead) := by
         unfold hearCopy
         rw [if_neg (by simp [h1.1, h1.2]), if_pos h2]
        rw [hsame]
        have hset : w.setN (3 - w.lead) (w.nd (3 - w.lead)) = w := by
         rcases hl with e | e <;> rw [e] <;> rfl
        rw [hset]
        exact winv_answer h (.inl rfl) hn0.1.1 (of_decide_eq_true h2)
       ·rename_i h2
        split at hcop
        ·cases hcop
        ·rename_i h3
         have hnew : (hearCopy (w.nd (3 - w.lead)) m).1 = nodeAdd (w.nd (3 - w.lead)) m.op := by
          unfold hearCopy
          rw [if_neg (by simp [h1.1, h1.2]), if_neg h2, if_neg h3]
          rfl
         rw [hnew]
         simp only [Bool.or_eq_true, bne_iff_ne, ne_eq, not_or, Decidable.not_not, Bool.not_eq_true', Bool.not_eq_false] at h3
         have hko := nodeOk_iff.1 (h.kd (3 - w.lead))
         rw [canTake_eq hko.2.2.l hko.2.2.run] at h3
         obtain ⟨a1, a2⟩ := canAdd_G h3.2
         have hno : nodeOk (nodeAdd (w.nd (3 - w.lead)) m.op) = true := nodeOk_iff.2 ⟨hko.1, .inr hr.oa, a2⟩
         have hpn : (w.nd (3 - w.lead)).term = w.term → (w.nd (3 - w.lead)).ops ++ [m.op] <+: (w.nd w.lead).ops := by
          intro e
          obtain ⟨c1, c2, c3⟩ := ht.copy (by rw [h1.1]; exact e) hk
          obtain ⟨c, hcc⟩ := (hr.p e).2
          unfold hasOp at c3
          rw [← hcc, show (m.n - 1).toNat = (w.nd (3 - w.lead)).ops.length by omega] at c3
          cases c with
          | nil => simp at c3
          | cons x c =>
           simp [opEq_eq] at c3
           rw [← hcc, ← c3]
           exact ⟨c, by simp⟩
         have i2 := winv_other h (o' := nodeAdd (w.nd (3 - w.lead)) m.op) hno (fun e => ⟨e, by show _ ≤ ((w.nd (3 - w.lead)).ops ++ [m.op]).length; simp⟩) (fun e => ⟨e, rfl, List.prefix_append _ _⟩) ⟨hr.nt, hr.nl, hr.na, hr.ot, hr.oa, hr.b, fun e => ⟨(hr.p e).1, hpn e⟩, hr.d, fun e => (hr.bd e).trans (List.prefix_append _ _), hr.ad⟩
         obtain ⟨s1, s2⟩ := set_other hl (nodeAdd (w.nd (3 - w.lead)) m.op)
         obtain ⟨t1, t2, t3, t4, t5⟩ := setN_other (w := w) (id := 3 - w.lead) (n := nodeAdd (w.nd (3 - w.lead)) m.op)
         have i3 := winv_answer i2 (k := 2) (N := m.n) (.inl rfl) hn0.1.1 (by
          rw [s2]
          show m.n ≤ (((w.nd (3 - w.lead)).ops ++ [m.op]).length : Nat)
          simp; omega)
         rw [s2, t2] at i3
         exact i3
     ·cases hok
    ·
     have hk1 : ¬ m.kind = 1 := by omega
     unfold hearK at hok ⊢
     simp only [if_neg hk1, if_pos hk] at hok ⊢
     split at hok
     ·rename_i hc
      rw [if_pos hc]
      have hcj := hc
      unfold hearJoin at hcj
      split at hcj
      ·cases hcj
      ·rename_i h1
       simp only [Bool.or_eq_true, decide_eq_true_eq, Bool.and_eq_true, beq_iff_eq, not_or, not_and, Bool.not_eq_true] at h1
       have hi2 : m.to = 3 - w.lead := by
        have : m.to ≠ w.lead := fun e => by
         rw [e, hr.nt, hr.nl] at h1
         have := ht.le
         have := h1.2 (by omega)
         cases this
        omega
       rw [hi2] at h1 ⊢
       have hko := nodeOk_iff.1 (h.kd (3 - w.lead))
       have hmk : opEq m.op noOp = true ∧ (m.ops.length : Int) = m.n ∧ areOps m.ops = true := by
        unfold msgOk at hm
        simp only [Bool.and_eq_true] at hm
        have := hm.2.2.2
        rw [if_neg hk1, if_neg (by omega), if_pos hk] at this
        simp only [Bool.and_eq_true, beq_iff_eq] at this
        exact this
       have hmg : OpsG m.ops := by
        have := hmk.2.2
        rw [areOps_run, Bool.and_eq_true, decide_eq_true_eq] at this
        exact ⟨this.1, by omega⟩
       by_cases had : (decide (m.term > (w.nd (3 - w.lead)).term) || decide (m.n > ((w.nd (3 - w.lead)).ops.length : Int))) = true
       ·have hnew : (hearJoin (w.nd (3 - w.lead)) m).1 = ⟨(w.nd (3 - w.lead)).up, m.term, false, false, m.ops⟩ := by
         unfold hearJoin
         rw [if_neg (by simp; exact ⟨by omega, h1.2⟩), if_pos had]
        rw [hnew]
        simp only [Bool.or_eq_true, decide_eq_true_eq] at had
        have hno : nodeOk ⟨(w.nd (3 - w.lead)).up, m.term, false, false, m.ops⟩ = true := nodeOk_iff.2 ⟨hn0.2, .inr rfl, hmg⟩
        have hle := ht.le
        have hj : m.term = w.term → m.ops <+: (w.nd w.lead).ops := fun e => (ht.join e (by omega) hk1).2
        have i2 := winv_other h (o' := ⟨(w.nd (3 - w.lead)).up, m.term, false, false, m.ops⟩) hno (fun e => ⟨by show m.term = w.term; omega, by show _ ≤ m.ops.length; omega⟩) (fun e => by cases e) ⟨hr.nt, hr.nl, hr.na, hle, rfl, fun e => by have := hr.b e; show m.term = w.term; omega, fun e => ⟨rfl, hj e⟩, hr.d, fun e => by
         have hb := hr.b e
         have hd := (hr.bd e).length_le
         exact pre_len hr.d (hj (by omega)) (by show w.done.length ≤ m.ops.length; omega), hr.ad⟩
        obtain ⟨s1, s2⟩ := set_other hl ⟨(w.nd (3 - w.lead)).up, m.term, false, false, m.ops⟩
        obtain ⟨t1, t2, t3, t4, t5⟩ := setN_other (w := w) (id := 3 - w.lead) (n := ⟨(w.nd (3 - w.lead)).up, m.term, false, false, m.ops⟩)
        have i3 := winv_answer i2 (k := 4) (N := (m.ops.length : Nat)) (.inr rfl) (by omega) (by rw [s2]; exact Int.le_refl _)
        rw [s2, t2] at i3
        exact i3
       ·have hsame : (hearJoin (w.nd (3 - w.lead)) m).1 = w.nd (3 - w.lead) := by
         unfold hearJoin
         rw [if_neg (by simp; exact ⟨by omega, h1.2⟩), if_neg had]
        rw [hsame]
        have hset : w.setN (3 - w.lead) (w.nd (3 - w.lead)) = w := by
         rcases hl with e | e <;> rw [e] <;> rfl
        rw [hset]
        exact winv_answer h (.inr rfl) (by omega) (Int.le_refl _)
     ·cases hok
   ·exact h
  ·rename_i hk
   split
   ·rename_i hc
    obtain ⟨hc1, hc2⟩ := hc
    have hkk : m.kind = 2 ∨ m.kind = 4 := by
     unfold msgOk at hm
     simp only [Bool.and_eq_true] at hm
     have := hm.2.2.2
     split at this
     ·rename_i e; exact absurd (.inl e) hk
     ·split at this
      ·assumption
      ·split at this
       ·rename_i e; exact absurd (.inr e) hk
       ·cases this
    by_cases hi : m.to = w.lead
    ·rw [hi] at hc1 hc2 ⊢
     have hmt : m.term = w.term := by rw [hc1, hr.nt]
     obtain ⟨_, ho1, ho2⟩ := ht.has hmt hkk
     have hp := hr.p ho1
     have hln := hp.2.length_le
     split
     ·
      rename_i hj
      obtain ⟨hj1, hj2, hj3⟩ := hj
      have hd := hr.ad hj3
      have hde : w.done = (w.nd w.lead).ops := hr.d.eq_of_length hd
      have hoe : (w.nd (3 - w.lead)).ops = (w.nd w.lead).ops := hp.2.eq_of_length (by omega)
      have hno : ∀ w2 : WorldM, w2.done = w.done → doneM w2 (w.nd w.lead).ops m.n = w2 := by
       intro w2 e
       unfold doneM
       rw [e, if_neg (by simp; omega)]
      rw [hno _ (by show (w.setN w.lead _).done = _; exact setN_other.2.2.2.2)]
      obtain ⟨s1, s2⟩ := set_lead hl { w.nd w.lead with alone := false }
      obtain ⟨t1, t2, t3, t4, t5⟩ := setN_other (w := w) (id := w.lead) (n := { w.nd w.lead with alone := false })
      have hko : nodeOk { w.nd w.lead with alone := false } = true := by
       have := h.kd w.lead
       rw [nodeOk_iff] at this ⊢
       exact ⟨this.1, .inr rfl, this.2.2⟩
      obtain ⟨k1, k2⟩ := nodeOk_set h.k1 h.k2 (id := w.lead) hko
      refine ⟨by show (w.setN w.lead { w.nd w.lead with alone := false }).lead = 1 ∨ _; rw [t2]; exact hl, by show (w.setN w.lead { w.nd w.lead with alone := false }).nets.length ≤ 12; rw [t4]; exact h.nl, k1, k2, ?_, ?_⟩
      ·show RightP ((w.setN w.lead { w.nd w.lead with alone := false }).nd (w.setN w.lead { w.nd w.lead with alone := false }).lead) ((w.setN w.lead { w.nd w.lead with alone := false }).nd (3 - (w.setN w.lead { w.nd w.lead with alone := false }).lead)) (w.setN w.lead { w.nd w.lead with alone := false }).term true (w.setN w.lead { w.nd w.lead with alone := false }).done
       rw [s1, s2, t1, t5]
       exact ⟨hr.nt, hr.nl, rfl, hr.ot, hr.oa, fun _ => ho1, hr.p, hr.d, fun _ => by rw [hde, hoe]; exact List.prefix_refl _, fun e => by cases e⟩
      ·intro x hx
       have hx' : x ∈ w.nets := by rw [← t4]; exact hx
       obtain ⟨x1, x2⟩ := h.ms x hx'
       refine ⟨x1, ?_⟩
       show TrueP ((w.setN w.lead { w.nd w.lead with alone := false }).nd (w.setN w.lead { w.nd w.lead with alone := false }).lead) ((w.setN w.lead { w.nd w.lead with alone := false }).nd (3 - (w.setN w.lead { w.nd w.lead with alone := false }).lead)) (w.setN w.lead { w.nd w.lead with alone := false }).term (w.setN w.lead { w.nd w.lead with alone := false }).lead (w.setN w.lead { w.nd w.lead with alone := false }).done x
       rw [s1, s2, t1, t2, t5]
       exact x2.grow (List.prefix_refl _) (List.prefix_refl _)
     ·
      rw [mkDone_eq]
      split
      ·rename_i hd
       simp only [Bool.and_eq_true, decide_eq_true_eq] at hd
       have hp2 : (w.nd w.lead).ops.take m.n.toNat <+: (w.nd w.lead).ops := List.take_prefix _ _
       have hlen : ((w.nd w.lead).ops.take m.n.toNat).length = m.n.toNat := by rw [List.length_take]; omega
       refine winv_done h (pre_len hr.d hp2 (by omega)) ⟨hr.nt, hr.nl, hr.na, hr.ot, hr.oa, hr.b, hr.p, hp2, fun _ => ?_, fun e => ?_⟩
       ·exact pre_len hp2 hp.2 (by omega)
       ·have := hr.ad e; omega
      ·exact winv_done h (List.prefix_refl _) hr
    ·have hi2 : m.to = 3 - w.lead := by omega
     rw [hi2] at hc1 hc2 ⊢
     have hlt : m.term < w.term := by
      have h1 := hr.ot
      have h2 : (w.nd (3 - w.lead)).term ≠ w.term := fun e => by
       have := (hr.p e).1
       rw [hc2] at this; cases this
      omega
     obtain ⟨ho1, ho2⟩ := ht.old hlt hkk hi2 hc2 hc1.symm
     have hlen := ho2.length_le
     rw [List.length_take] at hlen
     have hno : doneM w (w.nd (3 - w.lead)).ops m.n = w := by
      unfold doneM
      rw [if_neg (by simp; omega)]
     rw [if_neg (by
      rintro ⟨_, _, e⟩
      rw [hr.oa] at e; cases e), hno]
     exact h
   ·exact h
 ·exact h
theorem winv_up {w : WorldM} (h : WInv w) {id : Int} (hid : id = 1 ∨ id = 2) (b : Bool) : WInv (upM w id b) := by
 unfold upM
 have hl := h.lead
 have hr := h.r
 have hko : nodeOk { w.nd id with up := b } = true := h.kd id
 by_cases hi : id = w.lead
 ·subst hi
  have i2 := winv_lead h (n' := { w.nd w.lead with up := b }) (done' := w.done) hko (List.prefix_refl _) (List.prefix_refl _) ⟨hr.nt, hr.nl, hr.na, hr.ot, hr.oa, hr.b, hr.p, hr.d, hr.bd, hr.ad⟩
  have ew : { w.setN w.lead { w.nd w.lead with up := b } with done := w.done } = w.setN w.lead { w.nd w.lead with up := b } := by
   unfold WorldM.setN; split <;> rfl
  rw [ew] at i2
  exact i2
 ·have hi2 : id = 3 - w.lead := by omega
  subst hi2
  exact winv_other h hko (fun e => ⟨e, Nat.le_refl _⟩) (fun e => ⟨e, rfl, List.prefix_refl _⟩) ⟨hr.nt, hr.nl, hr.na, hr.ot, hr.oa, hr.b, hr.p, hr.d, hr.bd, hr.ad⟩
theorem winv_drop {w : WorldM} (h : WInv w) (k : Nat) : WInv { w with nets := w.nets.take k ++ w.nets.drop (k + 1) } := by
 refine ⟨h.lead, ?_, h.k1, h.k2, h.r, fun m hm => ?_⟩
 ·have := h.nl
  simp only [List.length_append, List.length_take, List.length_drop]
  omega
 ·rcases List.mem_append.1 hm with hm | hm
  ·exact h.ms m (List.mem_of_mem_take hm)
  ·exact h.ms m (List.mem_of_mem_drop hm)
theorem winv_net {w : WorldM} (h : WInv w) (kind i : Int) : WInv (netM w kind i) := by
 unfold netM
 split
 ·split
  ·rename_i m hm
   obtain ⟨m1, m2⟩ := h.ms m (List.mem_of_getElem? hm)
   split
   ·exact winv_send h m1 m2
   ·split
    ·exact winv_bring (winv_drop h _) m1 m2
    ·exact winv_drop h _
  ·exact h
 ·exact h
theorem winv_join {w : WorldM} (h : WInv w) : WInv (joinM w) := by
 unfold joinM
 split
 ·have hl := h.lead
  have hr := h.r
  have hk := nodeOk_iff.1 (h.kd w.lead)
  have h20 := hk.2.2.l
  refine winv_send h ?_ ⟨by show (w.nd w.lead).term ≤ w.term; rw [hr.nt]; omega, fun e => ?_, fun _ e => ?_, fun _ e => ?_, fun _ _ _ => ⟨rfl, List.prefix_refl _⟩⟩
  ·unfold msgOk joinMsg
   simp only [inR, Bool.and_eq_true, decide_eq_true_eq, Int.reduceEq, if_false, or_self, if_true]
   refine ⟨by omega, by omega, by omega, by rw [opEq_eq]; simp, by simp, areOps_G hk.2.2⟩
  ·have : (w.nd w.lead).term < w.term := e
   rw [hr.nt] at this; omega
  ·rcases e with e | e <;> cases e
  ·cases e
 ·exact h
end Go.Gn

namespace Go.Gn
open Go
theorem done_all {d os : List OpM} (hd : d <+: os) : (if decide (((os.length : Nat) : Int) > (d.length : Int)) && decide (((os.length : Nat) : Int) ≤ (os.length : Int)) then os.take (((os.length : Nat) : Int)).toNat else d) = os := by
 split
 ·rw [Int.toNat_natCast, List.take_length]
 ·rename_i hc
  simp only [Bool.and_eq_true, decide_eq_true_eq, not_and] at hc
  have := hd.length_le
  exact hd.eq_of_length (by omega)
theorem leadM_eq {w : WorldM} {id : Int} (ht : ¬ w.term ≥ 99) (hd : w.done <+: (w.nd id).ops) : leadM w id = { w.setN id ⟨(w.nd id).up, w.term + 1, true, true, (w.nd id).ops⟩ with term := w.term + 1, lead := id, both := false, done := (w.nd id).ops } := by
 unfold leadM
 rw [if_neg ht, mkDone_eq]
 have e : (w.setN id ⟨(w.nd id).up, w.term + 1, true, true, (w.nd id).ops⟩).done = w.done := setN_other.2.2.2.2
 simp only [e]
 rw [done_all hd]
theorem winv_leadM {w : WorldM} (h : WInv w) (hb : w.both = true) {id : Int} (hid : id = 1 ∨ id = 2) : WInv (leadM w id) := by
 have hl := h.lead
 have hr := h.r
 have hbt := hr.b hb
 have hp := hr.p hbt
 have hd2 : w.done <+: (w.nd id).ops := by
  by_cases hi : id = w.lead
  ·rw [hi]; exact hr.d
  ·rw [show id = 3 - w.lead by omega]; exact hr.bd hb
 by_cases h99 : w.term ≥ 99
 ·unfold leadM
  rw [if_pos h99]
  exact h
 ·rw [leadM_eq h99 hd2]
  have hk := nodeOk_iff.1 (h.kd id)
  have hkl := nodeOk_iff.1 (h.kd w.lead)
  have hno : nodeOk ⟨(w.nd id).up, w.term + 1, true, true, (w.nd id).ops⟩ = true := nodeOk_iff.2 ⟨by
   have := hkl.1
   rw [hr.nt] at this
   show 0 ≤ w.term + 1 ∧ w.term + 1 ≤ 99
   omega, .inl rfl, hk.2.2⟩
  obtain ⟨k1, k2⟩ := nodeOk_set h.k1 h.k2 (id := id) hno
  obtain ⟨t1, t2, t3, t4, t5⟩ := setN_other (w := w) (id := id) (n := ⟨(w.nd id).up, w.term + 1, true, true, (w.nd id).ops⟩)
  have s1 : (w.setN id ⟨(w.nd id).up, w.term + 1, true, true, (w.nd id).ops⟩).nd id = ⟨(w.nd id).up, w.term + 1, true, true, (w.nd id).ops⟩ := nd_set_same hid
  have s2 : (w.setN id ⟨(w.nd id).up, w.term + 1, true, true, (w.nd id).ops⟩).nd (3 - id) = w.nd (3 - id) := nd_set_other hid
  refine ⟨hid, by show (w.setN id _).nets.length ≤ 12; rw [t4]; exact h.nl, k1, k2, ?_, ?_⟩
  ·show RightP ((w.setN id ⟨(w.nd id).up, w.term + 1, true, true, (w.nd id).ops⟩).nd id) ((w.setN id ⟨(w.nd id).up, w.term + 1, true, true, (w.nd id).ops⟩).nd (3 - id)) (w.term + 1) false (w.nd id).ops
   rw [s1, s2]
   have hot : (w.nd (3 - id)).term = w.term ∧ (w.nd (3 - id)).alone = false := by
    by_cases hi : id = w.lead
    ·rw [hi]; exact ⟨hbt, hr.oa⟩
    ·rw [show 3 - id = w.lead by omega]
     exact ⟨hr.nt, by rw [hr.na, hb]; rfl⟩
   exact ⟨rfl, rfl, rfl, by omega, hot.2, (fun e => by cases e), (fun e => by omega), List.prefix_refl _, (fun e => by cases e), fun _ => rfl⟩
  ·intro m hm
   have hm' : m ∈ w.nets := by rw [← t4]; exact hm
   obtain ⟨m1, m2⟩ := h.ms m hm'
   refine ⟨m1, ?_⟩
   show TrueP ((w.setN id ⟨(w.nd id).up, w.term + 1, true, true, (w.nd id).ops⟩).nd id) ((w.setN id ⟨(w.nd id).up, w.term + 1, true, true, (w.nd id).ops⟩).nd (3 - id)) (w.term + 1) id (w.nd id).ops m
   rw [s1, s2]
   have hle := m2.le
   refine ⟨by omega, fun _ hk2 hto hol hot => ?_, fun e => by omega, fun e => by omega, fun e => by omega⟩
   by_cases hi : id = w.lead
   ·rw [hi, hp.1] at hol; cases hol
   ·have e3 : 3 - id = w.lead := by omega
    have e4 : id = 3 - w.lead := by omega
    rw [e3] at hto hot ⊢
    rw [hr.nt] at hot
    obtain ⟨_, _, c3⟩ := m2.has hot.symm hk2
    have hpl := hp.2.length_le
    refine ⟨by omega, ?_⟩
    rw [e4, take_pre hp.2 (by omega)]
    exact List.take_prefix _ _
theorem winv_do {w : WorldM} (h : WInv w) (e : EvM) : WInv (doM w e) := by
 have hl := h.lead
 unfold doM
 split
 ·split
  ·rename_i hc; exact winv_ask h (inR12 hc) _
  ·exact h
 ·split
  ·exact winv_net h _ _
  ·split
   ·split
    ·rename_i hc; exact winv_up h (inR12 hc) _
    ·exact h
   ·split
    ·split
     ·rename_i hc
      rw [Bool.and_eq_true] at hc
      exact winv_leadM h hc.1 (by omega)
     ·exact h
    ·split
     ·split
      ·rename_i hc
       rw [Bool.and_eq_true] at hc
       exact winv_leadM h hc.1 hl
      ·exact h
     ·split
      ·exact winv_join h
      ·exact h
theorem winv_new : WInv worldNew := (winv_iff (.inl rfl)).1 (by decide +kernel)
theorem winv_play : ∀ (es : List EvM) {w : WorldM}, WInv w → WInv (playM w es)
 | [], _, h => h
 | e :: es, _, h => winv_play es (winv_do h e)
end Go.Gn

namespace Go.Gn
open Go
structure Later (w w' : WorldM) : Prop where
 d : w.done <+: w'.done
 t : w.term ≤ w'.term
theorem Later.refl (w : WorldM) : Later w w := ⟨List.prefix_refl _, Int.le_refl _⟩
theorem Later.trans {a b c : WorldM} (h : Later a b) (h' : Later b c) : Later a c := ⟨h.d.trans h'.d, Int.le_trans h.t h'.t⟩
end Go.Gn

namespace Go.Gn
open Go
structure Deaf (w : WorldM) : Prop where
 l : w.lead = 1
 b : w.both = false
 t : w.term = 1
 o : w.n2.ops = []
 n : w.n2.leads = false
theorem alone_done {w : WorldM} (h : WInv w) (hb : w.both = false) : w.done = (w.nd w.lead).ops :=
 h.r.d.eq_of_length (h.r.ad (by rw [h.r.na, hb]; rfl))
end Go.Gn

namespace Go.Gn
open Go
theorem msg_kind {m : MsgM} (hm : msgOk m = true) : (m.to = 1 ∨ m.to = 2) ∧ (m.kind = 1 ∨ m.kind = 2 ∨ m.kind = 3 ∨ m.kind = 4) ∧ (m.kind = 3 → (m.ops.length : Int) = m.n) ∧ (m.kind = 1 → 1 ≤ m.n) ∧ 0 ≤ m.n := by
 unfold msgOk at hm
 simp only [Bool.and_eq_true, inR_iff] at hm
 obtain ⟨h1, h2, h3, h4⟩ := hm
 split at h4
 ·rename_i hk
  simp only [Bool.and_eq_true, decide_eq_true_eq] at h4
  exact ⟨by omega, .inl hk, fun e => by omega, fun _ => by omega, by omega⟩
 ·rename_i hk1
  split at h4
  ·exact ⟨by omega, by omega, fun e => by omega, fun e => absurd e hk1, by omega⟩
  ·split at h4
   ·rename_i hk3
    simp only [Bool.and_eq_true, beq_iff_eq] at h4
    exact ⟨by omega, by omega, fun _ => h4.2.1, fun e => absurd e hk1, by omega⟩
   ·cases h4
structure Stale (x y : WorldM) : Prop where
 inv : WInv y
 lead : y.lead = x.lead
 both : y.both = false
 done : y.done = x.done
 nd : y.nd x.lead = x.nd x.lead
 ol : (y.nd (3 - x.lead)).leads = true
 ot : (y.nd (3 - x.lead)).term < y.term
 nets : ∀ m ∈ y.nets, m.term ≤ (y.nd (3 - x.lead)).term
end Go.Gn

namespace Go.Gn
open Go
set_option maxRecDepth 100000
set_option maxHeartbeats 16000000
section
variable {W : CallF} {L : LoopF} {E : EqF} {T : Prop → Bool} (h : IsK G W L E T)
include h
theorem ev_ideliver (w : WorldM) (hw : WG w) (hi : WInv w) (m : MsgM) (hmo : msgOk m = true) (hm : MsgG m) (hup : (w.nd m.to).up = true) : IR (bringM w m) (W f_impl_World_deliver [.ptr 0 0, msgA m] (iS w)) := by
 have hl := hw.nl
 have n1 : ∀ {a b : Int}, ¬ a = b → (a == b) = false := fun hab => by simp [hab]
 have y1 : ∀ {a b : Int}, a = b → (a == b) = true := fun hab => by simp [hab]
 have n2 : ∀ {a b : Int}, ¬ a = b → (a != b) = true := fun hab => by simp [hab]
 have y2 : ∀ {a b : Int}, a = b → (a != b) = false := fun hab => by simp [hab]
 have hms := hm.sz
 obtain ⟨hto, hkd, _⟩ := msg_kind hmo
 rcases hto with hto | hto
 ·have hnd : w.nd m.to = w.n1 := by rw [hto]; rfl
  rw [hnd] at hup
  have eh := ev_NodeHear h w.n1 hw.o1.sz 1 m hms
  have hcond : (nodeOk w.n1 && (msgOk m && (inR 1 1 2 && (!(m.to != 1) && w.n1.up)))) = true := by
   rw [hi.k1, hmo, hto, hup]; decide
  unfold nodeHear at eh
  rw [if_pos hcond] at eh
  unfold bringM
  rw [hnd, hto, if_pos hup]
  obtain ⟨kind, to, term, mn, op, ops⟩ := m
  simp only at hto hm hmo hkd
  subst hto
  by_cases hk : kind = 1 ∨ kind = 3
  ·have ek : (kind == 1) = true ∨ ((kind == 1) = false ∧ (kind == 3) = true) := by
    rcases hk with rfl | rfl
    ·exact .inl rfl
    ·exact .inr ⟨rfl, rfl⟩
   rw [if_pos hk]
   have hgG := hearK_G hw.o1 hw.t1 (id := 1) (by omega) hm hk
   cases hok : (hearK w.n1 1 ⟨kind, 1, term, mn, op, ops⟩).2.2
   ·rw [if_neg (by simp)]
    unfold hearV at eh
    simp only [hok] at eh
    rcases ek with k1 | ⟨k1, k3⟩
    ·rw [h.call]
     repeat (conv=>arg 2;whnf;arg 2;tactic=>first|exact g1|exact k1|exact eh|exact gS|exact gN|exact congrArg not k1|exact congrArg not eh|exact congrArg not gN|exact g2)
     conv => arg 2; whnf
     exact .s00 ..
    ·rw [h.call]
     repeat (conv=>arg 2;whnf;arg 2;tactic=>first|exact g1|exact k1|exact k3|exact eh|exact gS|exact gN|exact congrArg not k1|exact congrArg not k3|exact congrArg not eh|exact congrArg not gN|exact g2)
     conv => arg 2; whnf
     exact .s00 ..
   ·rw [if_pos rfl]
    obtain ⟨b1, b2, b3, b4⟩ := hgG hok
    unfold hearV at eh
    simp only [hok] at eh
    generalize hearK w.n1 1 ⟨kind, 1, term, mn, op, ops⟩ = r at *
    obtain ⟨r1, r2, r3⟩ := r
    simp only at *
    have es := ev_isend h (w.setN 1 r1) r2 b4 hl
    unfold sendM
    cases hc : decide (((w.setN 1 r1).nets.length : Int) < 12)
    ·simp only [hc, Bool.false_eq_true, if_false] at es ⊢
     rcases ek with k1 | ⟨k1, k3⟩
     ·rw [h.call]
      repeat (conv=>arg 2;whnf;arg 2;tactic=>first|exact g1|exact k1|exact eh|exact gS|exact es|exact gN|exact congrArg not k1|exact congrArg not eh|exact congrArg not es|exact congrArg not gN|exact g2)
      conv => arg 2; whnf
      exact .s00 ..
     ·rw [h.call]
      repeat (conv=>arg 2;whnf;arg 2;tactic=>first|exact g1|exact k1|exact k3|exact eh|exact gS|exact es|exact gN|exact congrArg not k1|exact congrArg not k3|exact congrArg not eh|exact congrArg not es|exact congrArg not gN|exact g2)
      conv => arg 2; whnf
      exact .s00 ..
    ·simp only [hc, if_true] at es ⊢
     rcases ek with k1 | ⟨k1, k3⟩
     ·rw [h.call]
      repeat (conv=>arg 2;whnf;arg 2;tactic=>first|exact g1|exact k1|exact eh|exact gS|exact es|exact gN|exact congrArg not k1|exact congrArg not eh|exact congrArg not es|exact congrArg not gN|exact g2)
      conv => arg 2; whnf
      exact .sD0 ..
     ·rw [h.call]
      repeat (conv=>arg 2;whnf;arg 2;tactic=>first|exact g1|exact k1|exact k3|exact eh|exact gS|exact es|exact gN|exact congrArg not k1|exact congrArg not k3|exact congrArg not eh|exact congrArg not es|exact congrArg not gN|exact g2)
      conv => arg 2; whnf
      exact .sD0 ..
  ·rw [if_neg hk]
   have k1 : (kind == 1) = false := by simp; omega
   have k3 : (kind == 3) = false := by simp; omega
   cases hle : w.n1.leads
   ·rw [if_neg (by simp), h.call]
    repeat (conv=>arg 2;whnf;arg 2;tactic=>first|exact g1|exact k1|exact k3|exact hle|exact gN|exact congrArg not k1|exact congrArg not k3|exact congrArg not hle|exact congrArg not gN|exact g2)
    conv => arg 2; whnf
    exact .s00 ..
   ·by_cases ht : term = w.n1.term
    ·rw [if_pos ⟨ht, rfl⟩]
     have ht' := y2 ht.symm
     have hn0 := hm.n
     simp only at hn0
     obtain ⟨k, rfl⟩ : ∃ k : Nat, mn = k := ⟨mn.toNat, by omega⟩
     have hlo := hw.o1.l
     have hlen : ((w.n1.ops.map opD).length : Nat) = w.n1.ops.length := List.length_map ..
     have plain : ∀ w2 : WorldM, w2 = w → IR (doneM w w.n1.ops (k : Nat)) (W f_impl_World_acknowledge [.ptr 0 0, .rp 1 0 0, .int .i64 (k : Nat)] (iS w2)) := by
      rintro w2 rfl
      rw [ev_iack h w2 0 w2.n1 (by first | exact .inl ⟨rfl, rfl⟩ | exact .inr ⟨rfl, rfl⟩) k (by omega)]
      unfold doneM
      split
      ·exact .s0R ..
      ·exact .s00 ..
     have fin : ∀ s, IR (doneM w w.n1.ops (k : Nat)) s → W f_impl_World_acknowledge [.ptr 0 0, .rp 1 0 0, .int .i64 (k : Nat)] (iS w) = s → ((kind == 4) = false ∨ ((kind == 4) = true ∧ ((k : Int) == ((w.n1.ops.map opD).length : Nat)) = false) ∨ ((kind == 4) = true ∧ ((k : Int) == ((w.n1.ops.map opD).length : Nat)) = true ∧ w.n1.alone = false)) →
       IR (doneM w w.n1.ops (k : Nat)) (W f_impl_World_deliver [.ptr 0 0, msgA ⟨kind, 1, term, (k : Nat), op, ops⟩] (iS w)) := by
      intro s hs hq hcase
      generalize doneM w w.n1.ops (k : Nat) = w' at hs ⊢
      rcases hcase with c1 | ⟨c1, c2⟩ | ⟨c1, c2, c3⟩
      ·rw [h.call]
       repeat (conv=>arg 2;whnf;arg 2;tactic=>first|exact g1|exact k1|exact k3|exact hle|exact ht'|exact c1|exact gN|exact congrArg not k1|exact congrArg not k3|exact congrArg not hle|exact congrArg not ht'|exact congrArg not c1|exact congrArg not gN|exact g2)
       conv => arg 2; whnf; arg 2; tactic => exact hq
       cases hs
       ·repeat (conv=>arg 2;whnf;arg 2;tactic=>first|exact g1|exact gN|exact congrArg not gN|exact g2)
        conv => arg 2; whnf
        exact .s00 ..
       ·repeat (conv=>arg 2;whnf;arg 2;tactic=>first|exact g1|exact gN|exact congrArg not gN|exact g2)
        conv => arg 2; whnf
        exact .sD0 ..
       ·repeat (conv=>arg 2;whnf;arg 2;tactic=>first|exact g1|exact gN|exact congrArg not gN|exact g2)
        conv => arg 2; whnf
        exact .s0R ..
       ·repeat (conv=>arg 2;whnf;arg 2;tactic=>first|exact g1|exact gN|exact congrArg not gN|exact g2)
        conv => arg 2; whnf
        exact .sDR ..
      ·rw [h.call]
       repeat (conv=>arg 2;whnf;arg 2;tactic=>first|exact g1|exact k1|exact k3|exact hle|exact ht'|exact c1|exact c2|exact gN|exact congrArg not k1|exact congrArg not k3|exact congrArg not hle|exact congrArg not ht'|exact congrArg not c1|exact congrArg not c2|exact congrArg not gN|exact g2)
       conv => arg 2; whnf; arg 2; tactic => exact hq
       cases hs
       ·repeat (conv=>arg 2;whnf;arg 2;tactic=>first|exact g1|exact gN|exact congrArg not gN|exact g2)
        conv => arg 2; whnf
        exact .s00 ..
       ·repeat (conv=>arg 2;whnf;arg 2;tactic=>first|exact g1|exact gN|exact congrArg not gN|exact g2)
        conv => arg 2; whnf
        exact .sD0 ..
       ·repeat (conv=>arg 2;whnf;arg 2;tactic=>first|exact g1|exact gN|exact congrArg not gN|exact g2)
        conv => arg 2; whnf
        exact .s0R ..
       ·repeat (conv=>arg 2;whnf;arg 2;tactic=>first|exact g1|exact gN|exact congrArg not gN|exact g2)
        conv => arg 2; whnf
        exact .sDR ..
      ·rw [h.call]
       repeat (conv=>arg 2;whnf;arg 2;tactic=>first|exact g1|exact k1|exact k3|exact hle|exact ht'|exact c1|exact c2|exact c3|exact gN|exact congrArg not k1|exact congrArg not k3|exact congrArg not hle|exact congrArg not ht'|exact congrArg not c1|exact congrArg not c2|exact congrArg not c3|exact congrArg not gN|exact g2)
       conv => arg 2; whnf; arg 2; tactic => exact hq
       cases hs
       ·repeat (conv=>arg 2;whnf;arg 2;tactic=>first|exact g1|exact gN|exact congrArg not gN|exact g2)
        conv => arg 2; whnf
        exact .s00 ..
       ·repeat (conv=>arg 2;whnf;arg 2;tactic=>first|exact g1|exact gN|exact congrArg not gN|exact g2)
        conv => arg 2; whnf
        exact .sD0 ..
       ·repeat (conv=>arg 2;whnf;arg 2;tactic=>first|exact g1|exact gN|exact congrArg not gN|exact g2)
        conv => arg 2; whnf
        exact .s0R ..
       ·repeat (conv=>arg 2;whnf;arg 2;tactic=>first|exact g1|exact gN|exact congrArg not gN|exact g2)
        conv => arg 2; whnf
        exact .sDR ..
     by_cases c4 : kind = 4 ∧ (k : Int) = (w.n1.ops.length : Nat) ∧ w.n1.alone = true
     ·rw [if_pos c4]
      obtain ⟨c1, c2, c3⟩ := c4
      have d1 := y1 c1
      have d2 : ((k : Int) == ((w.n1.ops.map opD).length : Nat)) = true := by rw [hlen, c2]; simp
      have ea := ev_iack h { w.setN 1 { w.n1 with alone := false } with both := true } 0 { w.n1 with alone := false } (by first | exact .inl ⟨rfl, rfl⟩ | exact .inr ⟨rfl, rfl⟩) k (by show w.n1.ops.length < _; omega)
      unfold doneM
      cases hd : decide ((k : Int) > (w.done.length : Int)) && decide ((k : Int) ≤ (w.n1.ops.length : Int))
      ·rw [if_neg (by exact fun e => by rw [show (decide ((k : Int) > (({ w.setN 1 { w.n1 with alone := false } with both := true } : WorldM).done.length : Int)) && decide ((k : Int) ≤ (w.n1.ops.length : Int))) = false from hd] at e; cases e)]
       rw [if_neg (by exact fun e => by rw [show (decide ((k : Int) > (({ w.setN 1 { w.n1 with alone := false } with both := true } : WorldM).done.length : Int)) && decide ((k : Int) ≤ (({ w.n1 with alone := false } : NodeM).ops.length : Int))) = false from hd] at e; cases e)] at ea
       rw [h.call]
       repeat (conv=>arg 2;whnf;arg 2;tactic=>first|exact g1|exact k1|exact k3|exact hle|exact ht'|exact d1|exact d2|exact c3|exact ea|exact gS|exact gN|exact congrArg not k1|exact congrArg not k3|exact congrArg not hle|exact congrArg not ht'|exact congrArg not d1|exact congrArg not d2|exact congrArg not c3|exact congrArg not ea|exact congrArg not gN|exact g2)
       conv => arg 2; whnf
       exact .s00 ..
      ·rw [if_pos (by exact hd)]
       rw [if_pos (by exact hd)] at ea
       rw [h.call]
       repeat (conv=>arg 2;whnf;arg 2;tactic=>first|exact g1|exact k1|exact k3|exact hle|exact ht'|exact d1|exact d2|exact c3|exact ea|exact gS|exact gN|exact congrArg not k1|exact congrArg not k3|exact congrArg not hle|exact congrArg not ht'|exact congrArg not d1|exact congrArg not d2|exact congrArg not c3|exact congrArg not ea|exact congrArg not gN|exact g2)
       conv => arg 2; whnf
       exact .s0R ..
     ·rw [if_neg c4]
      refine fin _ (plain w rfl) rfl ?_
      by_cases d1 : kind = 4
      ·by_cases d2 : (k : Int) = (w.n1.ops.length : Nat)
       ·refine .inr (.inr ⟨y1 d1, by rw [hlen, d2]; simp, ?_⟩)
        cases ha : w.n1.alone
        ·rfl
        ·exact absurd ⟨d1, d2, ha⟩ c4
       ·exact .inr (.inl ⟨y1 d1, by rw [hlen]; exact n1 d2⟩)
      ·exact .inl (n1 d1)
    ·rw [if_neg (fun e => ht e.1), h.call]
     have ht' := n2 (fun e : w.n1.term = term => ht e.symm)
     repeat (conv=>arg 2;whnf;arg 2;tactic=>first|exact g1|exact k1|exact k3|exact hle|exact ht'|exact gN|exact congrArg not k1|exact congrArg not k3|exact congrArg not hle|exact congrArg not ht'|exact congrArg not gN|exact g2)
     conv => arg 2; whnf
     exact .s00 ..
 ·have hnd : w.nd m.to = w.n2 := by rw [hto]; rfl
  rw [hnd] at hup
  have eh := ev_NodeHear h w.n2 hw.o2.sz 2 m hms
  have hcond : (nodeOk w.n2 && (msgOk m && (inR 2 1 2 && (!(m.to != 2) && w.n2.up)))) = true := by
   rw [hi.k2, hmo, hto, hup]; decide
  unfold nodeHear at eh
  rw [if_pos hcond] at eh
  unfold bringM
  rw [hnd, hto, if_pos hup]
  obtain ⟨kind, to, term, mn, op, ops⟩ := m
  simp only at hto hm hmo hkd
  subst hto
  by_cases hk : kind = 1 ∨ kind = 3
  ·have ek : (kind == 1) = true ∨ ((kind == 1) = false ∧ (kind == 3) = true) := by
    rcases hk with rfl | rfl
    ·exact .inl rfl
    ·exact .inr ⟨rfl, rfl⟩
   rw [if_pos hk]
   have hgG := hearK_G hw.o2 hw.t2 (id := 2) (by omega) hm hk
   cases hok : (hearK w.n2 2 ⟨kind, 2, term, mn, op, ops⟩).2.2
   ·rw [if_neg (by simp)]
    unfold hearV at eh
    simp only [hok] at eh
    rcases ek with k1 | ⟨k1, k3⟩
    ·rw [h.call]
     repeat (conv=>arg 2;whnf;arg 2;tactic=>first|exact g1|exact k1|exact eh|exact gS|exact gN|exact congrArg not k1|exact congrArg not eh|exact congrArg not gN|exact g2)
     conv => arg 2; whnf
     exact .s00 ..
    ·rw [h.call]
     repeat (conv=>arg 2;whnf;arg 2;tactic=>first|exact g1|exact k1|exact k3|exact eh|exact gS|exact gN|exact congrArg not k1|exact congrArg not k3|exact congrArg not eh|exact congrArg not gN|exact g2)
     conv => arg 2; whnf
     exact .s00 ..
   ·rw [if_pos rfl]
    obtain ⟨b1, b2, b3, b4⟩ := hgG hok
    unfold hearV at eh
    simp only [hok] at eh
    generalize hearK w.n2 2 ⟨kind, 2, term, mn, op, ops⟩ = r at *
    obtain ⟨r1, r2, r3⟩ := r
    simp only at *
    have es := ev_isend h (w.setN 2 r1) r2 b4 hl
    unfold sendM
    cases hc : decide (((w.setN 2 r1).nets.length : Int) < 12)
    ·simp only [hc, Bool.false_eq_true, if_false] at es ⊢
     rcases ek with k1 | ⟨k1, k3⟩
     ·rw [h.call]
      repeat (conv=>arg 2;whnf;arg 2;tactic=>first|exact g1|exact k1|exact eh|exact gS|exact es|exact gN|exact congrArg not k1|exact congrArg not eh|exact congrArg not es|exact congrArg not gN|exact g2)
      conv => arg 2; whnf
      exact .s00 ..
     ·rw [h.call]
      repeat (conv=>arg 2;whnf;arg 2;tactic=>first|exact g1|exact k1|exact k3|exact eh|exact gS|exact es|exact gN|exact congrArg not k1|exact congrArg not k3|exact congrArg not eh|exact congrArg not es|exact congrArg not gN|exact g2)
      conv => arg 2; whnf
      exact .s00 ..
    ·simp only [hc, if_true] at es ⊢
     rcases ek with k1 | ⟨k1, k3⟩
     ·rw [h.call]
      repeat (conv=>arg 2;whnf;arg 2;tactic=>first|exact g1|exact k1|exact eh|exact gS|exact es|exact gN|exact congrArg not k1|exact congrArg not eh|exact congrArg not es|exact congrArg not gN|exact g2)
      conv => arg 2; whnf
      exact .sD0 ..
     ·rw [h.call]
      repeat (conv=>arg 2;whnf;arg 2;tactic=>first|exact g1|exact k1|exact k3|exact eh|exact gS|exact es|exact gN|exact congrArg not k1|exact congrArg not k3|exact congrArg not eh|exact congrArg not es|exact congrArg not gN|exact g2)
      conv => arg 2; whnf
      exact .sD0 ..
  ·rw [if_neg hk]
   have k1 : (kind == 1) = false := by simp; omega
   have k3 : (kind == 3) = false := by simp; omega
   cases hle : w.n2.leads
   ·rw [if_neg (by simp), h.call]
    repeat (conv=>arg 2;whnf;arg 2;tactic=>first|exact g1|exact k1|exact k3|exact hle|exact gN|exact congrArg not k1|exact congrArg not k3|exact congrArg not hle|exact congrArg not gN|exact g2)
    conv => arg 2; whnf
    exact .s00 ..
   ·by_cases ht : term = w.n2.term
    ·rw [if_pos ⟨ht, rfl⟩]
     have ht' := y2 ht.symm
     have hn0 := hm.n
     simp only at hn0
     obtain ⟨k, rfl⟩ : ∃ k : Nat, mn = k := ⟨mn.toNat, by omega⟩
     have hlo := hw.o2.l
     have hlen : ((w.n2.ops.map opD).length : Nat) = w.n2.ops.length := List.length_map ..
     have plain : ∀ w2 : WorldM, w2 = w → IR (doneM w w.n2.ops (k : Nat)) (W f_impl_World_acknowledge [.ptr 0 0, .rp 1 1 0, .int .i64 (k : Nat)] (iS w2)) := by
      rintro w2 rfl
      rw [ev_iack h w2 1 w2.n2 (by first | exact .inl ⟨rfl, rfl⟩ | exact .inr ⟨rfl, rfl⟩) k (by omega)]
      unfold doneM
      split
      ·exact .s0R ..
      ·exact .s00 ..
     have fin : ∀ s, IR (doneM w w.n2.ops (k : Nat)) s → W f_impl_World_acknowledge [.ptr 0 0, .rp 1 1 0, .int .i64 (k : Nat)] (iS w) = s → ((kind == 4) = false ∨ ((kind == 4) = true ∧ ((k : Int) == ((w.n2.ops.map opD).length : Nat)) = false) ∨ ((kind == 4) = true ∧ ((k : Int) == ((w.n2.ops.map opD).length : Nat)) = true ∧ w.n2.alone = false)) →
       IR (doneM w w.n2.ops (k : Nat)) (W f_impl_World_deliver [.ptr 0 0, msgA ⟨kind, 2, term, (k : Nat), op, ops⟩] (iS w)) := by
      intro s hs hq hcase
      generalize doneM w w.n2.ops (k : Nat) = w' at hs ⊢
      rcases hcase with c1 | ⟨c1, c2⟩ | ⟨c1, c2, c3⟩
      ·rw [h.call]
       repeat (conv=>arg 2;whnf;arg 2;tactic=>first|exact g1|exact k1|exact k3|exact hle|exact ht'|exact c1|exact gN|exact congrArg not k1|exact congrArg not k3|exact congrArg not hle|exact congrArg not ht'|exact congrArg not c1|exact congrArg not gN|exact g2)
       conv => arg 2; whnf; arg 2; tactic => exact hq
       cases hs
       ·repeat (conv=>arg 2;whnf;arg 2;tactic=>first|exact g1|exact gN|exact congrArg not gN|exact g2)
        conv => arg 2; whnf
        exact .s00 ..
       ·repeat (conv=>arg 2;whnf;arg 2;tactic=>first|exact g1|exact gN|exact congrArg not gN|exact g2)
        conv => arg 2; whnf
        exact .sD0 ..
       ·repeat (conv=>arg 2;whnf;arg 2;tactic=>first|exact g1|exact gN|exact congrArg not gN|exact g2)
        conv => arg 2; whnf
        exact .s0R ..
       ·repeat (conv=>arg 2;whnf;arg 2;tactic=>first|exact g1|exact gN|exact congrArg not gN|exact g2)
        conv => arg 2; whnf
        exact .sDR ..
      ·rw [h.call]
       repeat (conv=>arg 2;whnf;arg 2;tactic=>first|exact g1|exact k1|exact k3|exact hle|exact ht'|exact c1|exact c2|exact gN|exact congrArg not k1|exact congrArg not k3|exact congrArg not hle|exact congrArg not ht'|exact congrArg not c1|exact congrArg not c2|exact congrArg not gN|exact g2)
       conv => arg 2; whnf; arg 2; tactic => exact hq
       cases hs
       ·repeat (conv=>arg 2;whnf;arg 2;tactic=>first|exact g1|exact gN|exact congrArg not gN|exact g2)
        conv => arg 2; whnf
        exact .s00 ..
       ·repeat (conv=>arg 2;whnf;arg 2;tactic=>first|exact g1|exact gN|exact congrArg not gN|exact g2)
        conv => arg 2; whnf
        exact .sD0 ..
       ·repeat (conv=>arg 2;whnf;arg 2;tactic=>first|exact g1|exact gN|exact congrArg not gN|exact g2)
        conv => arg 2; whnf
        exact .s0R ..
       ·repeat (conv=>arg 2;whnf;arg 2;tactic=>first|exact g1|exact gN|exact congrArg not gN|exact g2)
        conv => arg 2; whnf
        exact .sDR ..
      ·rw [h.call]
       repeat (conv=>arg 2;whnf;arg 2;tactic=>first|exact g1|exact k1|exact k3|exact hle|exact ht'|exact c1|exact c2|exact c3|exact gN|exact congrArg not k1|exact congrArg not k3|exact congrArg not hle|exact congrArg not ht'|exact congrArg not c1|exact congrArg not c2|exact congrArg not c3|exact congrArg not gN|exact g2)
       conv => arg 2; whnf; arg 2; tactic => exact hq
       cases hs
       ·repeat (conv=>arg 2;whnf;arg 2;tactic=>first|exact g1|exact gN|exact congrArg not gN|exact g2)
        conv => arg 2; whnf
        exact .s00 ..
       ·repeat (conv=>arg 2;whnf;arg 2;tactic=>first|exact g1|exact gN|exact congrArg not gN|exact g2)
        conv => arg 2; whnf
        exact .sD0 ..
       ·repeat (conv=>arg 2;whnf;arg 2;tactic=>first|exact g1|exact gN|exact congrArg not gN|exact g2)
        conv => arg 2; whnf
        exact .s0R ..
       ·repeat (conv=>arg 2;whnf;arg 2;tactic=>first|exact g1|exact gN|exact congrArg not gN|exact g2)
        conv => arg 2; whnf
        exact .sDR ..
     by_cases c4 : kind = 4 ∧ (k : Int) = (w.n2.ops.length : Nat) ∧ w.n2.alone = true
     ·rw [if_pos c4]
      obtain ⟨c1, c2, c3⟩ := c4
      have d1 := y1 c1
      have d2 : ((k : Int) == ((w.n2.ops.map opD).length : Nat)) = true := by rw [hlen, c2]; simp
      have ea := ev_iack h { w.setN 2 { w.n2 with alone := false } with both := true } 1 { w.n2 with alone := false } (by first | exact .inl ⟨rfl, rfl⟩ | exact .inr ⟨rfl, rfl⟩) k (by show w.n2.ops.length < _; omega)
      unfold doneM
      cases hd : decide ((k : Int) > (w.done.length : Int)) && decide ((k : Int) ≤ (w.n2.ops.length : Int))
      ·rw [if_neg (by exact fun e => by rw [show (decide ((k : Int) > (({ w.setN 2 { w.n2 with alone := false } with both := true } : WorldM).done.length : Int)) && decide ((k : Int) ≤ (w.n2.ops.length : Int))) = false from hd] at e; cases e)]
       rw [if_neg (by exact fun e => by rw [show (decide ((k : Int) > (({ w.setN 2 { w.n2 with alone := false } with both := true } : WorldM).done.length : Int)) && decide ((k : Int) ≤ (({ w.n2 with alone := false } : NodeM).ops.length : Int))) = false from hd] at e; cases e)] at ea
       rw [h.call]
       repeat (conv=>arg 2;whnf;arg 2;tactic=>first|exact g1|exact k1|exact k3|exact hle|exact ht'|exact d1|exact d2|exact c3|exact ea|exact gS|exact gN|exact congrArg not k1|exact congrArg not k3|exact congrArg not hle|exact congrArg not ht'|exact congrArg not d1|exact congrArg not d2|exact congrArg not c3|exact congrArg not ea|exact congrArg not gN|exact g2)
       conv => arg 2; whnf
       exact .s00 ..
      ·rw [if_pos (by exact hd)]
       rw [if_pos (by exact hd)] at ea
       rw [h.call]
       repeat (conv=>arg 2;whnf;arg 2;tactic=>first|exact g1|exact k1|exact k3|exact hle|exact ht'|exact d1|exact d2|exact c3|exact ea|exact gS|exact gN|exact congrArg not k1|exact congrArg not k3|exact congrArg not hle|exact congrArg not ht'|exact congrArg not d1|exact congrArg not d2|exact congrArg not c3|exact congrArg not ea|exact congrArg not gN|exact g2)
       conv => arg 2; whnf
       exact .s0R ..
     ·rw [if_neg c4]
      refine fin _ (plain w rfl) rfl ?_
      by_cases d1 : kind = 4
      ·by_cases d2 : (k : Int) = (w.n2.ops.length : Nat)
       ·refine .inr (.inr ⟨y1 d1, by rw [hlen, d2]; simp, ?_⟩)
        cases ha : w.n2.alone
        ·rfl
        ·exact absurd ⟨d1, d2, ha⟩ c4
       ·exact .inr (.inl ⟨y1 d1, by rw [hlen]; exact n1 d2⟩)
      ·exact .inl (n1 d1)
    ·rw [if_neg (fun e => ht e.1), h.call]
     have ht' := n2 (fun e : w.n2.term = term => ht e.symm)
     repeat (conv=>arg 2;whnf;arg 2;tactic=>first|exact g1|exact k1|exact k3|exact hle|exact ht'|exact gN|exact congrArg not k1|exact congrArg not k3|exact congrArg not hle|exact congrArg not ht'|exact congrArg not gN|exact g2)
     conv => arg 2; whnf
     exact .s00 ..
theorem ev_DeleteM (ms : List MsgM) (i : Nat) (hi : i < ms.length) : W f_slices_Delete_Msg [.hw 0, .int .i64 (i : Nat), .int .i64 ((i + 1 : Nat) : Int)] [nR 0 ms] = some (.hw 1, [.dead, nR 0 (ms.take i ++ ms.drop (i + 1))]) := by
 rw [h.call, bodyX rfl (cf := cf184) (g := deleteX 10) rfl rfl]
 have e0 : (ms.map msgD).length = ms.length := List.length_map ..
 unfold nR
 rw [deleteX, if_pos ⟨rfl, by omega, by omega, by rw [e0]; omega, .inl rfl⟩]
 simp only [Int.toNat_natCast, List.map_append, List.map_take, List.map_drop]
 rw [show i + 1 - i = 1 by omega]
theorem ev_Msg_clone (m : MsgM) (hm : m.ops.length < 2000000) : W f_impl_Msg_clone [msgA m] [] = some (msgV m (.hw 0), [oR 5 m.ops]) := by
 have ec := ev_cloneOp h m.ops (by omega)
 rw [h.call]
 repeat (conv=>lhs;whnf;arg 2;tactic=>first|exact g1|exact ec|exact gS|exact gN|exact congrArg not ec|exact congrArg not gN|exact g2)
 rfl
theorem ev_inet (w : WorldM) (hw : WG w) (hi : WInv w) (kind : Int) (hk : kind = 2 ∨ kind = 3 ∨ kind = 4) (i : Int) : IR (netM w kind i) (W f_impl_World_net [.ptr 0 0, .int .i64 kind, .int .i64 i] (iS w)) := by
 have hl := hw.nl
 have hlen : ((w.nets.map msgD).length : Nat) = w.nets.length := List.length_map ..
 have hwr : IntKind.i64.wrap (((w.nets.map msgD).length : Nat) - 1 : Int) = (w.nets.length : Int) - 1 := by rw [hlen]; exact wrap_id (by omega) (by omega)
 have ein := ev_within h i 0 (IntKind.i64.wrap (((w.nets.map msgD).length : Nat) - 1 : Int))
 rw [hwr] at ein
 unfold netM
 cases hin : inR i 0 ((w.nets.length : Int) - 1)
 ·rw [hin, ← hwr] at ein
  rw [if_neg (by simp), h.call]
  repeat (conv=>arg 2;whnf;arg 2;tactic=>first|exact g1|exact ein|exact gN|exact congrArg not ein|exact congrArg not gN|exact g2)
  conv => arg 2; whnf
  exact .s00 ..
 ·rw [hin, ← hwr] at ein
  rw [if_pos rfl]
  have hin' : 0 ≤ i ∧ i ≤ (w.nets.length : Int) - 1 := by simpa [inR] using hin
  obtain ⟨k, rfl⟩ : ∃ k : Nat, i = k := ⟨i.toNat, by omega⟩
  obtain ⟨m, hx⟩ := get_some (xs := w.nets) (i := k) (by omega)
  have hmem := List.mem_of_getElem? hx
  have hmg := hw.nets m hmem
  have hmo := (hi.ms m hmem).1
  rw [Int.toNat_natCast, hx]
  simp only
  have hws : IntKind.i64.wrap ((k : Int) + 1) = ((k + 1 : Nat) : Int) := wrap_succ (by omega)
  by_cases k4 : kind = 4
  ·rw [if_pos k4]
   subst k4
   have ec := ev_Msg_clone h m (by have := hmg.ops.l; omega)
   have es := ev_isendH h w m hl
   unfold sendM
   cases hc : decide ((w.nets.length : Int) < 12)
   ·simp only [hc, Bool.false_eq_true, if_false] at es ⊢
    rw [h.call]
    repeat (conv=>arg 2;whnf;arg 2;tactic=>first|exact g1|exact ein|exact map_get hx|exact ec|exact es|exact gS|exact gN|exact congrArg not ein|exact congrArg not ec|exact congrArg not es|exact congrArg not gN|exact g2)
    conv => arg 2; whnf
    exact .s00 ..
   ·simp only [hc, if_true] at es ⊢
    rw [h.call]
    repeat (conv=>arg 2;whnf;arg 2;tactic=>first|exact g1|exact ein|exact map_get hx|exact ec|exact es|exact gS|exact gN|exact congrArg not ein|exact congrArg not ec|exact congrArg not es|exact congrArg not gN|exact g2)
    conv => arg 2; whnf
    exact .sD0 ..
  ·rw [if_neg k4]
   have q4 : (kind == 4) = false := by simp [k4]
   have ed := ev_DeleteM h w.nets k (by omega)
   rw [← hws] at ed
   obtain ⟨w2, hw2⟩ : ∃ w2 : WorldM, w2 = { w with nets := w.nets.take k ++ w.nets.drop (k + 1) } := ⟨_, rfl⟩
   rw [← hw2]
   by_cases k2 : kind = 2
   ·have q2 : (kind == 2) = true := by simp [k2]
    rw [if_pos k2]
    have hg2 : WG w2 := by rw [hw2]; exact hw.drop1 k
    have hv2 : WInv w2 := by rw [hw2]; exact winv_drop hi k
    obtain ⟨hto, _⟩ := msg_kind hmo
    have bq : (m.to = 1 ∨ m.to = 2) ∧ True := ⟨hto, trivial⟩
    cases hup : (w2.nd m.to).up
    ·have hb : bringM w2 m = w2 := by
      unfold bringM
      rw [hup, if_neg (by simp)]
     rw [hb]
     subst hw2
     obtain ⟨mk, mto, mte, mn, mop, mops⟩ := m
     simp only at hto
     rcases hto with rfl | rfl
     all_goals
      rw [h.call]
      repeat (conv=>arg 2;whnf;arg 2;tactic=>first|exact g1|exact ein|exact map_get hx|exact q4|exact ed|exact q2|exact hup|exact gS|exact gN|exact congrArg not ein|exact congrArg not q4|exact congrArg not ed|exact congrArg not q2|exact congrArg not hup|exact congrArg not gN|exact g2)
      conv => arg 2; whnf
      exact .sD0 ..
    ·obtain ⟨r, hq, hr⟩ := ex_of (ev_ideliver h w2 hg2 hv2 m hmo hmg hup)
     generalize bringM w2 m = w' at hr ⊢
     subst hw2
     obtain ⟨mk, mto, mte, mn, mop, mops⟩ := m
     simp only at hto
     rcases hto with rfl | rfl
     ·rw [h.call]
      repeat (conv=>arg 2;whnf;arg 2;tactic=>first|exact g1|exact ein|exact map_get hx|exact q4|exact ed|exact q2|exact hup|exact gS|exact gN|exact congrArg not ein|exact congrArg not q4|exact congrArg not ed|exact congrArg not q2|exact congrArg not hup|exact congrArg not gN|exact g2)
      conv => arg 2; whnf; arg 2; tactic => exact hq
      cases hr
      ·repeat (conv=>arg 2;whnf;arg 2;tactic=>first|exact g1|exact gS|exact gN|exact congrArg not gN|exact g2)
       conv => arg 2; whnf
       exact .sD0 ..
      ·repeat (conv=>arg 2;whnf;arg 2;tactic=>first|exact g1|exact gS|exact gN|exact congrArg not gN|exact g2)
       conv => arg 2; whnf
       exact .sD0 ..
      ·repeat (conv=>arg 2;whnf;arg 2;tactic=>first|exact g1|exact gS|exact gN|exact congrArg not gN|exact g2)
       conv => arg 2; whnf
       exact .sDR ..
      ·repeat (conv=>arg 2;whnf;arg 2;tactic=>first|exact g1|exact gS|exact gN|exact congrArg not gN|exact g2)
       conv => arg 2; whnf
       exact .sDR ..
     ·rw [h.call]
      repeat (conv=>arg 2;whnf;arg 2;tactic=>first|exact g1|exact ein|exact map_get hx|exact q4|exact ed|exact q2|exact hup|exact gS|exact gN|exact congrArg not ein|exact congrArg not q4|exact congrArg not ed|exact congrArg not q2|exact congrArg not hup|exact congrArg not gN|exact g2)
      conv => arg 2; whnf; arg 2; tactic => exact hq
      cases hr
      ·repeat (conv=>arg 2;whnf;arg 2;tactic=>first|exact g1|exact gS|exact gN|exact congrArg not gN|exact g2)
       conv => arg 2; whnf
       exact .sD0 ..
      ·repeat (conv=>arg 2;whnf;arg 2;tactic=>first|exact g1|exact gS|exact gN|exact congrArg not gN|exact g2)
       conv => arg 2; whnf
       exact .sD0 ..
      ·repeat (conv=>arg 2;whnf;arg 2;tactic=>first|exact g1|exact gS|exact gN|exact congrArg not gN|exact g2)
       conv => arg 2; whnf
       exact .sDR ..
      ·repeat (conv=>arg 2;whnf;arg 2;tactic=>first|exact g1|exact gS|exact gN|exact congrArg not gN|exact g2)
       conv => arg 2; whnf
       exact .sDR ..
   ·have q2 : (kind == 2) = false := by simp [k2]
    rw [if_neg k2]
    subst hw2
    rw [h.call]
    repeat (conv=>arg 2;whnf;arg 2;tactic=>first|exact g1|exact ein|exact map_get hx|exact q4|exact ed|exact q2|exact gS|exact gN|exact congrArg not ein|exact congrArg not q4|exact congrArg not ed|exact congrArg not q2|exact congrArg not gN|exact g2)
    conv => arg 2; whnf
    exact .sD0 ..
end
end Go.Gn

namespace Go.Gn
open Go
set_option maxRecDepth 100000
set_option maxHeartbeats 16000000
section
variable {W : CallF} {L : LoopF} {E : EqF} {T : Prop → Bool} (h : IsK G W L E T)
include h
theorem ev_ijoin (w : WorldM) (hw : WG w) : IR (joinM w) (W f_impl_World_join [.ptr 0 0] (iS w)) := by
 have hl := hw.nl
 have hlead := hw.lead
 unfold joinM
 obtain ⟨a1, a2, term, lead, both, nets, done⟩ := w
 simp only at hlead hl
 rcases hlead with rfl | rfl
 ·cases hup : a1.up
  ·rw [show (WorldM.nd ⟨a1, a2, term, 1, both, nets, done⟩ 1).up = false from hup, if_neg (by simp), h.call]
   repeat (conv=>arg 2;whnf;arg 2;tactic=>first|exact g1|exact hup|exact gS|exact gN|exact congrArg not hup|exact congrArg not gN|exact g2)
   conv => arg 2; whnf
   exact .s00 ..
  ·rw [show (WorldM.nd ⟨a1, a2, term, 1, both, nets, done⟩ 1).up = true from hup, if_pos rfl]
   have hln : ((a1.ops.map opD).length : Nat) = a1.ops.length := List.length_map ..
   have hol := hw.o1.l
   simp only at hol
   have ec := ev_cloneOp h a1.ops (by omega)
   rw [show joinMsg ⟨a1, a2, term, 1, both, nets, done⟩ = ⟨3, IntKind.i64.wrap (3 - 1), a1.term, ((a1.ops.map opD).length : Nat), noOp, a1.ops⟩ from by rw [hln]; rfl]
   have es := ev_isendH h ⟨a1, a2, term, 1, both, nets, done⟩ ⟨3, IntKind.i64.wrap (3 - 1), a1.term, ((a1.ops.map opD).length : Nat), noOp, a1.ops⟩ hl
   unfold sendM
   cases hc : decide ((nets.length : Int) < 12)
   ·simp only [hc, Bool.false_eq_true, if_false] at es ⊢
    rw [h.call]
    repeat (conv=>arg 2;whnf;arg 2;tactic=>first|exact g1|exact hup|exact ec|exact es|exact gS|exact gN|exact congrArg not hup|exact congrArg not ec|exact congrArg not es|exact congrArg not gN|exact g2)
    conv => arg 2; whnf
    exact .s00 ..
   ·simp only [hc, if_true] at es ⊢
    rw [h.call]
    repeat (conv=>arg 2;whnf;arg 2;tactic=>first|exact g1|exact hup|exact ec|exact es|exact gS|exact gN|exact congrArg not hup|exact congrArg not ec|exact congrArg not es|exact congrArg not gN|exact g2)
    conv => arg 2; whnf
    exact .sD0 ..
 ·cases hup : a2.up
  ·rw [show (WorldM.nd ⟨a1, a2, term, 2, both, nets, done⟩ 2).up = false from hup, if_neg (by simp), h.call]
   repeat (conv=>arg 2;whnf;arg 2;tactic=>first|exact g1|exact hup|exact gS|exact gN|exact congrArg not hup|exact congrArg not gN|exact g2)
   conv => arg 2; whnf
   exact .s00 ..
  ·rw [show (WorldM.nd ⟨a1, a2, term, 2, both, nets, done⟩ 2).up = true from hup, if_pos rfl]
   have hln : ((a2.ops.map opD).length : Nat) = a2.ops.length := List.length_map ..
   have hol := hw.o2.l
   simp only at hol
   have ec := ev_cloneOp h a2.ops (by omega)
   rw [show joinMsg ⟨a1, a2, term, 2, both, nets, done⟩ = ⟨3, IntKind.i64.wrap (3 - 2), a2.term, ((a2.ops.map opD).length : Nat), noOp, a2.ops⟩ from by rw [hln]; rfl]
   have es := ev_isendH h ⟨a1, a2, term, 2, both, nets, done⟩ ⟨3, IntKind.i64.wrap (3 - 2), a2.term, ((a2.ops.map opD).length : Nat), noOp, a2.ops⟩ hl
   unfold sendM
   cases hc : decide ((nets.length : Int) < 12)
   ·simp only [hc, Bool.false_eq_true, if_false] at es ⊢
    rw [h.call]
    repeat (conv=>arg 2;whnf;arg 2;tactic=>first|exact g1|exact hup|exact ec|exact es|exact gS|exact gN|exact congrArg not hup|exact congrArg not ec|exact congrArg not es|exact congrArg not gN|exact g2)
    conv => arg 2; whnf
    exact .s00 ..
   ·simp only [hc, if_true] at es ⊢
    rw [h.call]
    repeat (conv=>arg 2;whnf;arg 2;tactic=>first|exact g1|exact hup|exact ec|exact es|exact gS|exact gN|exact congrArg not hup|exact congrArg not ec|exact congrArg not es|exact congrArg not gN|exact g2)
    conv => arg 2; whnf
    exact .sD0 ..
theorem ev_ido (w : WorldM) (hw : WG w) (hi : WInv w) (e : EvM) (he : e.op.Sz) : IR (doM w e) (W f_impl_World_do [.ptr 0 0, evA e] (iS w)) := by
 have hl := hw.nl
 have n1 : ∀ {a b : Int}, ¬ a = b → (a == b) = false := fun hab => by simp [hab]
 have y1 : ∀ {a b : Int}, a = b → (a == b) = true := fun hab => by simp [hab]
 have ein := ev_isNode h e.a
 have hlead := hw.lead
 have eask : inR e.a 1 2 = true → IR (askM w e.a e.op) (W f_impl_World_ask [.ptr 0 0, .int .i64 e.a, .agg (opC e.op)] (iS w)) := fun hc => ev_iask h w hw hi.k1 hi.k2 e.a (inR12 hc) e.op he
 have enet := fun hk => ev_inet h w hw hi e.kind hk e.a
 have elead := fun (id : Int) hid => ev_itake h w hw id hid
 have ejoin := ev_ijoin h w hw
 unfold doM
 obtain ⟨ek, ea, eo⟩ := e
 obtain ⟨a1, a2, term, lead, both, nets, done⟩ := w
 simp only at *
 by_cases k1 : ek = 1
 ·rw [if_pos k1]
  cases hc : inR ea 1 2
  ·rw [hc] at ein
   rw [if_neg (by simp), h.call]
   repeat (conv=>arg 2;whnf;arg 2;tactic=>first|exact g1|exact y1 k1|exact ein|exact gN|exact congrArg not ein|exact congrArg not gN|exact g2)
   conv => arg 2; whnf
   exact .s00 ..
  ·rw [hc] at ein
   rw [if_pos rfl]
   obtain ⟨r, hq, hr⟩ := ex_of (eask hc)
   clear eask
   generalize askM ⟨a1, a2, term, lead, both, nets, done⟩ ea eo = w' at hr ⊢
   rw [h.call]
   repeat (conv=>arg 2;whnf;arg 2;tactic=>first|exact g1|exact y1 k1|exact ein|exact gS|exact gN|exact congrArg not ein|exact congrArg not gN|exact g2)
   conv => arg 2; whnf; arg 2; tactic => exact hq
   cases hr
   ·repeat (conv=>arg 2;whnf;arg 2;tactic=>first|exact g1|exact gS|exact gN|exact congrArg not gN|exact g2)
    conv => arg 2; whnf
    exact .s00 ..
   ·repeat (conv=>arg 2;whnf;arg 2;tactic=>first|exact g1|exact gS|exact gN|exact congrArg not gN|exact g2)
    conv => arg 2; whnf
    exact .sD0 ..
   ·repeat (conv=>arg 2;whnf;arg 2;tactic=>first|exact g1|exact gS|exact gN|exact congrArg not gN|exact g2)
    conv => arg 2; whnf
    exact .s0R ..
   ·repeat (conv=>arg 2;whnf;arg 2;tactic=>first|exact g1|exact gS|exact gN|exact congrArg not gN|exact g2)
    conv => arg 2; whnf
    exact .sDR ..
 ·rw [if_neg k1]
  by_cases k2 : ek = 2 ∨ ek = 3 ∨ ek = 4
  ·rw [if_pos k2]
   obtain ⟨r, hq, hr⟩ := ex_of (enet k2)
   clear enet
   generalize netM ⟨a1, a2, term, lead, both, nets, done⟩ ek ea = w' at hr ⊢
   have ek2 : (ek == 2) = true ∨ ((ek == 2) = false ∧ (ek == 3) = true) ∨ ((ek == 2) = false ∧ (ek == 3) = false ∧ (ek == 4) = true) := by
    rcases k2 with rfl | rfl | rfl
    ·exact .inl rfl
    ·exact .inr (.inl ⟨rfl, rfl⟩)
    ·exact .inr (.inr ⟨rfl, rfl, rfl⟩)
   rw [h.call]
   rcases ek2 with q2 | ⟨q2, q3⟩ | ⟨q2, q3, q4⟩
   ·repeat (conv=>arg 2;whnf;arg 2;tactic=>first|exact g1|exact n1 k1|exact q2|exact gS|exact gN|exact congrArg not q2|exact congrArg not gN|exact g2)
    conv => arg 2; whnf; arg 2; tactic => exact hq
    cases hr
    ·repeat (conv=>arg 2;whnf;arg 2;tactic=>first|exact g1|exact gS|exact gN|exact congrArg not gN|exact g2)
     conv => arg 2; whnf
     exact .s00 ..
    ·repeat (conv=>arg 2;whnf;arg 2;tactic=>first|exact g1|exact gS|exact gN|exact congrArg not gN|exact g2)
     conv => arg 2; whnf
     exact .sD0 ..
    ·repeat (conv=>arg 2;whnf;arg 2;tactic=>first|exact g1|exact gS|exact gN|exact congrArg not gN|exact g2)
     conv => arg 2; whnf
     exact .s0R ..
    ·repeat (conv=>arg 2;whnf;arg 2;tactic=>first|exact g1|exact gS|exact gN|exact congrArg not gN|exact g2)
     conv => arg 2; whnf
     exact .sDR ..
   ·repeat (conv=>arg 2;whnf;arg 2;tactic=>first|exact g1|exact n1 k1|exact q2|exact q3|exact gS|exact gN|exact congrArg not q2|exact congrArg not q3|exact congrArg not gN|exact g2)
    conv => arg 2; whnf; arg 2; tactic => exact hq
    cases hr
    ·repeat (conv=>arg 2;whnf;arg 2;tactic=>first|exact g1|exact gS|exact gN|exact congrArg not gN|exact g2)
     conv => arg 2; whnf
     exact .s00 ..
    ·repeat (conv=>arg 2;whnf;arg 2;tactic=>first|exact g1|exact gS|exact gN|exact congrArg not gN|exact g2)
     conv => arg 2; whnf
     exact .sD0 ..
    ·repeat (conv=>arg 2;whnf;arg 2;tactic=>first|exact g1|exact gS|exact gN|exact congrArg not gN|exact g2)
     conv => arg 2; whnf
     exact .s0R ..
    ·repeat (conv=>arg 2;whnf;arg 2;tactic=>first|exact g1|exact gS|exact gN|exact congrArg not gN|exact g2)
     conv => arg 2; whnf
     exact .sDR ..
   ·repeat (conv=>arg 2;whnf;arg 2;tactic=>first|exact g1|exact n1 k1|exact q2|exact q3|exact q4|exact gS|exact gN|exact congrArg not q2|exact congrArg not q3|exact congrArg not q4|exact congrArg not gN|exact g2)
    conv => arg 2; whnf; arg 2; tactic => exact hq
    cases hr
    ·repeat (conv=>arg 2;whnf;arg 2;tactic=>first|exact g1|exact gS|exact gN|exact congrArg not gN|exact g2)
     conv => arg 2; whnf
     exact .s00 ..
    ·repeat (conv=>arg 2;whnf;arg 2;tactic=>first|exact g1|exact gS|exact gN|exact congrArg not gN|exact g2)
     conv => arg 2; whnf
     exact .sD0 ..
    ·repeat (conv=>arg 2;whnf;arg 2;tactic=>first|exact g1|exact gS|exact gN|exact congrArg not gN|exact g2)
     conv => arg 2; whnf
     exact .s0R ..
    ·repeat (conv=>arg 2;whnf;arg 2;tactic=>first|exact g1|exact gS|exact gN|exact congrArg not gN|exact g2)
     conv => arg 2; whnf
     exact .sDR ..
  ·rw [if_neg k2]
   have q2 : ¬ ek = 2 := fun e => k2 (.inl e)
   have q3 : ¬ ek = 3 := fun e => k2 (.inr (.inl e))
   have q4 : ¬ ek = 4 := fun e => k2 (.inr (.inr e))
   by_cases k5 : ek = 5 ∨ ek = 6
   ·rw [if_pos k5]
    have ek5 : (ek == 5) = true ∨ ((ek == 5) = false ∧ (ek == 6) = true) := by
     rcases k5 with rfl | rfl
     ·exact .inl rfl
     ·exact .inr ⟨rfl, rfl⟩
    cases hc : inR ea 1 2
    ·rw [hc] at ein
     rw [if_neg (by simp), h.call]
     rcases ek5 with q5 | ⟨q5, q6⟩
     ·repeat (conv=>arg 2;whnf;arg 2;tactic=>first|exact g1|exact n1 k1|exact n1 q2|exact n1 q3|exact n1 q4|exact q5|exact ein|exact gN|exact congrArg not q5|exact congrArg not ein|exact congrArg not gN|exact g2)
      conv => arg 2; whnf
      exact .s00 ..
     ·repeat (conv=>arg 2;whnf;arg 2;tactic=>first|exact g1|exact n1 k1|exact n1 q2|exact n1 q3|exact n1 q4|exact q5|exact q6|exact ein|exact gN|exact congrArg not q5|exact congrArg not q6|exact congrArg not ein|exact congrArg not gN|exact g2)
      conv => arg 2; whnf
      exact .s00 ..
    ·rw [hc] at ein
     rw [if_pos rfl, h.call]
     rcases inR12 hc with rfl | rfl
     ·rcases ek5 with q5 | ⟨q5, q6⟩
      ·repeat (conv=>arg 2;whnf;arg 2;tactic=>first|exact g1|exact n1 k1|exact n1 q2|exact n1 q3|exact n1 q4|exact q5|exact ein|exact gS|exact gN|exact congrArg not q5|exact congrArg not ein|exact congrArg not gN|exact g2)
       conv => arg 2; whnf
       exact .s00 ..
      ·repeat (conv=>arg 2;whnf;arg 2;tactic=>first|exact g1|exact n1 k1|exact n1 q2|exact n1 q3|exact n1 q4|exact q5|exact q6|exact ein|exact gS|exact gN|exact congrArg not q5|exact congrArg not q6|exact congrArg not ein|exact congrArg not gN|exact g2)
       conv => arg 2; whnf
       exact .s00 ..
     ·rcases ek5 with q5 | ⟨q5, q6⟩
      ·repeat (conv=>arg 2;whnf;arg 2;tactic=>first|exact g1|exact n1 k1|exact n1 q2|exact n1 q3|exact n1 q4|exact q5|exact ein|exact gS|exact gN|exact congrArg not q5|exact congrArg not ein|exact congrArg not gN|exact g2)
       conv => arg 2; whnf
       exact .s00 ..
      ·repeat (conv=>arg 2;whnf;arg 2;tactic=>first|exact g1|exact n1 k1|exact n1 q2|exact n1 q3|exact n1 q4|exact q5|exact q6|exact ein|exact gS|exact gN|exact congrArg not q5|exact congrArg not q6|exact congrArg not ein|exact congrArg not gN|exact g2)
       conv => arg 2; whnf
       exact .s00 ..
   ·rw [if_neg k5]
    have q5 : ¬ ek = 5 := fun e => k5 (.inl e)
    have q6 : ¬ ek = 6 := fun e => k5 (.inr e)
    by_cases k7 : ek = 7
    ·rw [if_pos k7]
     cases both
     ·rw [if_neg (by simp), h.call]
      repeat (conv=>arg 2;whnf;arg 2;tactic=>first|exact g1|exact n1 k1|exact n1 q2|exact n1 q3|exact n1 q4|exact n1 q5|exact n1 q6|exact y1 k7|exact gN|exact congrArg not gN|exact g2)
      conv => arg 2; whnf
      exact .s00 ..
     ·rcases hlead with rfl | rfl
      ·rw [show (3 : Int) - 1 = IntKind.i64.wrap (3 - 1) from rfl]
       simp only [Bool.true_and]
       cases hup : a2.up
       ·rw [show (WorldM.nd ⟨a1, a2, term, 1, true, nets, done⟩ (IntKind.i64.wrap (3 - 1))).up = false from hup, if_neg (by simp), h.call]
        repeat (conv=>arg 2;whnf;arg 2;tactic=>first|exact g1|exact n1 k1|exact n1 q2|exact n1 q3|exact n1 q4|exact n1 q5|exact n1 q6|exact y1 k7|exact hup|exact gS|exact gN|exact congrArg not hup|exact congrArg not gN|exact g2)
        conv => arg 2; whnf
        exact .s00 ..
       ·rw [show (WorldM.nd ⟨a1, a2, term, 1, true, nets, done⟩ (IntKind.i64.wrap (3 - 1))).up = true from hup, if_pos rfl]
        obtain ⟨r, hq, hr⟩ := ex_of (elead (IntKind.i64.wrap (3 - 1)) (by decide))
        generalize leadM _ _ = w' at hr ⊢
        rw [h.call]
        repeat (conv=>arg 2;whnf;arg 2;tactic=>first|exact g1|exact n1 k1|exact n1 q2|exact n1 q3|exact n1 q4|exact n1 q5|exact n1 q6|exact y1 k7|exact hup|exact gS|exact gN|exact congrArg not hup|exact congrArg not gN|exact g2)
        conv => arg 2; whnf; arg 2; tactic => exact hq
        cases hr
        ·repeat (conv=>arg 2;whnf;arg 2;tactic=>first|exact g1|exact gS|exact gN|exact congrArg not gN|exact g2)
         conv => arg 2; whnf
         exact .s00 ..
        ·repeat (conv=>arg 2;whnf;arg 2;tactic=>first|exact g1|exact gS|exact gN|exact congrArg not gN|exact g2)
         conv => arg 2; whnf
         exact .sD0 ..
        ·repeat (conv=>arg 2;whnf;arg 2;tactic=>first|exact g1|exact gS|exact gN|exact congrArg not gN|exact g2)
         conv => arg 2; whnf
         exact .s0R ..
        ·repeat (conv=>arg 2;whnf;arg 2;tactic=>first|exact g1|exact gS|exact gN|exact congrArg not gN|exact g2)
         conv => arg 2; whnf
         exact .sDR ..
      ·rw [show (3 : Int) - 2 = IntKind.i64.wrap (3 - 2) from rfl]
       simp only [Bool.true_and]
       cases hup : a1.up
       ·rw [show (WorldM.nd ⟨a1, a2, term, 2, true, nets, done⟩ (IntKind.i64.wrap (3 - 2))).up = false from hup, if_neg (by simp), h.call]
        repeat (conv=>arg 2;whnf;arg 2;tactic=>first|exact g1|exact n1 k1|exact n1 q2|exact n1 q3|exact n1 q4|exact n1 q5|exact n1 q6|exact y1 k7|exact hup|exact gS|exact gN|exact congrArg not hup|exact congrArg not gN|exact g2)
        conv => arg 2; whnf
        exact .s00 ..
       ·rw [show (WorldM.nd ⟨a1, a2, term, 2, true, nets, done⟩ (IntKind.i64.wrap (3 - 2))).up = true from hup, if_pos rfl]
        obtain ⟨r, hq, hr⟩ := ex_of (elead (IntKind.i64.wrap (3 - 2)) (by decide))
        generalize leadM _ _ = w' at hr ⊢
        rw [h.call]
        repeat (conv=>arg 2;whnf;arg 2;tactic=>first|exact g1|exact n1 k1|exact n1 q2|exact n1 q3|exact n1 q4|exact n1 q5|exact n1 q6|exact y1 k7|exact hup|exact gS|exact gN|exact congrArg not hup|exact congrArg not gN|exact g2)
        conv => arg 2; whnf; arg 2; tactic => exact hq
        cases hr
        ·repeat (conv=>arg 2;whnf;arg 2;tactic=>first|exact g1|exact gS|exact gN|exact congrArg not gN|exact g2)
         conv => arg 2; whnf
         exact .s00 ..
        ·repeat (conv=>arg 2;whnf;arg 2;tactic=>first|exact g1|exact gS|exact gN|exact congrArg not gN|exact g2)
         conv => arg 2; whnf
         exact .sD0 ..
        ·repeat (conv=>arg 2;whnf;arg 2;tactic=>first|exact g1|exact gS|exact gN|exact congrArg not gN|exact g2)
         conv => arg 2; whnf
         exact .s0R ..
        ·repeat (conv=>arg 2;whnf;arg 2;tactic=>first|exact g1|exact gS|exact gN|exact congrArg not gN|exact g2)
         conv => arg 2; whnf
         exact .sDR ..
    ·rw [if_neg k7]
     by_cases k8 : ek = 8
     ·rw [if_pos k8]
      cases both
      ·rw [if_neg (by simp), h.call]
       repeat (conv=>arg 2;whnf;arg 2;tactic=>first|exact g1|exact n1 k1|exact n1 q2|exact n1 q3|exact n1 q4|exact n1 q5|exact n1 q6|exact n1 k7|exact y1 k8|exact gN|exact congrArg not gN|exact g2)
       conv => arg 2; whnf
       exact .s00 ..
      ·rcases hlead with rfl | rfl
       ·simp only [Bool.true_and]
        cases hup : a1.up
        ·rw [show (WorldM.nd ⟨a1, a2, term, 1, true, nets, done⟩ 1).up = false from hup, if_neg (by simp), h.call]
         repeat (conv=>arg 2;whnf;arg 2;tactic=>first|exact g1|exact n1 k1|exact n1 q2|exact n1 q3|exact n1 q4|exact n1 q5|exact n1 q6|exact n1 k7|exact y1 k8|exact hup|exact gS|exact gN|exact congrArg not hup|exact congrArg not gN|exact g2)
         conv => arg 2; whnf
         exact .s00 ..
        ·rw [show (WorldM.nd ⟨a1, a2, term, 1, true, nets, done⟩ 1).up = true from hup, if_pos rfl]
         obtain ⟨r, hq, hr⟩ := ex_of (elead 1 (by decide))
         generalize leadM _ _ = w' at hr ⊢
         rw [h.call]
         repeat (conv=>arg 2;whnf;arg 2;tactic=>first|exact g1|exact n1 k1|exact n1 q2|exact n1 q3|exact n1 q4|exact n1 q5|exact n1 q6|exact n1 k7|exact y1 k8|exact hup|exact gS|exact gN|exact congrArg not hup|exact congrArg not gN|exact g2)
         conv => arg 2; whnf; arg 2; tactic => exact hq
         cases hr
         ·repeat (conv=>arg 2;whnf;arg 2;tactic=>first|exact g1|exact gS|exact gN|exact congrArg not gN|exact g2)
          conv => arg 2; whnf
          exact .s00 ..
         ·repeat (conv=>arg 2;whnf;arg 2;tactic=>first|exact g1|exact gS|exact gN|exact congrArg not gN|exact g2)
          conv => arg 2; whnf
          exact .sD0 ..
         ·repeat (conv=>arg 2;whnf;arg 2;tactic=>first|exact g1|exact gS|exact gN|exact congrArg not gN|exact g2)
          conv => arg 2; whnf
          exact .s0R ..
         ·repeat (conv=>arg 2;whnf;arg 2;tactic=>first|exact g1|exact gS|exact gN|exact congrArg not gN|exact g2)
          conv => arg 2; whnf
          exact .sDR ..
       ·simp only [Bool.true_and]
        cases hup : a2.up
        ·rw [show (WorldM.nd ⟨a1, a2, term, 2, true, nets, done⟩ 2).up = false from hup, if_neg (by simp), h.call]
         repeat (conv=>arg 2;whnf;arg 2;tactic=>first|exact g1|exact n1 k1|exact n1 q2|exact n1 q3|exact n1 q4|exact n1 q5|exact n1 q6|exact n1 k7|exact y1 k8|exact hup|exact gS|exact gN|exact congrArg not hup|exact congrArg not gN|exact g2)
         conv => arg 2; whnf
         exact .s00 ..
        ·rw [show (WorldM.nd ⟨a1, a2, term, 2, true, nets, done⟩ 2).up = true from hup, if_pos rfl]
         obtain ⟨r, hq, hr⟩ := ex_of (elead 2 (by decide))
         generalize leadM _ _ = w' at hr ⊢
         rw [h.call]
         repeat (conv=>arg 2;whnf;arg 2;tactic=>first|exact g1|exact n1 k1|exact n1 q2|exact n1 q3|exact n1 q4|exact n1 q5|exact n1 q6|exact n1 k7|exact y1 k8|exact hup|exact gS|exact gN|exact congrArg not hup|exact congrArg not gN|exact g2)
         conv => arg 2; whnf; arg 2; tactic => exact hq
         cases hr
         ·repeat (conv=>arg 2;whnf;arg 2;tactic=>first|exact g1|exact gS|exact gN|exact congrArg not gN|exact g2)
          conv => arg 2; whnf
          exact .s00 ..
         ·repeat (conv=>arg 2;whnf;arg 2;tactic=>first|exact g1|exact gS|exact gN|exact congrArg not gN|exact g2)
          conv => arg 2; whnf
          exact .sD0 ..
         ·repeat (conv=>arg 2;whnf;arg 2;tactic=>first|exact g1|exact gS|exact gN|exact congrArg not gN|exact g2)
          conv => arg 2; whnf
          exact .s0R ..
         ·repeat (conv=>arg 2;whnf;arg 2;tactic=>first|exact g1|exact gS|exact gN|exact congrArg not gN|exact g2)
          conv => arg 2; whnf
          exact .sDR ..
     ·rw [if_neg k8]
      by_cases k9 : ek = 9
      ·rw [if_pos k9]
       obtain ⟨r, hq, hr⟩ := ex_of ejoin
       clear ejoin
       generalize joinM ⟨a1, a2, term, lead, both, nets, done⟩ = w' at hr ⊢
       rw [h.call]
       repeat (conv=>arg 2;whnf;arg 2;tactic=>first|exact g1|exact n1 k1|exact n1 q2|exact n1 q3|exact n1 q4|exact n1 q5|exact n1 q6|exact n1 k7|exact n1 k8|exact y1 k9|exact gS|exact gN|exact congrArg not gN|exact g2)
       conv => arg 2; whnf; arg 2; tactic => exact hq
       cases hr
       ·repeat (conv=>arg 2;whnf;arg 2;tactic=>first|exact g1|exact gS|exact gN|exact congrArg not gN|exact g2)
        conv => arg 2; whnf
        exact .s00 ..
       ·repeat (conv=>arg 2;whnf;arg 2;tactic=>first|exact g1|exact gS|exact gN|exact congrArg not gN|exact g2)
        conv => arg 2; whnf
        exact .sD0 ..
       ·repeat (conv=>arg 2;whnf;arg 2;tactic=>first|exact g1|exact gS|exact gN|exact congrArg not gN|exact g2)
        conv => arg 2; whnf
        exact .s0R ..
       ·repeat (conv=>arg 2;whnf;arg 2;tactic=>first|exact g1|exact gS|exact gN|exact congrArg not gN|exact g2)
        conv => arg 2; whnf
        exact .sDR ..
      ·rw [if_neg k9, h.call]
       repeat (conv=>arg 2;whnf;arg 2;tactic=>first|exact g1|exact n1 k1|exact n1 q2|exact n1 q3|exact n1 q4|exact n1 q5|exact n1 q6|exact n1 k7|exact n1 k8|exact n1 k9|exact gN|exact congrArg not gN|exact g2)
       conv => arg 2; whnf
       exact .s00 ..
end
end Go.Gn

