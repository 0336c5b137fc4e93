/- Part 29 of a proof: an evaluator of the program, proved sound, and what it answers. -/
import Derived.Test.YtkgpnfeabojhcaaGreatA19
import Derived.Test.YtkgpnfeabojhcaaGreatA21
import Derived.Test.YtkgpnfeabojhcaaGreatA28
set_option linter.all false
namespace Go.Gn
open Go
section
variable {W : CallF} {L : LoopF} {E : EqF} {T : Prop → Bool} (h : IsK G W L E T)
include h
theorem ev_lgWorld (w : WorldM) (hw : WL w) : W f_laws_lgWorld [worldA w, worldA w] [] = some (.bool true, []) := ev_lgWorld' h w hw.o1.1 hw.o2.1 (by have := hw.nl; omega) (fun m hm => (hw.nets m hm).2.1) hw.done.1
end
end Go.Gn

namespace Go.Gn
open Go
structure TrueP (n o : NodeM) (term lead : Int) (done : List OpM) (m : MsgM) : Prop where
 le : m.term ≤ term
 old : m.term < term → (m.kind = 2 ∨ m.kind = 4) → m.to = 3 - lead → o.leads = true → o.term = m.term → m.n ≤ (o.ops.length : Int) ∧ o.ops.take m.n.toNat <+: done
 has : m.term = term → (m.kind = 2 ∨ m.kind = 4) → m.to = lead ∧ o.term = term ∧ m.n ≤ (o.ops.length : Int)
 copy : m.term = term → m.kind = 1 → m.to = 3 - lead ∧ m.n ≤ (n.ops.length : Int) ∧ hasOp n.ops m.n m.op = true
 join : m.term = term → ¬ (m.kind = 2 ∨ m.kind = 4) → m.kind ≠ 1 → m.to = 3 - lead ∧ m.ops <+: n.ops
theorem hasK_iff (m : MsgM) : hasK m = true ↔ (m.kind = 2 ∨ m.kind = 4) := by simp [hasK]
theorem true_iff (n o : NodeM) (term lead : Int) (done : List OpM) (m : MsgM) : trueM n o term lead done m = true ↔ TrueP n o term lead done m := by
 have hk := hasK_iff m
 unfold trueM
 by_cases h1 : m.term > term
 ·simp only [h1, decide_true, cond_true, Bool.false_eq_true, false_iff]
  intro h; have := h.le; omega
 ·simp only [h1, decide_false, cond_false]
  by_cases h2 : m.term < term
  ·simp only [h2, decide_true, Bool.true_and, cond_true]
   cases hc : hasK m && ((m.to == 3 - lead) && (o.leads && (o.term == m.term)))
   ·rw [cond_false]
    refine ⟨fun _ => ⟨by omega, fun _ a b c d => ?_, fun e => by omega, fun e => by omega, fun e => by omega⟩, fun _ => rfl⟩
    have : (hasK m && ((m.to == 3 - lead) && (o.leads && (o.term == m.term)))) = true := by
     rw [hk.2 a, b, c, d]; simp
    rw [this] at hc; cases hc
   ·simp only [cond_true, Bool.and_eq_true, decide_eq_true_eq, pre_iff]
    simp only [Bool.and_eq_true, beq_iff_eq] at hc
    constructor
    ·intro h
     exact ⟨by omega, fun _ _ _ _ _ => h, fun e => by omega, fun e => by omega, fun e => by omega⟩
    ·intro h
     exact h.old h2 (hk.1 hc.1) hc.2.1 hc.2.2.1 hc.2.2.2
  ·have h3 : m.term = term := by omega
   simp only [h2, decide_false, Bool.false_and, cond_false]
   cases hh : hasK m
   ·have hn : ¬ (m.kind = 2 ∨ m.kind = 4) := fun e => by rw [hk.2 e] at hh; cases hh
    simp only [cond_false]
    by_cases h4 : m.kind = 1
    ·simp only [h4, beq_self_eq_true, cond_true, Bool.and_eq_true, beq_iff_eq, decide_eq_true_eq]
     constructor
     ·intro h
      exact ⟨by omega, fun e => by omega, fun _ e => absurd e hn, fun _ _ => h, fun _ _ e => absurd h4 e⟩
     ·intro h; exact h.copy h3 h4
    ·have h5 : (m.kind == 1) = false := by simp [h4]
     simp only [h5, cond_false, Bool.and_eq_true, beq_iff_eq, pre_iff]
     constructor
     ·intro h
      exact ⟨by omega, fun e => by omega, fun _ e => absurd e hn, fun _ e => absurd e h4, fun _ _ _ => h⟩
     ·intro h; exact h.join h3 hn h4
   ·have hy := hk.1 hh
    simp only [cond_true, Bool.and_eq_true, beq_iff_eq, decide_eq_true_eq]
    constructor
    ·intro h
     exact ⟨by omega, fun e => by omega, fun _ _ => h, fun _ e => by omega, fun _ e => absurd hy e⟩
    ·intro h; exact h.has h3 hy
structure RightP (n o : NodeM) (term : Int) (both : Bool) (done : List OpM) : Prop where
 nt : n.term = term
 nl : n.leads = true
 na : n.alone = !both
 ot : o.term ≤ term
 oa : o.alone = false
 b : both = true → o.term = term
 p : o.term = term → o.leads = false ∧ o.ops <+: n.ops
 d : done <+: n.ops
 bd : both = true → done <+: o.ops
 ad : n.alone = true → done.length = n.ops.length
theorem right_iff (n o : NodeM) (term : Int) (both : Bool) (done : List OpM) : rightM n o term both done = true ↔ RightP n o term both done := by
 unfold rightM
 simp only [Bool.and_eq_true, Bool.not_eq_true', bne_eq_false_iff_eq, beq_eq_false_iff_ne, ne_eq, decide_eq_false_iff_not, Bool.and_eq_false_iff, Bool.or_eq_false_iff, Bool.not_eq_false', pre_iff]
 constructor
 ·rintro ⟨h1, h2, h3, h4, h5, h6, h7, h8, h9, h10⟩
  refine ⟨h1, h2, by revert h3; cases n.alone <;> cases both <;> simp, by omega, h5, fun hb => ?_, fun he => ?_, h8, fun hb => ?_, fun ha => ?_⟩
  ·rcases h6 with h6 | h6
   ·rw [hb] at h6; cases h6
   ·exact h6
  ·rcases h7 with h7 | h7
   ·exact absurd he h7
   ·exact h7
  ·rcases h9 with h9 | h9
   ·rw [hb] at h9; cases h9
   ·exact h9
  ·rcases h10 with h10 | h10
   ·rw [ha] at h10; cases h10
   ·omega
 ·intro h
  refine ⟨h.nt, h.nl, by rw [h.na]; cases both <;> simp, by have := h.ot; omega, h.oa, ?_, ?_, h.d, ?_, ?_⟩
  ·cases hb : both
   ·exact .inl rfl
   ·exact .inr (h.b hb)
  ·by_cases he : o.term = term
   ·exact .inr (h.p he)
   ·exact .inl he
  ·cases hb : both
   ·exact .inl rfl
   ·exact .inr (h.bd hb)
  ·cases ha : n.alone
   ·exact .inl rfl
   ·exact .inr (by have := h.ad ha; omega)
structure WInv (w : WorldM) : Prop where
 lead : w.lead = 1 ∨ w.lead = 2
 nl : w.nets.length ≤ 12
 k1 : nodeOk w.n1 = true
 k2 : nodeOk w.n2 = true
 r : RightP (w.nd w.lead) (w.nd (3 - w.lead)) w.term w.both w.done
 ms : ∀ m ∈ w.nets, msgOk m = true ∧ TrueP (w.nd w.lead) (w.nd (3 - w.lead)) w.term w.lead w.done m
theorem winv_iff {w : WorldM} (hl : w.lead = 1 ∨ w.lead = 2) : worldOkM w = true ↔ WInv w := by
 unfold worldOkM letterM
 simp only [Bool.and_eq_true, Bool.not_eq_true', decide_eq_false_iff_not, right_iff, List.all_eq_true, true_iff]
 constructor
 ·rintro ⟨h1, h2, h3, h4, h5⟩
  exact ⟨hl, by omega, h2, h3, h4, h5⟩
 ·intro h
  exact ⟨by have := h.nl; omega, h.k1, h.k2, h.r, h.ms⟩
theorem WInv.kd {w : WorldM} (h : WInv w) (id : Int) : nodeOk (w.nd id) = true := by
 unfold WorldM.nd
 split
 ·exact h.k1
 ·exact h.k2
theorem nd_set_same {w : WorldM} {id : Int} {n : NodeM} (hid : id = 1 ∨ id = 2) : (w.setN id n).nd id = n := by
 rcases hid with rfl | rfl <;> rfl
theorem nd_set_other {w : WorldM} {id : Int} {n : NodeM} (hid : id = 1 ∨ id = 2) : (w.setN id n).nd (3 - id) = w.nd (3 - id) := by
 rcases hid with rfl | rfl <;> rfl
theorem setN_other {w : WorldM} {id : Int} {n : NodeM} : (w.setN id n).term = w.term ∧ (w.setN id n).lead = w.lead ∧ (w.setN id n).both = w.both ∧ (w.setN id n).nets = w.nets ∧ (w.setN id n).done = w.done := by
 unfold WorldM.setN; split <;> exact ⟨rfl, rfl, rfl, rfl, rfl⟩
theorem nodeOk_set {w : WorldM} (h1 : nodeOk w.n1 = true) (h2 : nodeOk w.n2 = true) {id : Int} {n : NodeM} (hn : nodeOk n = true) : nodeOk (w.setN id n).n1 = true ∧ nodeOk (w.setN id n).n2 = true := by
 unfold WorldM.setN; split <;> exact ⟨by assumption, by assumption⟩
end Go.Gn

namespace Go.Gn
open Go
theorem hasOp_pre {a b : List OpM} (h : a <+: b) {k : Int} {o : OpM} (hh : hasOp a k o = true) : hasOp b k o = true := by
 unfold hasOp at hh ⊢
 obtain ⟨c, rfl⟩ := h
 cases ha : a[(k - 1).toNat]? with
 | none => rw [ha] at hh; cases hh
 | some x =>
  rw [ha] at hh
  have hl := (List.getElem?_eq_some_iff.1 ha).1
  rw [List.getElem?_append_left hl, ha]
  exact hh
theorem TrueP.grow {n n' o : NodeM} {term lead : Int} {done done' : List OpM} {m : MsgM} (h : TrueP n o term lead done m) (hn : n.ops <+: n'.ops) (hd : done <+: done') : TrueP n' o term lead done' m :=
 ⟨h.le, fun a b c d e => let ⟨p, q⟩ := h.old a b c d e; ⟨p, q.trans hd⟩, h.has, fun a b => let ⟨p, q, r⟩ := h.copy a b; ⟨p, by have := hn.length_le; omega, hasOp_pre hn r⟩, fun a b c => let ⟨p, q⟩ := h.join a b c; ⟨p, q.trans hn⟩⟩
theorem take_pre {a b : List OpM} (h : a <+: b) {k : Nat} (hk : k ≤ a.length) : b.take k = a.take k := by
 obtain ⟨c, rfl⟩ := h
 rw [List.take_append_of_le_length hk]
theorem TrueP.other {n o o' : NodeM} {term lead : Int} {done : List OpM} {m : MsgM} (h : TrueP n o term lead done m) (hA : o.term = term → o'.term = term ∧ o.ops.length ≤ o'.ops.length) (hB : o'.leads = true → o.leads = true ∧ o'.term = o.term ∧ o.ops <+: o'.ops) : TrueP n o' term lead done m :=
 ⟨h.le, fun a b c d e => by
  obtain ⟨b1, b2, b3⟩ := hB d
  obtain ⟨p, q⟩ := h.old a b c b1 (by rw [← b2]; exact e)
  refine ⟨by have := b3.length_le; omega, ?_⟩
  rw [take_pre b3 (by omega)]
  exact q, fun a b => by
  obtain ⟨p, q, r⟩ := h.has a b
  obtain ⟨s, t⟩ := hA q
  exact ⟨p, s, by omega⟩, h.copy, h.join⟩
theorem winv_send {w : WorldM} {m : MsgM} (h : WInv w) (hm : msgOk m = true) (ht : TrueP (w.nd w.lead) (w.nd (3 - w.lead)) w.term w.lead w.done m) : WInv (sendM w m) := by
 unfold sendM
 split
 ·rename_i hc
  have hc' := of_decide_eq_true hc
  exact ⟨h.lead, by simp; omega, h.k1, h.k2, h.r, fun x hx => by
   rcases List.mem_append.1 hx with hx | hx
   ·exact h.ms x hx
   ·rw [List.mem_singleton] at hx; subst hx; exact ⟨hm, ht⟩⟩
 ·exact h
theorem areOps_G {os : List OpM} (h : OpsG os) : areOps os = true := by
 rw [areOps_run, h.run, Bool.true_and, decide_eq_true_eq]
 have := h.l; omega
theorem nodeOk_iff {n : NodeM} : nodeOk n = true ↔ (0 ≤ n.term ∧ n.term ≤ 99) ∧ (n.leads = true ∨ n.alone = false) ∧ OpsG n.ops := by
 unfold nodeOk
 rw [areOps_run]
 simp only [inR, Bool.and_eq_true, Bool.or_eq_true, Bool.not_eq_true', decide_eq_true_eq]
 constructor
 ·rintro ⟨h1, h2, h3, h4⟩; exact ⟨h1, h2, h3, by omega⟩
 ·rintro ⟨h1, h2, h3⟩; exact ⟨h1, h2, h3.run, by have := h3.l; omega⟩
theorem len0 {os : List OpM} (h : ((os.length : Int) == 0) = true) : os = [] := List.eq_nil_of_length_eq_zero (by simpa using h)
theorem inR_iff {a l h : Int} : inR a l h = true ↔ l ≤ a ∧ a ≤ h := by simp [inR]
theorem set_lead {w : WorldM} (hl : w.lead = 1 ∨ w.lead = 2) (n : NodeM) : (w.setN w.lead n).nd (w.setN w.lead n).lead = n ∧ (w.setN w.lead n).nd (3 - (w.setN w.lead n).lead) = w.nd (3 - w.lead) := by
 have e : (w.setN w.lead n).lead = w.lead := setN_other.2.1
 rw [e]
 exact ⟨nd_set_same hl, nd_set_other hl⟩
theorem set_other {w : WorldM} (hl : w.lead = 1 ∨ w.lead = 2) (n : NodeM) : (w.setN (3 - w.lead) n).nd (w.setN (3 - w.lead) n).lead = w.nd w.lead ∧ (w.setN (3 - w.lead) n).nd (3 - (w.setN (3 - w.lead) n).lead) = n := by
 have e : (w.setN (3 - w.lead) n).lead = w.lead := setN_other.2.1
 rw [e]
 have h3 : 3 - w.lead = 1 ∨ 3 - w.lead = 2 := by omega
 refine ⟨?_, nd_set_same h3⟩
 have := nd_set_other (w := w) (n := n) h3
 rw [show 3 - (3 - w.lead) = w.lead by omega] at this
 exact this
theorem winv_lead {w : WorldM} (h : WInv w) {n' : NodeM} {done' : List OpM} (hn : nodeOk n' = true) (hp : (w.nd w.lead).ops <+: n'.ops) (hd : w.done <+: done') (hr : RightP n' (w.nd (3 - w.lead)) w.term w.both done') : WInv { w.setN w.lead n' with done := done' } := by
 obtain ⟨s1, s2⟩ := set_lead h.lead n'
 obtain ⟨t1, t2, t3, t4, t5⟩ := setN_other (w := w) (id := w.lead) (n := n')
 obtain ⟨k1, k2⟩ := nodeOk_set h.k1 h.k2 (id := w.lead) hn
 refine ⟨by show (w.setN w.lead n').lead = 1 ∨ _; rw [t2]; exact h.lead, by show (w.setN w.lead n').nets.length ≤ 12; rw [t4]; exact h.nl, k1, k2, ?_, ?_⟩
 ·show RightP ((w.setN w.lead n').nd (w.setN w.lead n').lead) ((w.setN w.lead n').nd (3 - (w.setN w.lead n').lead)) (w.setN w.lead n').term (w.setN w.lead n').both done'
  rw [s1, s2, t1, t3]; exact hr
 ·intro m hm
  have hm' : m ∈ w.nets := by rw [← t4]; exact hm
  obtain ⟨m1, m2⟩ := h.ms m hm'
  refine ⟨m1, ?_⟩
  show TrueP ((w.setN w.lead n').nd (w.setN w.lead n').lead) ((w.setN w.lead n').nd (3 - (w.setN w.lead n').lead)) (w.setN w.lead n').term (w.setN w.lead n').lead done' m
  rw [s1, s2, t1, t2]; exact m2.grow hp hd
theorem winv_other {w : WorldM} (h : WInv w) {o' : NodeM} (hn : nodeOk o' = true) (hA : (w.nd (3 - w.lead)).term = w.term → o'.term = w.term ∧ (w.nd (3 - w.lead)).ops.length ≤ o'.ops.length) (hB : o'.leads = true → (w.nd (3 - w.lead)).leads = true ∧ o'.term = (w.nd (3 - w.lead)).term ∧ (w.nd (3 - w.lead)).ops <+: o'.ops)
  (hr : RightP (w.nd w.lead) o' w.term w.both w.done) : WInv (w.setN (3 - w.lead) o') := by
 obtain ⟨s1, s2⟩ := set_other h.lead o'
 obtain ⟨t1, t2, t3, t4, t5⟩ := setN_other (w := w) (id := 3 - w.lead) (n := o')
 obtain ⟨k1, k2⟩ := nodeOk_set h.k1 h.k2 (id := 3 - w.lead) hn
 refine ⟨by rw [t2]; exact h.lead, by rw [t4]; exact h.nl, k1, k2, ?_, ?_⟩
 ·rw [s1, s2, t1, t3, t5]; exact hr
 ·intro m hm
  rw [t4] at hm
  obtain ⟨m1, m2⟩ := h.ms m hm
  refine ⟨m1, ?_⟩
  rw [s1, s2, t1, t2, t5]; exact m2.other hA hB
theorem askMsg_ok {n : NodeM} {id : Int} {o : OpM} (hid : id = 1 ∨ id = 2) (hn : nodeOk n = true) (ha : askOk n o = true) : msgOk (askMsg n id o) = true := by
 obtain ⟨h1, h2⟩ := askOk_G ha
 have ht := (nodeOk_iff.1 hn).1
 have hl := h2.l
 have hlen : ((((n.ops ++ [o]).map opD).length : Nat) : Int) = (n.ops.length : Int) + 1 := by simp
 unfold msgOk askMsg
 simp only [hlen]
 simp only [inR, Bool.and_eq_true, decide_eq_true_eq, if_true, List.length_nil]
 simp at hl
 refine ⟨by omega, by omega, by omega, h1, by omega, by simp⟩
theorem winv_ask {w : WorldM} (h : WInv w) {id : Int} (hid : id = 1 ∨ id = 2) (op : OpM) : WInv (askM w id op) := by
 unfold askM
 split
 ·rename_i ha
  obtain ⟨g1', g2'⟩ := askOk_G ha
  have hk := h.kd id
  have hko := nodeOk_add hk ha
  have hmo := askMsg_ok hid hk ha
  have hl := h.lead
  have hr := h.r
  by_cases hi : id = w.lead
  ·subst hi
   have key : ∀ w2 : WorldM, WInv w2 → w2.nd w2.lead = nodeAdd (w.nd w.lead) op → w2.lead = w.lead → w2.term = w.term → WInv (sendM w2 (askMsg (w.nd w.lead) w.lead op)) := by
    intro w2 i2 e1 e2 e3
    refine winv_send i2 hmo ?_
    rw [e1, e2, e3]
    have hlen : ((((w.nd w.lead).ops ++ [op]).map opD).length : Nat) = (w.nd w.lead).ops.length + 1 := by simp
    refine ⟨by show (w.nd w.lead).term ≤ w.term; rw [hr.nt]; omega, fun e => ?_, fun _ e => ?_, fun _ _ => ⟨rfl, ?_, ?_⟩, fun _ _ e => absurd rfl e⟩
    ·have : (w.nd w.lead).term < w.term := e
     rw [hr.nt] at this; omega
    ·rcases e with e | e <;> cases e
    ·show (((((w.nd w.lead).ops ++ [op]).map opD).length : Nat) : Int) ≤ (((w.nd w.lead).ops ++ [op]).length : Nat)
     rw [hlen]; simp
    ·show hasOp ((w.nd w.lead).ops ++ [op]) (((((w.nd w.lead).ops ++ [op]).map opD).length : Nat) : Int) op = true
     unfold hasOp
     rw [hlen, show ((((w.nd w.lead).ops.length + 1 : Nat) : Int) - 1).toNat = (w.nd w.lead).ops.length by omega]
     simp [opEq_eq]
   obtain ⟨s1, s2⟩ := set_lead hl (nodeAdd (w.nd w.lead) op)
   obtain ⟨t1, t2, t3, t4, t5⟩ := setN_other (w := w) (id := w.lead) (n := nodeAdd (w.nd w.lead) op)
   cases hal : (w.nd w.lead).alone
   ·simp only [Bool.false_eq_true, if_false]
    have i2 := winv_lead h (n' := nodeAdd (w.nd w.lead) op) (done' := w.done) hko (List.prefix_append _ _) (List.prefix_refl _) ⟨hr.nt, hr.nl, hr.na, hr.ot, hr.oa, hr.b, fun e => ⟨(hr.p e).1, (hr.p e).2.trans (List.prefix_append _ _)⟩, hr.d.trans (List.prefix_append _ _), hr.bd, fun e => by
     have e' : (w.nd w.lead).alone = true := e
     rw [hal] at e'; cases e'⟩
    have ew : { w.setN w.lead (nodeAdd (w.nd w.lead) op) with done := w.done } = w.setN w.lead (nodeAdd (w.nd w.lead) op) := by
     unfold WorldM.setN; split <;> rfl
    rw [ew] at i2
    exact key _ i2 s1 t2 t1
   ·simp only [if_true]
    have hd := hr.ad hal
    have hdone : doneM (w.setN w.lead (nodeAdd (w.nd w.lead) op)) ((w.nd w.lead).ops ++ [op]) (((w.nd w.lead).ops ++ [op]).length : Nat) = { w.setN w.lead (nodeAdd (w.nd w.lead) op) with done := (w.nd w.lead).ops ++ [op] } := by
     unfold doneM
     rw [t5, if_pos (by simp; omega), Int.toNat_natCast, List.take_length]
    rw [hdone]
    have hboth : w.both = false := by
     have := hr.na
     rw [hal] at this
     cases hb : w.both
     ·rfl
     ·rw [hb] at this; cases this
    have hde : w.done = (w.nd w.lead).ops := hr.d.eq_of_length hd
    have i2 := winv_lead h (n' := nodeAdd (w.nd w.lead) op) (done' := (w.nd w.lead).ops ++ [op]) hko (List.prefix_append _ _) (by rw [hde]; exact List.prefix_append _ _) ⟨hr.nt, hr.nl, hr.na, hr.ot, hr.oa, hr.b, fun e => ⟨(hr.p e).1, (hr.p e).2.trans (List.prefix_append _ _)⟩, List.prefix_refl _, (fun e => by rw [hboth] at e; cases e), fun _ => rfl⟩
    exact key _ i2 s1 t2 t1
  ·
   have hi2 : id = 3 - w.lead := by omega
   subst hi2
   have hle : (w.nd (3 - w.lead)).leads = true := by
    unfold askOk at ha; simp only [Bool.and_eq_true] at ha; exact ha.2.1
   have hnt : (w.nd (3 - w.lead)).term ≠ w.term := fun e => by
    have := (hr.p e).1
    rw [hle] at this; cases this
   rw [hr.oa]
   simp only [Bool.false_eq_true, if_false]
   have i2 := winv_other h (o' := nodeAdd (w.nd (3 - w.lead)) op) hko (fun e => absurd e hnt) (fun _ => ⟨hle, rfl, List.prefix_append _ _⟩) ⟨hr.nt, hr.nl, hr.na, hr.ot, hr.oa, hr.b, fun e => absurd e hnt, hr.d, fun e => absurd (hr.b e) hnt, hr.ad⟩
   refine winv_send i2 hmo ?_
   obtain ⟨s1, s2⟩ := set_other hl (nodeAdd (w.nd (3 - w.lead)) op)
   obtain ⟨t1, t2, t3, t4, t5⟩ := setN_other (w := w) (id := 3 - w.lead) (n := nodeAdd (w.nd (3 - w.lead)) op)
   rw [s1, s2, t1, t2, t5]
   have hlt : (w.nd (3 - w.lead)).term < w.term := by have := hr.ot; omega
   exact ⟨by show (w.nd (3 - w.lead)).term ≤ w.term; omega, (fun _ e => by rcases e with e | e <;> cases e), fun e => absurd e hnt, fun e => absurd e hnt, fun e => absurd e hnt⟩
 ·exact h
end Go.Gn

namespace Go.Gn
open Go
theorem mkDone_eq (w : WorldM) (os : List OpM) (k : Int) : doneM w os k = { w with done := if decide (k > (w.done.length : Int)) && decide (k ≤ (os.length : Int)) then os.take k.toNat else w.done } := by
 unfold doneM
 split <;> rfl
theorem winv_done {w : WorldM} (h : WInv w) {d : List OpM} (hd : w.done <+: d) (hr : RightP (w.nd w.lead) (w.nd (3 - w.lead)) w.term w.both d) : WInv { w with done := d } :=
 ⟨h.lead, h.nl, h.k1, h.k2, hr, fun m hm => ⟨(h.ms m hm).1, (h.ms m hm).2.grow (List.prefix_refl _) hd⟩⟩
theorem pre_len {a b c : List OpM} (h1 : a <+: c) (h2 : b <+: c) (h : a.length ≤ b.length) : a <+: b := List.prefix_of_prefix_length_le h1 h2 h
theorem winv_answer {w : WorldM} (h : WInv w) {k N : Int} (hk : k = 2 ∨ k = 4) (h0 : 0 ≤ N) (hN : N ≤ ((w.nd (3 - w.lead)).ops.length : Int)) : WInv (sendM w ⟨k, 3 - (3 - w.lead), (w.nd (3 - w.lead)).term, N, noOp, []⟩) := by
 have hl := h.lead
 have hr := h.r
 have hko := nodeOk_iff.1 (h.kd (3 - w.lead))
 have h20 := hko.2.2.l
 refine winv_send h ?_ ⟨hr.ot, fun e _ e2 => ?_, fun e _ => ⟨by show 3 - (3 - w.lead) = w.lead; omega, e, hN⟩, fun _ e => ?_, fun _ e => absurd hk e⟩
 ·unfold msgOk
  rcases hk with rfl | rfl
  all_goals
   simp only [inR, Bool.and_eq_true, decide_eq_true_eq, Int.reduceEq, if_false, or_true, true_or, if_true, List.length_nil]
   refine ⟨by omega, by omega, by omega, by rw [opEq_eq]; simp, by simp⟩
 ·have : 3 - (3 - w.lead) = 3 - w.lead := e2
  omega
 ·have : k = 1 := e
  omega
theorem winv_bring {w : WorldM} (h : WInv w) {m : MsgM} (hm : msgOk m = true) (ht : TrueP (w.nd w.lead) (w.nd (3 - w.lead)) w.term w.lead w.done m) : WInv (bringM w m) := by
 have hl := h.lead
 have hr := h.r
 have hto : m.to = 1 ∨ m.to = 2 := by
  unfold msgOk at hm
  simp only [Bool.and_eq_true, inR_iff] at hm
  omega
 have hkm := h.kd m.to
 have hn0 : (0 ≤ m.n ∧ m.n ≤ 20) ∧ (0 ≤ m.term ∧ m.term ≤ 99) := by
  unfold msgOk at hm
  simp only [Bool.and_eq_true, inR_iff] at hm
  exact ⟨hm.2.2.1, hm.2.1⟩
 unfold bringM
 split
 ·rename_i hup
  split
  ·rename_i hk
   split
   ·rename_i hok
    have notlead : ¬ ((w.nd w.lead).leads = false) := by rw [hr.nl]; simp
    rcases hk with hk | hk
    ·
     unfold hearK at hok ⊢
     simp only [if_pos hk] at hok ⊢
     split at hok
     ·rename_i hc
      rw [if_pos hc]
      have hcop := hc
      unfold hearCopy at hcop
      split at hcop
      ·cases hcop
      ·rename_i h1
       simp only [Bool.or_eq_true, bne_iff_ne, ne_eq, not_or, Decidable.not_not, Bool.not_eq_true] at h1
       have hi2 : m.to = 3 - w.lead := by
        have : m.to ≠ w.lead := fun e => by rw [e, hr.nl] at h1; cases h1.2
        omega
       rw [hi2] at h1 hcop ⊢
       split at hcop
       ·rename_i h2
        have hsame : (hearCopy (w.nd (3 - w.lead)) m).1 = w.nd (3 - w.lead) := by
         unfold hearCopy
         rw [if_neg (by simp [h1.1, h1.2]), if_pos h2]
        rw [hsame]
        have hset : w.setN (3 - w.lead) (w.nd (3 - w.lead)) = w := by
         rcases hl with e | e <;> rw [e] <;> rfl
        rw [hset]
        exact winv_answer h (.inl rfl) hn0.1.1 (of_decide_eq_true h2)
       ·rename_i h2
        split at hcop
        ·cases hcop
        ·rename_i h3
         have hnew : (hearCopy (w.nd (3 - w.lead)) m).1 = nodeAdd (w.nd (3 - w.lead)) m.op := by
          unfold hearCopy
          rw [if_neg (by simp [h1.1, h1.2]), if_neg h2, if_neg h3]
          rfl
         rw [hnew]
         simp only [Bool.or_eq_true, bne_iff_ne, ne_eq, not_or, Decidable.not_not, Bool.not_eq_true', Bool.not_eq_false] at h3
         have hko := nodeOk_iff.1 (h.kd (3 - w.lead))
         rw [canTake_eq hko.2.2.l hko.2.2.run] at h3
         obtain ⟨a1, a2⟩ := canAdd_G h3.2
         have hno : nodeOk (nodeAdd (w.nd (3 - w.lead)) m.op) = true := nodeOk_iff.2 ⟨hko.1, .inr hr.oa, a2⟩
         have hpn : (w.nd (3 - w.lead)).term = w.term → (w.nd (3 - w.lead)).ops ++ [m.op] <+: (w.nd w.lead).ops := by
          intro e
          obtain ⟨c1, c2, c3⟩ := ht.copy (by rw [h1.1]; exact e) hk
          obtain ⟨c, hcc⟩ := (hr.p e).2
          unfold hasOp at c3
          rw [← hcc, show (m.n - 1).toNat = (w.nd (3 - w.lead)).ops.length by omega] at c3
          cases c with
          | nil => simp at c3
          | cons x c =>
           simp [opEq_eq] at c3
           rw [← hcc, ← c3]
           exact ⟨c, by simp⟩
         have i2 := winv_other h (o' := nodeAdd (w.nd (3 - w.lead)) m.op) hno (fun e => ⟨e, by show _ ≤ ((w.nd (3 - w.lead)).ops ++ [m.op]).length; simp⟩) (fun e => ⟨e, rfl, List.prefix_append _ _⟩) ⟨hr.nt, hr.nl, hr.na, hr.ot, hr.oa, hr.b, fun e => ⟨(hr.p e).1, hpn e⟩, hr.d, fun e => (hr.bd e).trans (List.prefix_append _ _), hr.ad⟩
         obtain ⟨s1, s2⟩ := set_other hl (nodeAdd (w.nd (3 - w.lead)) m.op)
         obtain ⟨t1, t2, t3, t4, t5⟩ := setN_other (w := w) (id := 3 - w.lead) (n := nodeAdd (w.nd (3 - w.lead)) m.op)
         have i3 := winv_answer i2 (k := 2) (N := m.n) (.inl rfl) hn0.1.1 (by
          rw [s2]
          show m.n ≤ (((w.nd (3 - w.lead)).ops ++ [m.op]).length : Nat)
          simp; omega)
         rw [s2, t2] at i3
         exact i3
     ·cases hok
    ·
     have hk1 : ¬ m.kind = 1 := by omega
     unfold hearK at hok ⊢
     simp only [if_neg hk1, if_pos hk] at hok ⊢
     split at hok
     ·rename_i hc
      rw [if_pos hc]
      have hcj := hc
      unfold hearJoin at hcj
      split at hcj
      ·cases hcj
      ·rename_i h1
       simp only [Bool.or_eq_true, decide_eq_true_eq, Bool.and_eq_true, beq_iff_eq, not_or, not_and, Bool.not_eq_true] at h1
       have hi2 : m.to = 3 - w.lead := by
        have : m.to ≠ w.lead := fun e => by
         rw [e, hr.nt, hr.nl] at h1
         have := ht.le
         have := h1.2 (by omega)
         cases this
        omega
       rw [hi2] at h1 ⊢
       have hko := nodeOk_iff.1 (h.kd (3 - w.lead))
       have hmk : opEq m.op noOp = true ∧ (m.ops.length : Int) = m.n ∧ areOps m.ops = true := by
        unfold msgOk at hm
        simp only [Bool.and_eq_true] at hm
        have := hm.2.2.2
        rw [if_neg hk1, if_neg (by omega), if_pos hk] at this
        simp only [Bool.and_eq_true, beq_iff_eq] at this
        exact this
       have hmg : OpsG m.ops := by
        have := hmk.2.2
        rw [areOps_run, Bool.and_eq_true, decide_eq_true_eq] at this
        exact ⟨this.1, by omega⟩
       by_cases had : (decide (m.term > (w.nd (3 - w.lead)).term) || decide (m.n > ((w.nd (3 - w.lead)).ops.length : Int))) = true
       ·have hnew : (hearJoin (w.nd (3 - w.lead)) m).1 = ⟨(w.nd (3 - w.lead)).up, m.term, false, false, m.ops⟩ := by
         unfold hearJoin
         rw [if_neg (by simp; exact ⟨by omega, h1.2⟩), if_pos had]
        rw [hnew]
        simp only [Bool.or_eq_true, decide_eq_true_eq] at had
        have hno : nodeOk ⟨(w.nd (3 - w.lead)).up, m.term, false, false, m.ops⟩ = true := nodeOk_iff.2 ⟨hn0.2, .inr rfl, hmg⟩
        have hle := ht.le
        have hj : m.term = w.term → m.ops <+: (w.nd w.lead).ops := fun e => (ht.join e (by omega) hk1).2
        have i2 := winv_other h (o' := ⟨(w.nd (3 - w.lead)).up, m.term, false, false, m.ops⟩) hno (fun e => ⟨by show m.term = w.term; omega, by show _ ≤ m.ops.length; omega⟩) (fun e => by cases e) ⟨hr.nt, hr.nl, hr.na, hle, rfl, fun e => by have := hr.b e; show m.term = w.term; omega, fun e => ⟨rfl, hj e⟩, hr.d, fun e => by
         have hb := hr.b e
         have hd := (hr.bd e).length_le
         exact pre_len hr.d (hj (by omega)) (by show w.done.length ≤ m.ops.length; omega), hr.ad⟩
        obtain ⟨s1, s2⟩ := set_other hl ⟨(w.nd (3 - w.lead)).up, m.term, false, false, m.ops⟩
        obtain ⟨t1, t2, t3, t4, t5⟩ := setN_other (w := w) (id := 3 - w.lead) (n := ⟨(w.nd (3 - w.lead)).up, m.term, false, false, m.ops⟩)
        have i3 := winv_answer i2 (k := 4) (N := (m.ops.length : Nat)) (.inr rfl) (by omega) (by rw [s2]; exact Int.le_refl _)
        rw [s2, t2] at i3
        exact i3
       ·have hsame : (hearJoin (w.nd (3 - w.lead)) m).1 = w.nd (3 - w.lead) := by
         unfold hearJoin
         rw [if_neg (by simp; exact ⟨by omega, h1.2⟩), if_neg had]
        rw [hsame]
        have hset : w.setN (3 - w.lead) (w.nd (3 - w.lead)) = w := by
         rcases hl with e | e <;> rw [e] <;> rfl
        rw [hset]
        exact winv_answer h (.inr rfl) (by omega) (Int.le_refl _)
     ·cases hok
   ·exact h
  ·rename_i hk
   split
   ·rename_i hc
    obtain ⟨hc1, hc2⟩ := hc
    have hkk : m.kind = 2 ∨ m.kind = 4 := by
     unfold msgOk at hm
     simp only [Bool.and_eq_true] at hm
     have := hm.2.2.2
     split at this
     ·rename_i e; exact absurd (.inl e) hk
     ·split at this
      ·assumption
      ·split at this
       ·rename_i e; exact absurd (.inr e) hk
       ·cases this
    by_cases hi : m.to = w.lead
    ·rw [hi] at hc1 hc2 ⊢
     have hmt : m.term = w.term := by rw [hc1, hr.nt]
     obtain ⟨_, ho1, ho2⟩ := ht.has hmt hkk
     have hp := hr.p ho1
     have hln := hp.2.length_le
     split
     ·
      rename_i hj
      obtain ⟨hj1, hj2, hj3⟩ := hj
      have hd := hr.ad hj3
      have hde : w.done = (w.nd w.lead).ops := hr.d.eq_of_length hd
      have hoe : (w.nd (3 - w.lead)).ops = (w.nd w.lead).ops := hp.2.eq_of_length (by omega)
      have hno : ∀ w2 : WorldM, w2.done = w.done → doneM w2 (w.nd w.lead).ops m.n = w2 := by
       intro w2 e
       unfold doneM
       rw [e, if_neg (by simp; omega)]
      rw [hno _ (by show (w.setN w.lead _).done = _; exact setN_other.2.2.2.2)]
      obtain ⟨s1, s2⟩ := set_lead hl { w.nd w.lead with alone := false }
      obtain ⟨t1, t2, t3, t4, t5⟩ := setN_other (w := w) (id := w.lead) (n := { w.nd w.lead with alone := false })
      have hko : nodeOk { w.nd w.lead with alone := false } = true := by
       have := h.kd w.lead
       rw [nodeOk_iff] at this ⊢
       exact ⟨this.1, .inr rfl, this.2.2⟩
      obtain ⟨k1, k2⟩ := nodeOk_set h.k1 h.k2 (id := w.lead) hko
      refine ⟨by show (w.setN w.lead { w.nd w.lead with alone := false }).lead = 1 ∨ _; rw [t2]; exact hl, by show (w.setN w.lead { w.nd w.lead with alone := false }).nets.length ≤ 12; rw [t4]; exact h.nl, k1, k2, ?_, ?_⟩
      ·show RightP ((w.setN w.lead { w.nd w.lead with alone := false }).nd (w.setN w.lead { w.nd w.lead with alone := false }).lead) ((w.setN w.lead { w.nd w.lead with alone := false }).nd (3 - (w.setN w.lead { w.nd w.lead with alone := false }).lead)) (w.setN w.lead { w.nd w.lead with alone := false }).term true (w.setN w.lead { w.nd w.lead with alone := false }).done
       rw [s1, s2, t1, t5]
       exact ⟨hr.nt, hr.nl, rfl, hr.ot, hr.oa, fun _ => ho1, hr.p, hr.d, fun _ => by rw [hde, hoe]; exact List.prefix_refl _, fun e => by cases e⟩
      ·intro x hx
       have hx' : x ∈ w.nets := by rw [← t4]; exact hx
       obtain ⟨x1, x2⟩ := h.ms x hx'
       refine ⟨x1, ?_⟩
       show TrueP ((w.setN w.lead { w.nd w.lead with alone := false }).nd (w.setN w.lead { w.nd w.lead with alone := false }).lead) ((w.setN w.lead { w.nd w.lead with alone := false }).nd (3 - (w.setN w.lead { w.nd w.lead with alone := false }).lead)) (w.setN w.lead { w.nd w.lead with alone := false }).term (w.setN w.lead { w.nd w.lead with alone := false }).lead (w.setN w.lead { w.nd w.lead with alone := false }).done x
       rw [s1, s2, t1, t2, t5]
       exact x2.grow (List.prefix_refl _) (List.prefix_refl _)
     ·
      rw [mkDone_eq]
      split
      ·rename_i hd
       simp only [Bool.and_eq_true, decide_eq_true_eq] at hd
       have hp2 : (w.nd w.lead).ops.take m.n.toNat <+: (w.nd w.lead).ops := List.take_prefix _ _
       have hlen : ((w.nd w.lead).ops.take m.n.toNat).length = m.n.toNat := by rw [List.length_take]; omega
       refine winv_done h (pre_len hr.d hp2 (by omega)) ⟨hr.nt, hr.nl, hr.na, hr.ot, hr.oa, hr.b, hr.p, hp2, fun _ => ?_, fun e => ?_⟩
       ·exact pre_len hp2 hp.2 (by omega)
       ·have := hr.ad e; omega
      ·exact winv_done h (List.prefix_refl _) hr
    ·have hi2 : m.to = 3 - w.lead := by omega
     rw [hi2] at hc1 hc2 ⊢
     have hlt : m.term < w.term := by
      have h1 := hr.ot
      have h2 : (w.nd (3 - w.lead)).term ≠ w.term := fun e => by
       have := (hr.p e).1
       rw [hc2] at this; cases this
      omega
     obtain ⟨ho1, ho2⟩ := ht.old hlt hkk hi2 hc2 hc1.symm
     have hlen := ho2.length_le
     rw [List.length_take] at hlen
     have hno : doneM w (w.nd (3 - w.lead)).ops m.n = w := by
      unfold doneM
      rw [if_neg (by simp; omega)]
     rw [if_neg (by
      rintro ⟨_, _, e⟩
      rw [hr.oa] at e; cases e), hno]
     exact h
   ·exact h
 ·exact h
theorem winv_up {w : WorldM} (h : WInv w) {id : Int} (hid : id = 1 ∨ id = 2) (b : Bool) : WInv (upM w id b) := by
 unfold upM
 have hl := h.lead
 have hr := h.r
 have hko : nodeOk { w.nd id with up := b } = true := h.kd id
 by_cases hi : id = w.lead
 ·subst hi
  have i2 := winv_lead h (n' := { w.nd w.lead with up := b }) (done' := w.done) hko (List.prefix_refl _) (List.prefix_refl _) ⟨hr.nt, hr.nl, hr.na, hr.ot, hr.oa, hr.b, hr.p, hr.d, hr.bd, hr.ad⟩
  have ew : { w.setN w.lead { w.nd w.lead with up := b } with done := w.done } = w.setN w.lead { w.nd w.lead with up := b } := by
   unfold WorldM.setN; split <;> rfl
  rw [ew] at i2
  exact i2
 ·have hi2 : id = 3 - w.lead := by omega
  subst hi2
  exact winv_other h hko (fun e => ⟨e, Nat.le_refl _⟩) (fun e => ⟨e, rfl, List.prefix_refl _⟩) ⟨hr.nt, hr.nl, hr.na, hr.ot, hr.oa, hr.b, hr.p, hr.d, hr.bd, hr.ad⟩
theorem winv_drop {w : WorldM} (h : WInv w) (k : Nat) : WInv { w with nets := w.nets.take k ++ w.nets.drop (k + 1) } := by
 refine ⟨h.lead, ?_, h.k1, h.k2, h.r, fun m hm => ?_⟩
 ·have := h.nl
  simp only [List.length_append, List.length_take, List.length_drop]
  omega
 ·rcases List.mem_append.1 hm with hm | hm
  ·exact h.ms m (List.mem_of_mem_take hm)
  ·exact h.ms m (List.mem_of_mem_drop hm)
theorem winv_net {w : WorldM} (h : WInv w) (kind i : Int) : WInv (netM w kind i) := by
 unfold netM
 split
 ·split
  ·rename_i m hm
   obtain ⟨m1, m2⟩ := h.ms m (List.mem_of_getElem? hm)
   split
   ·exact winv_send h m1 m2
   ·split
    ·exact winv_bring (winv_drop h _) m1 m2
    ·exact winv_drop h _
  ·exact h
 ·exact h
theorem winv_join {w : WorldM} (h : WInv w) : WInv (joinM w) := by
 unfold joinM
 split
 ·have hl := h.lead
  have hr := h.r
  have hk := nodeOk_iff.1 (h.kd w.lead)
  have h20 := hk.2.2.l
  refine winv_send h ?_ ⟨by show (w.nd w.lead).term ≤ w.term; rw [hr.nt]; omega, fun e => ?_, fun _ e => ?_, fun _ e => ?_, fun _ _ _ => ⟨rfl, List.prefix_refl _⟩⟩
  ·unfold msgOk joinMsg
   simp only [inR, Bool.and_eq_true, decide_eq_true_eq, Int.reduceEq, if_false, or_self, if_true]
   refine ⟨by omega, by omega, by omega, by rw [opEq_eq]; simp, by simp, areOps_G hk.2.2⟩
  ·have : (w.nd w.lead).term < w.term := e
   rw [hr.nt] at this; omega
  ·rcases e with e | e <;> cases e
  ·cases e
 ·exact h
end Go.Gn

namespace Go.Gn
open Go
theorem done_all {d os : List OpM} (hd : d <+: os) : (if decide (((os.length : Nat) : Int) > (d.length : Int)) && decide (((os.length : Nat) : Int) ≤ (os.length : Int)) then os.take (((os.length : Nat) : Int)).toNat else d) = os := by
 split
 ·rw [Int.toNat_natCast, List.take_length]
 ·rename_i hc
  simp only [Bool.and_eq_true, decide_eq_true_eq, not_and] at hc
  have := hd.length_le
  exact hd.eq_of_length (by omega)
theorem leadM_eq {w : WorldM} {id : Int} (ht : ¬ w.term ≥ 99) (hd : w.done <+: (w.nd id).ops) : leadM w id = { w.setN id ⟨(w.nd id).up, w.term + 1, true, true, (w.nd id).ops⟩ with term := w.term + 1, lead := id, both := false, done := (w.nd id).ops } := by
 unfold leadM
 rw [if_neg ht, mkDone_eq]
 have e : (w.setN id ⟨(w.nd id).up, w.term + 1, true, true, (w.nd id).ops⟩).done = w.done := setN_other.2.2.2.2
 simp only [e]
 rw [done_all hd]
theorem winv_leadM {w : WorldM} (h : WInv w) (hb : w.both = true) {id : Int} (hid : id = 1 ∨ id = 2) : WInv (leadM w id) := by
 have hl := h.lead
 have hr := h.r
 have hbt := hr.b hb
 have hp := hr.p hbt
 have hd2 : w.done <+: (w.nd id).ops := by
  by_cases hi : id = w.lead
  ·rw [hi]; exact hr.d
  ·rw [show id = 3 - w.lead by omega]; exact hr.bd hb
 by_cases h99 : w.term ≥ 99
 ·unfold leadM
  rw [if_pos h99]
  exact h
 ·rw [leadM_eq h99 hd2]
  have hk := nodeOk_iff.1 (h.kd id)
  have hkl := nodeOk_iff.1 (h.kd w.lead)
  have hno : nodeOk ⟨(w.nd id).up, w.term + 1, true, true, (w.nd id).ops⟩ = true := nodeOk_iff.2 ⟨by
   have := hkl.1
   rw [hr.nt] at this
   show 0 ≤ w.term + 1 ∧ w.term + 1 ≤ 99
   omega, .inl rfl, hk.2.2⟩
  obtain ⟨k1, k2⟩ := nodeOk_set h.k1 h.k2 (id := id) hno
  obtain ⟨t1, t2, t3, t4, t5⟩ := setN_other (w := w) (id := id) (n := ⟨(w.nd id).up, w.term + 1, true, true, (w.nd id).ops⟩)
  have s1 : (w.setN id ⟨(w.nd id).up, w.term + 1, true, true, (w.nd id).ops⟩).nd id = ⟨(w.nd id).up, w.term + 1, true, true, (w.nd id).ops⟩ := nd_set_same hid
  have s2 : (w.setN id ⟨(w.nd id).up, w.term + 1, true, true, (w.nd id).ops⟩).nd (3 - id) = w.nd (3 - id) := nd_set_other hid
  refine ⟨hid, by show (w.setN id _).nets.length ≤ 12; rw [t4]; exact h.nl, k1, k2, ?_, ?_⟩
  ·show RightP ((w.setN id ⟨(w.nd id).up, w.term + 1, true, true, (w.nd id).ops⟩).nd id) ((w.setN id ⟨(w.nd id).up, w.term + 1, true, true, (w.nd id).ops⟩).nd (3 - id)) (w.term + 1) false (w.nd id).ops
   rw [s1, s2]
   have hot : (w.nd (3 - id)).term = w.term ∧ (w.nd (3 - id)).alone = false := by
    by_cases hi : id = w.lead
    ·rw [hi]; exact ⟨hbt, hr.oa⟩
    ·rw [show 3 - id = w.lead by omega]
     exact ⟨hr.nt, by rw [hr.na, hb]; rfl⟩
   exact ⟨rfl, rfl, rfl, by omega, hot.2, (fun e => by cases e), (fun e => by omega), List.prefix_refl _, (fun e => by cases e), fun _ => rfl⟩
  ·intro m hm
   have hm' : m ∈ w.nets := by rw [← t4]; exact hm
   obtain ⟨m1, m2⟩ := h.ms m hm'
   refine ⟨m1, ?_⟩
   show TrueP ((w.setN id ⟨(w.nd id).up, w.term + 1, true, true, (w.nd id).ops⟩).nd id) ((w.setN id ⟨(w.nd id).up, w.term + 1, true, true, (w.nd id).ops⟩).nd (3 - id)) (w.term + 1) id (w.nd id).ops m
   rw [s1, s2]
   have hle := m2.le
   refine ⟨by omega, fun _ hk2 hto hol hot => ?_, fun e => by omega, fun e => by omega, fun e => by omega⟩
   by_cases hi : id = w.lead
   ·rw [hi, hp.1] at hol; cases hol
   ·have e3 : 3 - id = w.lead := by omega
    have e4 : id = 3 - w.lead := by omega
    rw [e3] at hto hot ⊢
    rw [hr.nt] at hot
    obtain ⟨_, _, c3⟩ := m2.has hot.symm hk2
    have hpl := hp.2.length_le
    refine ⟨by omega, ?_⟩
    rw [e4, take_pre hp.2 (by omega)]
    exact List.take_prefix _ _
theorem winv_do {w : WorldM} (h : WInv w) (e : EvM) : WInv (doM w e) := by
 have hl := h.lead
 unfold doM
 split
 ·split
  ·rename_i hc; exact winv_ask h (inR12 hc) _
  ·exact h
 ·split
  ·exact winv_net h _ _
  ·split
   ·split
    ·rename_i hc; exact winv_up h (inR12 hc) _
    ·exact h
   ·split
    ·split
     ·rename_i hc
      rw [Bool.and_eq_true] at hc
      exact winv_leadM h hc.1 (by omega)
     ·exact h
    ·split
     ·split
      ·rename_i hc
       rw [Bool.and_eq_true] at hc
       exact winv_leadM h hc.1 hl
      ·exact h
     ·split
      ·exact winv_join h
      ·exact h
theorem winv_new : WInv worldNew := (winv_iff (.inl rfl)).1 (by decide +kernel)
theorem winv_play : ∀ (es : List EvM) {w : WorldM}, WInv w → WInv (playM w es)
 | [], _, h => h
 | e :: es, _, h => winv_play es (winv_do h e)
theorem winv_quiet {w : WorldM} (h : WInv w) : WInv (quietM w) := by
 have h1 := winv_up h (.inl rfl : (1 : Int) = 1 ∨ (1 : Int) = 2) true
 have h2 := winv_up h1 (.inr rfl : (2 : Int) = 1 ∨ (2 : Int) = 2) true
 exact ⟨h2.lead, Nat.zero_le _, h2.k1, h2.k2, h2.r, fun m hm => by cases hm⟩
theorem winv_round {w : WorldM} (h : WInv w) : WInv (roundM w) := winv_net (winv_net (winv_net (winv_join (winv_quiet h)) 2 0) 2 0) 2 0
theorem winv_calm : ∀ (n : Nat) {w : WorldM}, WInv w → WInv (calmM n w)
 | 0, _, h => h
 | n + 1, _, h => winv_calm n (winv_round h)
end Go.Gn

namespace Go.Gn
open Go
structure Later (w w' : WorldM) : Prop where
 d : w.done <+: w'.done
 t : w.term ≤ w'.term
theorem Later.refl (w : WorldM) : Later w w := ⟨List.prefix_refl _, Int.le_refl _⟩
theorem Later.trans {a b c : WorldM} (h : Later a b) (h' : Later b c) : Later a c := ⟨h.d.trans h'.d, Int.le_trans h.t h'.t⟩
theorem later_send (w : WorldM) (m : MsgM) : Later w (sendM w m) := by
 unfold sendM
 split <;> exact ⟨List.prefix_refl _, Int.le_refl _⟩
theorem later_set (w : WorldM) (id : Int) (n : NodeM) : Later w (w.setN id n) := by
 obtain ⟨t1, _, _, _, t5⟩ := setN_other (w := w) (id := id) (n := n)
 exact ⟨by rw [t5]; exact List.prefix_refl _, by omega⟩
theorem later_ask {w : WorldM} (h : WInv w) {id : Int} (hid : id = 1 ∨ id = 2) (op : OpM) : Later w (askM w id op) := by
 have hr := h.r
 unfold askM
 split
 ·refine Later.trans ?_ (later_send _ _)
  obtain ⟨t1, t2, t3, t4, t5⟩ := setN_other (w := w) (id := id) (n := nodeAdd (w.nd id) op)
  split
  ·rename_i hal
   rw [mkDone_eq]
   refine ⟨?_, by show w.term ≤ (w.setN id _).term; omega⟩
   show w.done <+: (if _ then _ else (w.setN id (nodeAdd (w.nd id) op)).done)
   rw [t5]
   split
   ·rw [Int.toNat_natCast, List.take_length]
    by_cases hi : id = w.lead
    ·rw [hi]; exact hr.d.trans (List.prefix_append _ _)
    ·have : id = 3 - w.lead := by have := h.lead; omega
     rw [this, hr.oa] at hal; cases hal
   ·exact List.prefix_refl _
  ·exact later_set _ _ _
 ·exact Later.refl _
theorem later_bring {w : WorldM} (h : WInv w) {m : MsgM} (hm : msgOk m = true) (ht : TrueP (w.nd w.lead) (w.nd (3 - w.lead)) w.term w.lead w.done m) : Later w (bringM w m) := by
 have hr := h.r
 have hl := h.lead
 have hto : m.to = 1 ∨ m.to = 2 := by
  unfold msgOk at hm
  simp only [Bool.and_eq_true, inR_iff] at hm
  omega
 unfold bringM
 split
 ·split
  ·split
   ·exact (later_set _ _ _).trans (later_send _ _)
   ·exact Later.refl _
  ·rename_i hk
   split
   ·rename_i hc
    have key : ∀ w2 : WorldM, w2.done = w.done → w2.term = w.term → Later w (doneM w2 (w.nd m.to).ops m.n) := by
     intro w2 e1 e2
     rw [mkDone_eq]
     refine ⟨?_, by show w.term ≤ w2.term; omega⟩
     show w.done <+: (if _ then _ else w2.done)
     rw [e1]
     split
     ·rename_i hd
      simp only [Bool.and_eq_true, decide_eq_true_eq] at hd
      have hlen : ((w.nd m.to).ops.take m.n.toNat).length = m.n.toNat := by rw [List.length_take]; omega
      by_cases hi : m.to = w.lead
      ·rw [hi] at hd hlen ⊢
       exact pre_len hr.d (List.take_prefix _ _) (by omega)
      ·have hi2 : m.to = 3 - w.lead := by omega
       rw [hi2] at hc hd
       have hkk : m.kind = 2 ∨ m.kind = 4 := by
        unfold msgOk at hm
        simp only [Bool.and_eq_true] at hm
        have := hm.2.2.2
        split at this
        ·rename_i e; exact absurd (.inl e) hk
        ·split at this
         ·assumption
         ·split at this
          ·rename_i e; exact absurd (.inr e) hk
          ·cases this
       have hne : (w.nd (3 - w.lead)).term ≠ w.term := fun e => by
        have := (hr.p e).1
        rw [hc.2] at this; cases this
       have hot := hr.ot
       obtain ⟨ho1, ho2⟩ := ht.old (by omega) hkk hi2 hc.2 hc.1.symm
       have := ho2.length_le
       rw [List.length_take] at this
       omega
     ·exact List.prefix_refl _
    split
    ·obtain ⟨t1, t2, t3, t4, t5⟩ := setN_other (w := w) (id := m.to) (n := { w.nd m.to with alone := false })
     exact key _ t5 t1
    ·exact key _ rfl rfl
   ·exact Later.refl _
 ·exact Later.refl _
theorem later_lead {w : WorldM} (h : WInv w) (hb : w.both = true) {id : Int} (hid : id = 1 ∨ id = 2) : Later w (leadM w id) := by
 have hl := h.lead
 have hr := h.r
 have hd2 : w.done <+: (w.nd id).ops := by
  by_cases hi : id = w.lead
  ·rw [hi]; exact hr.d
  ·rw [show id = 3 - w.lead by omega]; exact hr.bd hb
 by_cases h99 : w.term ≥ 99
 ·unfold leadM
  rw [if_pos h99]
  exact Later.refl _
 ·rw [leadM_eq h99 hd2]
  exact ⟨hd2, by show w.term ≤ w.term + 1; omega⟩
theorem later_net {w : WorldM} (h : WInv w) (kind i : Int) : Later w (netM w kind i) := by
 unfold netM
 split
 ·split
  ·rename_i m hm
   obtain ⟨m1, m2⟩ := h.ms m (List.mem_of_getElem? hm)
   split
   ·exact later_send _ _
   ·split
    ·have l1 : Later w { w with nets := w.nets.take i.toNat ++ w.nets.drop (i.toNat + 1) } := ⟨List.prefix_refl _, Int.le_refl _⟩
     exact l1.trans (later_bring (winv_drop h i.toNat) m1 m2)
    ·exact ⟨List.prefix_refl _, Int.le_refl _⟩
  ·exact Later.refl _
 ·exact Later.refl _
theorem later_do {w : WorldM} (h : WInv w) (e : EvM) : Later w (doM w e) := by
 have hl := h.lead
 unfold doM
 split
 ·split
  ·rename_i hc; exact later_ask h (inR12 hc) _
  ·exact Later.refl _
 ·split
  ·exact later_net h _ _
  ·split
   ·split
    ·exact later_set _ _ _
    ·exact Later.refl _
   ·split
    ·split
     ·rename_i hc
      rw [Bool.and_eq_true] at hc
      exact later_lead h hc.1 (by omega)
     ·exact Later.refl _
    ·split
     ·split
      ·rename_i hc
       rw [Bool.and_eq_true] at hc
       exact later_lead h hc.1 hl
      ·exact Later.refl _
     ·split
      ·unfold joinM
       split
       ·exact later_send _ _
       ·exact Later.refl _
      ·exact Later.refl _
theorem later_play : ∀ (es : List EvM) {w : WorldM}, WInv w → Later w (playM w es)
 | [], w, _ => Later.refl w
 | e :: es, w, h => (later_do h e).trans (later_play es (winv_do h e))
theorem playM_append : ∀ (a b : List EvM) (w : WorldM), playM w (a ++ b) = playM (playM w a) b
 | [], b, w => rfl
 | e :: a, b, w => playM_append a b (doM w e)
theorem later_take (es : List EvM) (k : Nat) : Later (playM worldNew (es.take k)) (playM worldNew es) := by
 have e : playM worldNew es = playM (playM worldNew (es.take k)) (es.drop k) := by rw [← playM_append, List.take_append_drop]
 rw [e]
 exact later_play _ (winv_play _ winv_new)
end Go.Gn

namespace Go.Gn
open Go
def restM (w : WorldM) : WorldM := if w.lead = 1 then ⟨⟨true, w.term, true, false, (w.nd w.lead).ops⟩, ⟨true, w.term, false, false, (w.nd w.lead).ops⟩, w.term, 1, true, [], (w.nd w.lead).ops⟩
 else ⟨⟨true, w.term, false, false, (w.nd w.lead).ops⟩, ⟨true, w.term, true, false, (w.nd w.lead).ops⟩, w.term, 2, true, [], (w.nd w.lead).ops⟩
theorem hear_rest {n o : NodeM} {term : Int} {both : Bool} {done : List OpM} (hr : RightP n o term both done) (to : Int) : hearJoin { o with up := true } ⟨3, to, n.term, (n.ops.length : Nat), noOp, n.ops⟩ = (⟨true, term, false, false, n.ops⟩, true) := by
 have h1 := hr.nt
 have h2 := hr.ot
 unfold hearJoin
 simp only
 rw [h1]
 by_cases he : o.term = term
 ·obtain ⟨h3, h4⟩ := hr.p he
  rw [if_neg (by simp [he, h3])]
  by_cases hl : n.ops.length > o.ops.length
  ·rw [if_pos (by simp; omega)]
  ·have := h4.eq_of_length (by have := h4.length_le; omega)
   rw [if_neg (by simp; omega)]
   rw [he, h3, hr.oa, this]
 ·rw [if_neg (by simp; omega), if_pos (by simp; omega)]
theorem net0 {w : WorldM} (h : w.nets = []) (k : Int) : netM w k 0 = w := by
 unfold netM
 rw [h, if_neg (by decide)]
theorem net1 (n1 n2 : NodeM) (t l : Int) (b : Bool) (m : MsgM) (d : List OpM) : netM ⟨n1, n2, t, l, b, [m], d⟩ 2 0 = bringM ⟨n1, n2, t, l, b, [], d⟩ m := by
 unfold netM
 rw [if_pos (by simp [inR])]
 rfl
theorem send0M {w : WorldM} (h : w.nets = []) (m : MsgM) : sendM w m = { w with nets := [m] } := by
 unfold sendM
 rw [h, if_pos (by decide)]
 rfl
theorem round2_eq {w : WorldM} (h : WInv w) : netM (netM (joinM (quietM w)) 2 0) 2 0 = restM w := by
 have hr := h.r
 have hl := h.lead
 obtain ⟨a1, a2, term, lead, both, nets, done⟩ := w
 simp only at hl
 rcases hl with rfl | rfl
 ·have hr : RightP a1 a2 term both done := hr
  have hh := hear_rest hr 2
  obtain ⟨U, hU⟩ : ∃ U : NodeM, U = { a1 with up := true } := ⟨_, rfl⟩
  obtain ⟨N, hN⟩ : ∃ N : NodeM, N = ⟨true, term, false, false, a1.ops⟩ := ⟨_, rfl⟩
  have q1 : joinM (quietM ⟨a1, a2, term, 1, both, nets, done⟩) = ⟨U, { a2 with up := true }, term, 1, both, [⟨3, 2, a1.term, (a1.ops.length : Nat), noOp, a1.ops⟩], done⟩ := by
   subst hU
   unfold joinM
   refine (if_pos ?_).trans ?_
   ·rfl
   ·rw [send0M (w := quietM ⟨a1, a2, term, 1, both, nets, done⟩) rfl]
    rfl
  have q2 : bringM ⟨U, { a2 with up := true }, term, 1, both, [], done⟩ ⟨3, 2, a1.term, (a1.ops.length : Nat), noOp, a1.ops⟩ = ⟨U, N, term, 1, both, [⟨4, 1, term, (a1.ops.length : Nat), noOp, []⟩], done⟩ := by
   have hk : hearK { a2 with up := true } 2 ⟨3, 2, a1.term, (a1.ops.length : Nat), noOp, a1.ops⟩ = (N, ⟨4, 3 - 2, N.term, (N.ops.length : Nat), noOp, []⟩, true) := by
    unfold hearK
    rw [if_neg (by show ¬ (3 : Int) = 1; decide), if_pos rfl, hh, hN]
    rfl
   unfold bringM
   refine (if_pos ?_).trans ?_
   ·rfl
   refine (if_pos ?_).trans ?_
   ·exact .inr rfl
   show (if (hearK { a2 with up := true } 2 ⟨3, 2, a1.term, (a1.ops.length : Nat), noOp, a1.ops⟩).2.2 = true then sendM (WorldM.setN _ 2 (hearK { a2 with up := true } 2 ⟨3, 2, a1.term, (a1.ops.length : Nat), noOp, a1.ops⟩).1) (hearK { a2 with up := true } 2 ⟨3, 2, a1.term, (a1.ops.length : Nat), noOp, a1.ops⟩).2.1 else _) = _
   rw [hk]
   refine (if_pos ?_).trans ?_
   ·rfl
   ·refine (send0M rfl _).trans ?_
    rw [hN]
    rfl
  have q3 : bringM ⟨U, N, term, 1, both, [], done⟩ ⟨4, 1, term, (a1.ops.length : Nat), noOp, []⟩ = restM ⟨a1, a2, term, 1, both, nets, done⟩ := by
   have hd := done_all hr.d
   have e1 := hr.nt
   have e2 := hr.nl
   have e3 := hr.na
   obtain ⟨u, t, l, al, ops⟩ := a1
   simp only at e1 e2 e3 hd
   subst e1 e2 hU hN
   unfold bringM
   refine (if_pos ?_).trans ?_
   ·rfl
   refine (if_neg ?_).trans ?_
   ·show ¬ ((4 : Int) = 1 ∨ (4 : Int) = 3)
    decide
   refine (if_pos ?_).trans ?_
   ·exact ⟨rfl, rfl⟩
   cases both
   ·subst e3
    refine (if_pos ?_).trans ?_
    ·exact ⟨rfl, rfl, rfl⟩
    rw [mkDone_eq]
    show (⟨_, _, t, 1, true, [], (if decide (((ops.length : Nat) : Int) > (done.length : Int)) && decide (((ops.length : Nat) : Int) ≤ (ops.length : Int)) then ops.take (((ops.length : Nat) : Int)).toNat else done)⟩ : WorldM) = _
    rw [hd]
    rfl
   ·subst e3
    refine (if_neg ?_).trans ?_
    ·rintro ⟨_, _, e⟩; cases e
    rw [mkDone_eq]
    show (⟨_, _, t, 1, true, [], (if decide (((ops.length : Nat) : Int) > (done.length : Int)) && decide (((ops.length : Nat) : Int) ≤ (ops.length : Int)) then ops.take (((ops.length : Nat) : Int)).toNat else done)⟩ : WorldM) = _
    rw [hd]
    rfl
  rw [q1, net1, q2, net1, q3]
 ·have hr : RightP a2 a1 term both done := hr
  have hh := hear_rest hr 1
  obtain ⟨U, hU⟩ : ∃ U : NodeM, U = { a2 with up := true } := ⟨_, rfl⟩
  obtain ⟨N, hN⟩ : ∃ N : NodeM, N = ⟨true, term, false, false, a2.ops⟩ := ⟨_, rfl⟩
  have q1 : joinM (quietM ⟨a1, a2, term, 2, both, nets, done⟩) = ⟨{ a1 with up := true }, U, term, 2, both, [⟨3, 1, a2.term, (a2.ops.length : Nat), noOp, a2.ops⟩], done⟩ := by
   subst hU
   unfold joinM
   refine (if_pos ?_).trans ?_
   ·rfl
   ·rw [send0M (w := quietM ⟨a1, a2, term, 2, both, nets, done⟩) rfl]
    rfl
  have q2 : bringM ⟨{ a1 with up := true }, U, term, 2, both, [], done⟩ ⟨3, 1, a2.term, (a2.ops.length : Nat), noOp, a2.ops⟩ = ⟨N, U, term, 2, both, [⟨4, 2, term, (a2.ops.length : Nat), noOp, []⟩], done⟩ := by
   have hk : hearK { a1 with up := true } 1 ⟨3, 1, a2.term, (a2.ops.length : Nat), noOp, a2.ops⟩ = (N, ⟨4, 3 - 1, N.term, (N.ops.length : Nat), noOp, []⟩, true) := by
    unfold hearK
    rw [if_neg (by show ¬ (3 : Int) = 1; decide), if_pos rfl, hh, hN]
    rfl
   unfold bringM
   refine (if_pos ?_).trans ?_
   ·rfl
   refine (if_pos ?_).trans ?_
   ·exact .inr rfl
   show (if (hearK { a1 with up := true } 1 ⟨3, 1, a2.term, (a2.ops.length : Nat), noOp, a2.ops⟩).2.2 = true then sendM (WorldM.setN _ 1 (hearK { a1 with up := true } 1 ⟨3, 1, a2.term, (a2.ops.length : Nat), noOp, a2.ops⟩).1) (hearK { a1 with up := true } 1 ⟨3, 1, a2.term, (a2.ops.length : Nat), noOp, a2.ops⟩).2.1 else _) = _
   rw [hk]
   refine (if_pos ?_).trans ?_
   ·rfl
   ·refine (send0M rfl _).trans ?_
    rw [hN]
    rfl
  have q3 : bringM ⟨N, U, term, 2, both, [], done⟩ ⟨4, 2, term, (a2.ops.length : Nat), noOp, []⟩ = restM ⟨a1, a2, term, 2, both, nets, done⟩ := by
   have hd := done_all hr.d
   have e1 := hr.nt
   have e2 := hr.nl
   have e3 := hr.na
   obtain ⟨u, t, l, al, ops⟩ := a2
   simp only at e1 e2 e3 hd
   subst e1 e2 hU hN
   unfold bringM
   refine (if_pos ?_).trans ?_
   ·rfl
   refine (if_neg ?_).trans ?_
   ·show ¬ ((4 : Int) = 1 ∨ (4 : Int) = 3)
    decide
   refine (if_pos ?_).trans ?_
   ·exact ⟨rfl, rfl⟩
   cases both
   ·subst e3
    refine (if_pos ?_).trans ?_
    ·exact ⟨rfl, rfl, rfl⟩
    rw [mkDone_eq]
    show (⟨_, _, t, 2, true, [], (if decide (((ops.length : Nat) : Int) > (done.length : Int)) && decide (((ops.length : Nat) : Int) ≤ (ops.length : Int)) then ops.take (((ops.length : Nat) : Int)).toNat else done)⟩ : WorldM) = _
    rw [hd]
    rfl
   ·subst e3
    refine (if_neg ?_).trans ?_
    ·rintro ⟨_, _, e⟩; cases e
    rw [mkDone_eq]
    show (⟨_, _, t, 2, true, [], (if decide (((ops.length : Nat) : Int) > (done.length : Int)) && decide (((ops.length : Nat) : Int) ≤ (ops.length : Int)) then ops.take (((ops.length : Nat) : Int)).toNat else done)⟩ : WorldM) = _
    rw [hd]
    rfl
  rw [q1, net1, q2, net1, q3]
theorem rest_nets (w : WorldM) : (restM w).nets = [] := by unfold restM; split <;> rfl
theorem round_eq {w : WorldM} (h : WInv w) : roundM w = restM w := by
 unfold roundM
 rw [round2_eq h]
 exact net0 (rest_nets w) 2
theorem rest_rest (w : WorldM) (hl : w.lead = 1 ∨ w.lead = 2) : restM (restM w) = restM w := by
 obtain ⟨a1, a2, term, lead, both, nets, done⟩ := w
 simp only at hl
 rcases hl with rfl | rfl <;> rfl
theorem calm_rest : ∀ (n : Nat) {w : WorldM}, WInv w → calmM (n + 1) w = restM w
 | 0, w, h => round_eq h
 | n + 1, w, h => by
  show calmM (n + 1) (roundM w) = restM w
  rw [calm_rest n (winv_round h), round_eq h, rest_rest w h.lead]
end Go.Gn

namespace Go.Gn
open Go
structure Deaf (w : WorldM) : Prop where
 l : w.lead = 1
 b : w.both = false
 t : w.term = 1
 o : w.n2.ops = []
 n : w.n2.leads = false
theorem deaf_send {w : WorldM} (h : Deaf w) (m : MsgM) : Deaf (sendM w m) := by
 unfold sendM
 split
 ·exact ⟨h.l, h.b, h.t, h.o, h.n⟩
 ·exact h
theorem deaf_done {w : WorldM} (h : Deaf w) (os : List OpM) (k : Int) : Deaf (doneM w os k) := by
 unfold doneM
 split
 ·exact ⟨h.l, h.b, h.t, h.o, h.n⟩
 ·exact h
theorem deaf_set1 {w : WorldM} (h : Deaf w) (n : NodeM) : Deaf (w.setN 1 n) := ⟨h.l, h.b, h.t, h.o, h.n⟩
theorem deaf_do {w : WorldM} (h : Deaf w) (e : EvM) (hk : e.kind ≠ 2) : Deaf (doM w e) := by
 unfold doM
 split
 ·split
  ·rename_i hc
   unfold askM
   rcases inR12 hc with he | he
   ·rw [he]
    split
    ·split
     ·exact deaf_send (deaf_done (deaf_set1 h _) _ _) _
     ·exact deaf_send (deaf_set1 h _) _
    ·exact h
   ·rw [he, if_neg]
    ·exact h
    ·show ¬ askOk w.n2 e.op = true
     unfold askOk
     rw [h.n]; simp
  ·exact h
 ·split
  ·unfold netM
   split
   ·split
    ·split
     ·exact deaf_send h _
     ·exact ⟨h.l, h.b, h.t, h.o, h.n⟩
    ·exact h
   ·exact h
  ·split
   ·split
    ·rename_i hc
     unfold upM
     rcases inR12 hc with he | he
     ·rw [he]; exact deaf_set1 h _
     ·rw [he]; exact ⟨h.l, h.b, h.t, h.o, h.n⟩
    ·exact h
   ·split
    ·rw [h.b, Bool.false_and, if_neg (by simp)]; exact h
    ·split
     ·rw [h.b, Bool.false_and, if_neg (by simp)]; exact h
     ·split
      ·unfold joinM
       split
       ·exact deaf_send h _
       ·exact h
      ·exact h
theorem deaf_play : ∀ (es : List EvM) {w : WorldM}, Deaf w → (∀ e ∈ es, e.kind ≠ 2) → Deaf (playM w es)
 | [], _, h, _ => h
 | e :: es, _, h, hk => deaf_play es (deaf_do h e (hk e List.mem_cons_self)) fun x hx => hk x (List.mem_cons_of_mem _ hx)
theorem deaf_new : Deaf worldNew := ⟨rfl, rfl, rfl, rfl, rfl⟩
theorem alone_done {w : WorldM} (h : WInv w) (hb : w.both = false) : w.done = (w.nd w.lead).ops :=
 h.r.d.eq_of_length (h.r.ad (by rw [h.r.na, hb]; rfl))
end Go.Gn

namespace Go.Gn
open Go
theorem play_app : ∀ (a b : List EvM) (w : WorldM), playM w (a ++ b) = playM (playM w a) b
 | [], _, _ => rfl
 | e :: a, b, w => play_app a b (doM w e)
theorem send_eq (w : WorldM) (m : MsgM) : ∃ l, sendM w m = { w with nets := w.nets ++ l } ∧ (l = [] ∨ l = [m]) := by
 unfold sendM
 split
 ·exact ⟨[m], rfl, .inr rfl⟩
 ·exact ⟨[], by rw [List.append_nil], .inl rfl⟩
theorem term_send (w : WorldM) (m : MsgM) : (sendM w m).term = w.term := by unfold sendM; split <;> rfl
theorem term_done (w : WorldM) (os : List OpM) (k : Int) : (doneM w os k).term = w.term := by unfold doneM; split <;> rfl
theorem term_set (w : WorldM) (id : Int) (n : NodeM) : (w.setN id n).term = w.term := setN_other.1
theorem term_ask (w : WorldM) (id : Int) (o : OpM) : (askM w id o).term = w.term := by
 unfold askM
 split
 ·rw [term_send]
  split
  ·rw [term_done, term_set]
  ·rw [term_set]
 ·rfl
theorem term_bring (w : WorldM) (m : MsgM) : (bringM w m).term = w.term := by
 unfold bringM
 split
 ·split
  ·split
   ·rw [term_send, term_set]
   ·rfl
  ·split
   ·split
    ·rw [term_done]; exact term_set w m.to _
    ·rw [term_done]
   ·rfl
 ·rfl
theorem term_net (w : WorldM) (k i : Int) : (netM w k i).term = w.term := by
 unfold netM
 split
 ·split
  ·split
   ·rw [term_send]
   ·split
    ·rw [term_bring]
    ·rfl
  ·rfl
 ·rfl
theorem term_join (w : WorldM) : (joinM w).term = w.term := by
 unfold joinM
 split
 ·rw [term_send]
 ·rfl
theorem term_lead (w : WorldM) (id : Int) : (leadM w id).term ≤ w.term + 1 := by
 unfold leadM
 split
 ·omega
 ·rw [term_done]; exact Int.le_refl _
theorem term_do (w : WorldM) (e : EvM) : (doM w e).term ≤ w.term + 1 := by
 unfold doM
 split
 ·split
  ·rw [term_ask]; omega
  ·omega
 ·split
  ·rw [term_net]; omega
  ·split
   ·split
    ·unfold upM; rw [term_set]; omega
    ·omega
   ·split
    ·split
     ·exact term_lead _ _
     ·omega
    ·split
     ·split
      ·exact term_lead _ _
      ·omega
     ·split
      ·rw [term_join]; omega
      ·omega
theorem term_play : ∀ (es : List EvM) (w : WorldM), (playM w es).term ≤ w.term + es.length
 | [], w => by simp [playM]
 | e :: es, w => by
  have h1 := term_play es (doM w e)
  have h2 := term_do w e
  show (playM (doM w e) es).term ≤ w.term + ((es.length + 1 : Nat) : Int)
  omega
theorem msg_kind {m : MsgM} (hm : msgOk m = true) : (m.to = 1 ∨ m.to = 2) ∧ (m.kind = 1 ∨ m.kind = 2 ∨ m.kind = 3 ∨ m.kind = 4) ∧ (m.kind = 3 → (m.ops.length : Int) = m.n) ∧ (m.kind = 1 → 1 ≤ m.n) ∧ 0 ≤ m.n := by
 unfold msgOk at hm
 simp only [Bool.and_eq_true, inR_iff] at hm
 obtain ⟨h1, h2, h3, h4⟩ := hm
 split at h4
 ·rename_i hk
  simp only [Bool.and_eq_true, decide_eq_true_eq] at h4
  exact ⟨by omega, .inl hk, fun e => by omega, fun _ => by omega, by omega⟩
 ·rename_i hk1
  split at h4
  ·exact ⟨by omega, by omega, fun e => by omega, fun e => absurd e hk1, by omega⟩
  ·split at h4
   ·rename_i hk3
    simp only [Bool.and_eq_true, beq_iff_eq] at h4
    exact ⟨by omega, by omega, fun _ => h4.2.1, fun e => absurd e hk1, by omega⟩
   ·cases h4
theorem hear_leads {n : NodeM} {m : MsgM} {id : Int} (hl : n.leads = true) (ht : m.term ≤ n.term) : (hearK n id m).2.2 = false := by
 unfold hearK
 split
 ·have : hearCopy n m = (n, false) := by
   unfold hearCopy
   rw [if_pos (by rw [hl, Bool.or_true])]
  rw [this]; rfl
 ·split
  ·have : hearJoin n m = (n, false) := by
    unfold hearJoin
    rw [if_pos]
    rw [hl, Bool.and_true, Bool.or_eq_true, decide_eq_true_eq, beq_iff_eq]
    omega
   rw [this]; rfl
  ·rfl
theorem bring_old {z : WorldM} {m : MsgM} (hl : z.lead = 1 ∨ z.lead = 2) (hm : msgOk m = true) (hr : RightP (z.nd z.lead) (z.nd (3 - z.lead)) z.term z.both z.done) (ht : TrueP (z.nd z.lead) (z.nd (3 - z.lead)) z.term z.lead z.done m)
  (hol : (z.nd (3 - z.lead)).leads = true) (hlt : m.term ≤ (z.nd (3 - z.lead)).term) (hot : (z.nd (3 - z.lead)).term < z.term) : bringM z m = z := by
 obtain ⟨hto, hk, _, _, hn0⟩ := msg_kind hm
 have hnt := hr.nt
 have hle : (z.nd m.to).leads = true ∧ m.term ≤ (z.nd m.to).term := by
  by_cases hi : m.to = z.lead
  ·rw [hi]; exact ⟨hr.nl, by omega⟩
  ·rw [show m.to = 3 - z.lead by omega]; exact ⟨hol, hlt⟩
 unfold bringM
 split
 ·split
  ·rw [hear_leads hle.1 hle.2, if_neg (by simp)]
  ·rename_i hk13
   split
   ·rename_i hc
    have hi : m.to = 3 - z.lead := by
     by_cases hi : m.to = z.lead
     ·rw [hi] at hc; omega
     ·omega
    rw [hi] at hc ⊢
    rw [if_neg (by rintro ⟨_, _, e⟩; rw [hr.oa] at e; cases e)]
    obtain ⟨g1, g2⟩ := ht.old (by omega) (by omega) hi hol hc.1.symm
    have := g2.length_le
    rw [List.length_take] at this
    unfold doneM
    rw [if_neg]
    simp only [Bool.and_eq_true, decide_eq_true_eq, not_and]
    omega
   ·rfl
 ·rfl
structure Stale (x y : WorldM) : Prop where
 inv : WInv y
 lead : y.lead = x.lead
 both : y.both = false
 done : y.done = x.done
 nd : y.nd x.lead = x.nd x.lead
 ol : (y.nd (3 - x.lead)).leads = true
 ot : (y.nd (3 - x.lead)).term < y.term
 nets : ∀ m ∈ y.nets, m.term ≤ (y.nd (3 - x.lead)).term
theorem stale_ask {x y : WorldM} (h : Stale x y) (op : OpM) : Stale x (askM y (3 - x.lead) op) := by
 have hl := h.inv.lead
 rw [h.lead] at hl
 have hw := winv_ask h.inv (id := 3 - x.lead) (by omega) op
 have hoa := h.inv.r.oa
 rw [h.lead] at hoa
 revert hw
 unfold askM
 split
 ·rw [if_neg (by rw [hoa]; simp)]
  obtain ⟨l, hs, hlm⟩ := send_eq (y.setN (3 - x.lead) (nodeAdd (y.nd (3 - x.lead)) op)) (askMsg (y.nd (3 - x.lead)) (3 - x.lead) op)
  rw [hs]
  intro hw
  obtain ⟨t1, t2, t3, t4, t5⟩ := setN_other (w := y) (id := 3 - x.lead) (n := nodeAdd (y.nd (3 - x.lead)) op)
  have s1 : (y.setN (3 - x.lead) (nodeAdd (y.nd (3 - x.lead)) op)).nd (3 - x.lead) = nodeAdd (y.nd (3 - x.lead)) op := nd_set_same (by omega)
  have s2 : (y.setN (3 - x.lead) (nodeAdd (y.nd (3 - x.lead)) op)).nd x.lead = y.nd x.lead := by
   have := nd_set_other (w := y) (id := 3 - x.lead) (n := nodeAdd (y.nd (3 - x.lead)) op) (by omega)
   rwa [show 3 - (3 - x.lead) = x.lead by omega] at this
  refine ⟨hw, t2.trans h.lead, t3.trans h.both, t5.trans h.done, s2.trans h.nd, ?_, ?_, fun m hm => ?_⟩
  ·show ((y.setN _ _).nd (3 - x.lead)).leads = true
   rw [s1]; exact h.ol
  ·show ((y.setN _ _).nd (3 - x.lead)).term < (y.setN _ _).term
   rw [s1, t1]; exact h.ot
  ·show m.term ≤ ((y.setN _ _).nd (3 - x.lead)).term
   rw [s1]
   rcases List.mem_append.1 hm with hm | hm
   ·rw [t4] at hm; exact h.nets m hm
   ·rcases hlm with rfl | rfl
    ·cases hm
    ·rw [List.mem_singleton] at hm; subst hm; exact Int.le_refl _
 ·intro _; exact h
theorem stale_bring {x y : WorldM} (h : Stale x y) (i : Int) : Stale x (netM y 2 i) := by
 have hl := h.inv.lead
 have hw := winv_net h.inv 2 i
 revert hw
 unfold netM
 split
 ·split
  ·rename_i m hm
   have hmem := List.mem_of_getElem? hm
   obtain ⟨m1, m2⟩ := h.inv.ms m hmem
   have hr := h.inv.r
   have ho : y.nd (3 - y.lead) = y.nd (3 - x.lead) := by rw [h.lead]
   have e : bringM { y with nets := y.nets.take i.toNat ++ y.nets.drop (i.toNat + 1) } m = { y with nets := y.nets.take i.toNat ++ y.nets.drop (i.toNat + 1) } :=
    bring_old hl m1 hr m2 (by show (y.nd (3 - y.lead)).leads = true; rw [ho]; exact h.ol) (by show m.term ≤ (y.nd (3 - y.lead)).term; rw [ho]; exact h.nets m hmem) (by show (y.nd (3 - y.lead)).term < y.term; rw [ho]; exact h.ot)
   rw [if_neg (by decide), if_pos rfl, e]
   intro hw
   refine ⟨hw, h.lead, h.both, h.done, h.nd, h.ol, h.ot, fun m hm => ?_⟩
   rcases List.mem_append.1 hm with hm | hm
   ·exact h.nets m (List.mem_of_mem_take hm)
   ·exact h.nets m (List.mem_of_mem_drop hm)
  ·intro _; exact h
 ·intro _; exact h
theorem stale_turn {w : WorldM} (h : WInv w) (hb : w.both = true) (ht : ¬ w.term ≥ 99) : Stale (leadM w (3 - w.lead)) (leadM w (3 - w.lead)) := by
 have hl := h.lead
 have hr := h.r
 have hw := winv_leadM h hb (id := 3 - w.lead) (by omega)
 have e := leadM_eq (id := 3 - w.lead) ht (hr.bd hb)
 rw [e] at hw ⊢
 obtain ⟨t1, t2, t3, t4, t5⟩ := setN_other (w := w) (id := 3 - w.lead) (n := ⟨(w.nd (3 - w.lead)).up, w.term + 1, true, true, (w.nd (3 - w.lead)).ops⟩)
 have s2 : (w.setN (3 - w.lead) ⟨(w.nd (3 - w.lead)).up, w.term + 1, true, true, (w.nd (3 - w.lead)).ops⟩).nd (3 - (3 - w.lead)) = w.nd w.lead := by
  have := nd_set_other (w := w) (id := 3 - w.lead) (n := ⟨(w.nd (3 - w.lead)).up, w.term + 1, true, true, (w.nd (3 - w.lead)).ops⟩) (by omega)
  rwa [show w.nd (3 - (3 - w.lead)) = w.nd w.lead by rw [show 3 - (3 - w.lead) = w.lead by omega]] at this
 have hnt := hr.nt
 refine ⟨hw, rfl, rfl, rfl, rfl, ?_, ?_, fun m hm => ?_⟩
 ·show ((w.setN _ _).nd (3 - (3 - w.lead))).leads = true
  rw [s2]; exact hr.nl
 ·show ((w.setN _ _).nd (3 - (3 - w.lead))).term < w.term + 1
  rw [s2]; omega
 ·show m.term ≤ ((w.setN _ _).nd (3 - (3 - w.lead))).term
  rw [s2, hnt]
  have hm' : m ∈ w.nets := by rw [← t4]; exact hm
  exact (h.ms m hm').2.le
theorem hear_up (n : NodeM) (id : Int) (m : MsgM) : (hearK n id m).1.up = n.up := by
 have h1 : (hearCopy n m).1.up = n.up := by
  unfold hearCopy
  split
  ·rfl
  ·split
   ·rfl
   ·split <;> rfl
 have h2 : (hearJoin n m).1.up = n.up := by
  unfold hearJoin
  split
  ·rfl
  ·split <;> rfl
 unfold hearK
 split
 ·split <;> exact h1
 ·split
  ·split <;> exact h2
  ·rfl
theorem copy_twice {n : NodeM} {m : MsgM} (h1 : 1 ≤ m.n) (hok : (hearCopy n m).2 = true) : hearCopy (hearCopy n m).1 m = hearCopy n m := by
 have e : hearCopy n m = hearCopy n m := rfl
 conv at e => rhs; unfold hearCopy
 split at e
 ·rw [e] at hok; cases hok
 ·rename_i hc
  split at e
  ·rw [e]
   show hearCopy n m = _
   rw [e]
  ·rename_i hc2
   split at e
   ·rw [e] at hok; cases hok
   ·rename_i hc3
    rw [e]
    show hearCopy { n with ops := n.ops ++ [m.op] } m = _
    simp only [Bool.or_eq_true, not_or, bne_iff_ne, ne_eq, Decidable.not_not] at hc3
    have hlen : ((n.ops ++ [m.op]).length : Int) ≥ m.n := by simp; omega
    have hget : (n.ops ++ [m.op])[(m.n - 1).toNat]? = some m.op := by
     rw [show (m.n - 1).toNat = n.ops.length by omega]
     simp
    unfold hearCopy
    rw [if_neg hc, if_pos (by simpa using hlen)]
    simp only [hget, opEq_eq, decide_true]
theorem join_twice {n : NodeM} {m : MsgM} (h1 : (m.ops.length : Int) = m.n) (hok : (hearJoin n m).2 = true) : hearJoin (hearJoin n m).1 m = hearJoin n m := by
 have e : hearJoin n m = hearJoin n m := rfl
 conv at e => rhs; unfold hearJoin
 split at e
 ·rw [e] at hok; cases hok
 ·split at e
  ·rw [e]
   show hearJoin ⟨n.up, m.term, false, false, m.ops⟩ m = _
   unfold hearJoin
   rw [if_neg (by simp), if_neg (by simp; omega)]
  ·rw [e]
   show hearJoin n m = _
   rw [e]
theorem hear_twice {n : NodeM} {m : MsgM} {id : Int} (hm : msgOk m = true) (hok : (hearK n id m).2.2 = true) : hearK (hearK n id m).1 id m = hearK n id m := by
 obtain ⟨_, _, h3, h1, _⟩ := msg_kind hm
 unfold hearK at hok ⊢
 by_cases k1 : m.kind = 1
 ·simp only [if_pos k1] at hok ⊢
  split at hok
  ·rename_i hc
   rw [if_pos hc]
   have := copy_twice (h1 k1) hc
   simp only
   rw [this, if_pos hc]
  ·cases hok
 ·by_cases k3 : m.kind = 3
  ·simp only [if_neg k1, if_pos k3] at hok ⊢
   split at hok
   ·rename_i hc
    rw [if_pos hc]
    have := join_twice (h3 k3) hc
    simp only
    rw [this, if_pos hc]
   ·cases hok
  ·simp only [if_neg k1, if_neg k3] at hok
   cases hok
theorem done_twice (w : WorldM) (os : List OpM) (k : Int) : doneM (doneM w os k) os k = doneM w os k := by
 by_cases hc : (decide (k > (w.done.length : Int)) && decide (k ≤ (os.length : Int))) = true
 ·have e : doneM w os k = { w with done := os.take k.toNat } := by unfold doneM; rw [if_pos hc]
  rw [e]
  unfold doneM
  rw [if_neg]
  simp only [Bool.and_eq_true, decide_eq_true_eq, List.length_take] at hc ⊢
  omega
 ·have e : doneM w os k = w := by unfold doneM; rw [if_neg hc]
  rw [e, e]
def WorldM.dry (w : WorldM) : WorldM := { w with nets := [] }
theorem dry_send (w : WorldM) (m : MsgM) : (sendM w m).dry = w.dry := by unfold sendM; split <;> rfl
theorem dry_done (w : WorldM) (os : List OpM) (k : Int) : (doneM w os k).dry = doneM w.dry os k := by rw [mkDone_eq, mkDone_eq]; rfl
theorem dry_set (w : WorldM) (id : Int) (n : NodeM) : (w.setN id n).dry = w.dry.setN id n := by unfold WorldM.setN; split <;> rfl
theorem dry_dry (w : WorldM) : w.dry.dry = w.dry := rfl
theorem dry_nd (w : WorldM) (id : Int) : w.dry.nd id = w.nd id := rfl
def coreB (w : WorldM) (m : MsgM) : WorldM := (bringM w.dry m).dry
theorem dry_both (w : WorldM) (id : Int) (n : NodeM) : WorldM.dry { w.setN id n with both := true } = { w.dry.setN id n with both := true } := by unfold WorldM.setN; split <;> rfl
theorem bring_core (w : WorldM) (m : MsgM) : (bringM w m).dry = coreB w m := by
 unfold coreB bringM
 rw [dry_nd w m.to]
 generalize w.nd m.to = n
 split
 ·split
  ·split
   ·rw [dry_send, dry_send, dry_set, dry_set, dry_dry]
   ·rfl
  ·split
   ·split
    ·rw [dry_done, dry_done, dry_both, dry_both, dry_dry]
    ·rw [dry_done, dry_done, dry_dry]
   ·rfl
 ·rfl
theorem core_core (w : WorldM) (l : List MsgM) (m : MsgM) : coreB { w with nets := l } m = coreB w m := rfl
theorem core_twice (w : WorldM) {m : MsgM} (hm : msgOk m = true) : coreB (coreB w m) m = coreB w m := by
 obtain ⟨hto, _⟩ := msg_kind hm
 have hn : ∀ w : WorldM, w.dry = w → (bringM (bringM w m).dry m).dry = (bringM w m).dry := by
  intro w hw
  have e : bringM w m = bringM w m := rfl
  conv at e => rhs; unfold bringM
  split at e
  ·rename_i hup
   split at e
   ·rename_i hk
    split at e
    ·rename_i hok
     rw [e, dry_send, dry_set, hw]
     have s1 : (w.setN m.to (hearK (w.nd m.to) m.to m).1).nd m.to = (hearK (w.nd m.to) m.to m).1 := nd_set_same hto
     have e2 : bringM (w.setN m.to (hearK (w.nd m.to) m.to m).1) m = sendM ((w.setN m.to (hearK (w.nd m.to) m.to m).1).setN m.to (hearK (w.nd m.to) m.to m).1) (hearK (w.nd m.to) m.to m).2.1 := by
      unfold bringM
      rw [s1, if_pos (by rw [hear_up]; exact hup), if_pos hk, hear_twice hm hok, if_pos hok]
     rw [e2, dry_send, dry_set, dry_set, hw]
     rcases hto with h | h <;> rw [h] <;> rfl
    ·rw [e, hw, e, hw]
   ·rename_i hk
    split at e
    ·rename_i hc
     split at e
     ·rename_i hc4
      rw [e, dry_done, dry_both, hw]
      have s1 : (doneM { w.setN m.to { w.nd m.to with alone := false } with both := true } (w.nd m.to).ops m.n).nd m.to = { w.nd m.to with alone := false } := by
       rw [mkDone_eq]
       exact nd_set_same (w := w) hto
      have e2 : bringM (doneM { w.setN m.to { w.nd m.to with alone := false } with both := true } (w.nd m.to).ops m.n) m = doneM (doneM { w.setN m.to { w.nd m.to with alone := false } with both := true } (w.nd m.to).ops m.n) (w.nd m.to).ops m.n := by
       unfold bringM
       rw [s1]
       rw [if_pos (by exact hup), if_neg hk, if_pos (by exact hc), if_neg (by rintro ⟨_, _, h⟩; cases h)]
      rw [e2, done_twice, dry_done, dry_both, hw]
     ·rename_i hc4
      rw [e, dry_done, hw]
      have s1 : (doneM w (w.nd m.to).ops m.n).nd m.to = w.nd m.to := by rw [mkDone_eq]; rfl
      have e2 : bringM (doneM w (w.nd m.to).ops m.n) m = doneM (doneM w (w.nd m.to).ops m.n) (w.nd m.to).ops m.n := by
       unfold bringM
       rw [s1, if_pos hup, if_neg hk, if_pos hc, if_neg hc4]
      rw [e2, done_twice, dry_done, hw]
    ·rw [e, hw, e, hw]
  ·rw [e, hw, e, hw]
 exact hn w.dry rfl
theorem bring_nets (w : WorldM) (m : MsgM) : ∃ l, (bringM w m).nets = w.nets ++ l := by
 have s : ∀ (w : WorldM) m, ∃ l, (sendM w m).nets = w.nets ++ l := fun w m => by
  obtain ⟨l, h, _⟩ := send_eq w m
  exact ⟨l, by rw [h]⟩
 have d : ∀ (w : WorldM) os k, (doneM w os k).nets = w.nets := fun w os k => by rw [mkDone_eq]
 have t : ∀ (w : WorldM) id n, (w.setN id n).nets = w.nets := fun w id n => setN_other.2.2.2.1
 unfold bringM
 split
 ·split
  ·split
   ·obtain ⟨l, h⟩ := s (w.setN m.to (hearK (w.nd m.to) m.to m).1) (hearK (w.nd m.to) m.to m).2.1
    exact ⟨l, by rw [h, t]⟩
   ·exact ⟨[], by simp⟩
  ·split
   ·split
    ·exact ⟨[], by rw [d, List.append_nil]; exact t w m.to _⟩
    ·exact ⟨[], by rw [d, List.append_nil]⟩
   ·exact ⟨[], by simp⟩
 ·exact ⟨[], by simp⟩
end Go.Gn

