/- Part 19 of a proof: an evaluator of the program, proved sound, and what it answers. -/
import Derived.Test.YtkgpnfeabojhcaaGreatA15
import Derived.Test.YtkgpnfeabojhcaaGreatA17
import Derived.Test.YtkgpnfeabojhcaaGreatA18
set_option linter.all false
namespace Go.Gn
open Go
set_option maxRecDepth 100000
set_option maxHeartbeats 4000000
def opsEq (a b : List OpM) : Bool := decide (a = b)
theorem take_eq_of {α : Type} [DecidableEq α] {a b : List α} (hl : a.length = b.length) {i : Nat} {x y : α} (hx : a[i]? = some x) (hy : b[i]? = some y) : decide (a.drop i = b.drop i) = (decide (x = y) && decide (a.drop (i + 1) = b.drop (i + 1))) := by
 rw [drop_cons hx, drop_cons hy]
 by_cases h : x = y <;> simp [h]
section
variable {W : CallF} {L : LoopF} {E : EqF} {T : Prop → Bool} (h : IsK G W L E T)
include h
theorem lgOps_loop (a b : List OpM) (ha : a.length < 2000000) (hab : a.length = b.length) : ∀ (m i : Nat), i + m = a.length → L (norm 0 cf37.live) (exitN 0 cf37.out (evCW W L G cf37 0 c37l0)) ⟨[(0, .sl .br (a.map opD)), (1, .sl .br (b.map opD)), (5, .int .i64 (i : Nat))], []⟩ =
  some (if decide (a.drop i = b.drop i) then (.ext 0, ⟨[(4, .top)], []⟩) else (.ret, ⟨[(4, .bool false)], []⟩))
 | 0, i, hm => by
  rw [List.drop_eq_nil_of_le (show a.length ≤ i by omega), List.drop_eq_nil_of_le (show b.length ≤ i by omega)]
  rw [h.loop]
  repeat (conv=>lhs;whnf;arg 2;tactic=>first|exact g1)
  rfl
 | m + 1, i, hm => by
  obtain ⟨x, hx⟩ := get_some (xs := a) (i := i) (by omega)
  obtain ⟨y, hy⟩ := get_some (xs := b) (i := i) (by omega)
  have he := E_op h x y
  rw [opEq_eq] at he
  rw [take_eq_of hab hx hy, h.loop]
  cases hd : decide (x = y)
  ·rw [hd] at he
   repeat (conv=>lhs;whnf;arg 2;tactic=>first|exact g1|exact map_get hx|exact map_get hy|exact he)
   rfl
  ·rw [hd] at he
   repeat (conv=>lhs;whnf;arg 2;tactic=>first|exact g1|exact map_get hx|exact map_get hy|exact he)
   conv => lhs; whnf
   rw [wrap_succ (by omega), lgOps_loop a b ha hab m (i + 1) (by omega)]
   rfl
theorem ev_lgOps (a b : List OpM) (ha : a.length < 2000000) : W f_laws_lgOps [.sl .br (a.map opD), .sl .br (b.map opD)] [] = some (.bool (opsEq a b), []) := by
 have hla : ((a.map opD).length : Nat) = a.length := List.length_map ..
 have hlb : ((b.map opD).length : Nat) = b.length := List.length_map ..
 unfold opsEq
 rw [h.call]
 by_cases hl : a.length = b.length
 ·have e := lgOps_loop h a b ha hl a.length 0 (by omega)
  rw [nc0, List.drop_zero, List.drop_zero] at e
  have hn : ((((a.map opD).length : Nat) : Int) != ((b.map opD).length : Nat)) = false := by rw [hla, hlb, hl]; exact bne_self_eq_false _
  cases hd : decide (a = b)
  ·rw [hd] at e
   repeat (conv=>lhs;whnf;arg 2;tactic=>first|exact hn|exact e)
   rfl
  ·rw [hd] at e
   repeat (conv=>lhs;whnf;arg 2;tactic=>first|exact hn|exact e)
   rfl
 ·have hn : ((((a.map opD).length : Nat) : Int) != ((b.map opD).length : Nat)) = true := by rw [hla, hlb, bne_iff_ne]; omega
  have hd : decide (a = b) = false := decide_eq_false (fun e => hl (by rw [e]))
  rw [hd]
  repeat (conv=>lhs;whnf;arg 2;tactic=>first|exact hn)
  rfl
def nodeEq (a b : NodeM) : Bool := (a.up == b.up) && ((a.term == b.term) && ((a.leads == b.leads) && ((a.alone == b.alone) && opsEq a.ops b.ops)))
def msgEq (a b : MsgM) : Bool := (a.kind == b.kind) && ((a.to == b.to) && ((a.term == b.term) && ((a.n == b.n) && (opEq a.op b.op && opsEq a.ops b.ops))))
theorem ev_lgNode (a b : NodeM) (ha : a.ops.length < 2000000) : W f_laws_lgNode [nodeA a, nodeA b] [] = some (.bool (nodeEq a b), []) := by
 have eo := ev_lgOps h a.ops b.ops ha
 unfold nodeEq
 rw [h.call]
 cases c1 : a.up == b.up
 ·repeat (conv=>lhs;whnf;arg 2;tactic=>first|exact c1)
  rfl
 ·cases c2 : a.term == b.term
  ·repeat (conv=>lhs;whnf;arg 2;tactic=>first|exact c1|exact c2)
   rfl
  ·cases c3 : a.leads == b.leads
   ·repeat (conv=>lhs;whnf;arg 2;tactic=>first|exact c1|exact c2|exact c3)
    rfl
   ·cases c4 : a.alone == b.alone
    ·repeat (conv=>lhs;whnf;arg 2;tactic=>first|exact c1|exact c2|exact c3|exact c4)
     rfl
    ·repeat (conv=>lhs;whnf;arg 2;tactic=>first|exact c1|exact c2|exact c3|exact c4|exact eo)
     rfl
theorem ev_lgMsg (a b : MsgM) (ha : a.ops.length < 2000000) : W f_laws_lgMsg [msgA a, msgA b] [] = some (.bool (msgEq a b), []) := by
 have eo := ev_lgOps h a.ops b.ops ha
 have eq := E_op h a.op b.op
 unfold msgEq
 rw [h.call]
 cases c1 : a.kind == b.kind
 ·repeat (conv=>lhs;whnf;arg 2;tactic=>first|exact c1)
  rfl
 ·cases c2 : a.to == b.to
  ·repeat (conv=>lhs;whnf;arg 2;tactic=>first|exact c1|exact c2)
   rfl
  ·cases c3 : a.term == b.term
   ·repeat (conv=>lhs;whnf;arg 2;tactic=>first|exact c1|exact c2|exact c3)
    rfl
   ·cases c4 : a.n == b.n
    ·repeat (conv=>lhs;whnf;arg 2;tactic=>first|exact c1|exact c2|exact c3|exact c4)
     rfl
    ·cases c5 : opEq a.op b.op
     ·rw [c5] at eq
      repeat (conv=>lhs;whnf;arg 2;tactic=>first|exact c1|exact c2|exact c3|exact c4|exact eq)
      rfl
     ·rw [c5] at eq
      repeat (conv=>lhs;whnf;arg 2;tactic=>first|exact c1|exact c2|exact c3|exact c4|exact eq|exact eo)
      rfl
def beginsM (a b : List OpM) : Bool := decide ((a.length : Int) ≤ (b.length : Int)) && opsEq a (b.take a.length)
theorem ev_lgBegins (a b : List OpM) (ha : a.length < 2000000) : W f_laws_lgBegins [.sl .br (a.map opD), .sl .br (b.map opD)] [] = some (.bool (beginsM a b), []) := by
 have hla : ((a.map opD).length : Nat) = a.length := List.length_map ..
 have hlb : ((b.map opD).length : Nat) = b.length := List.length_map ..
 have hle : decide ((((a.map opD).length : Nat) : Int) ≤ ((b.map opD).length : Nat)) = decide ((a.length : Int) ≤ (b.length : Int)) := by rw [hla, hlb]
 unfold beginsM
 rw [h.call]
 cases c : decide ((a.length : Int) ≤ (b.length : Int))
 ·rw [c] at hle
  repeat (conv=>lhs;whnf;arg 2;tactic=>first|exact hle)
  rfl
 ·have c' : (a.length : Int) ≤ (b.length : Int) := of_decide_eq_true c
  rw [c] at hle
  have hv : view (b.map opD) 0 ((a.map opD).length - 0) = (b.take a.length).map opD := by rw [hla]; exact view_take opD b _
  have eo := ev_lgOps h a (b.take a.length) ha
  rw [← hv] at eo
  repeat (conv=>lhs;whnf;arg 2;tactic=>first|exact g1|exact eo)
  rfl
end
theorem opsEq_refl (a : List OpM) : opsEq a a = true := by simp [opsEq]
theorem opEq_refl (a : OpM) : opEq a a = true := by rw [opEq_eq]; simp
theorem nodeEq_refl (a : NodeM) : nodeEq a a = true := by simp [nodeEq, opsEq_refl]
theorem msgEq_refl (a : MsgM) : msgEq a a = true := by simp [msgEq, opsEq_refl, opEq_refl]
end Go.Gn

namespace Go.Gn
open Go
structure WorldM where
 n1 : NodeM
 n2 : NodeM
 term : Int
 lead : Int
 both : Bool
 nets : List MsgM
 done : List OpM
 deriving DecidableEq
structure EvM where
 kind : Int
 a : Int
 op : OpM
 deriving DecidableEq
def WorldM.nd (w : WorldM) (id : Int) : NodeM := if id = 1 then w.n1 else w.n2
def WorldM.setN (w : WorldM) (id : Int) (n : NodeM) : WorldM := if id = 1 then { w with n1 := n } else { w with n2 := n }
def sendM (w : WorldM) (m : MsgM) : WorldM := if decide ((w.nets.length : Int) < 12) then { w with nets := w.nets ++ [m] } else w
def doneM (w : WorldM) (os : List OpM) (k : Int) : WorldM := if decide (k > (w.done.length : Int)) && decide (k ≤ (os.length : Int)) then { w with done := os.take k.toNat } else w
def askM (w : WorldM) (id : Int) (o : OpM) : WorldM := if askOk (w.nd id) o then
  sendM (if (w.nd id).alone then doneM (w.setN id (nodeAdd (w.nd id) o)) ((w.nd id).ops ++ [o]) (((w.nd id).ops ++ [o]).length : Nat) else w.setN id (nodeAdd (w.nd id) o)) (askMsg (w.nd id) id o)
 else w
def bringM (w : WorldM) (m : MsgM) : WorldM :=
 if (w.nd m.to).up then
  if m.kind = 1 ∨ m.kind = 3 then
   if (hearK (w.nd m.to) m.to m).2.2 then sendM (w.setN m.to (hearK (w.nd m.to) m.to m).1) (hearK (w.nd m.to) m.to m).2.1 else w
  else if m.term = (w.nd m.to).term ∧ (w.nd m.to).leads = true then
   if m.kind = 4 ∧ m.n = ((w.nd m.to).ops.length : Nat) ∧ (w.nd m.to).alone = true then doneM { w.setN m.to { w.nd m.to with alone := false } with both := true } (w.nd m.to).ops m.n
   else doneM w (w.nd m.to).ops m.n
  else w
 else w
def leadM (w : WorldM) (id : Int) : WorldM := if w.term ≥ 99 then w else
 doneM { w.setN id ⟨(w.nd id).up, w.term + 1, true, true, (w.nd id).ops⟩ with term := w.term + 1, lead := id, both := false } (w.nd id).ops ((w.nd id).ops.length : Nat)
def netM (w : WorldM) (kind i : Int) : WorldM := if inR i 0 ((w.nets.length : Int) - 1) then
  (match w.nets[i.toNat]? with
  | some m => if kind = 4 then sendM w m else if kind = 2 then bringM { w with nets := w.nets.take i.toNat ++ w.nets.drop (i.toNat + 1) } m else { w with nets := w.nets.take i.toNat ++ w.nets.drop (i.toNat + 1) }
  | none => w)
 else w
def joinMsg (w : WorldM) : MsgM := ⟨3, 3 - w.lead, (w.nd w.lead).term, ((w.nd w.lead).ops.length : Nat), noOp, (w.nd w.lead).ops⟩
def joinM (w : WorldM) : WorldM := if (w.nd w.lead).up then sendM w (joinMsg w) else w
def upM (w : WorldM) (id : Int) (b : Bool) : WorldM := w.setN id { w.nd id with up := b }
def doM (w : WorldM) (e : EvM) : WorldM :=
 if e.kind = 1 then (if inR e.a 1 2 then askM w e.a e.op else w)
 else if e.kind = 2 ∨ e.kind = 3 ∨ e.kind = 4 then netM w e.kind e.a
 else if e.kind = 5 ∨ e.kind = 6 then (if inR e.a 1 2 then upM w e.a (e.kind == 6) else w)
 else if e.kind = 7 then (if w.both && (w.nd (3 - w.lead)).up then leadM w (3 - w.lead) else w)
 else if e.kind = 8 then (if w.both && (w.nd w.lead).up then leadM w w.lead else w)
 else if e.kind = 9 then joinM w
 else w
def playM : WorldM → List EvM → WorldM
 | w, [] => w
 | w, e :: es => playM (doM w e) es
def nd1 : NodeM := ⟨true, 1, true, true, []⟩
def nd2 : NodeM := ⟨true, 0, false, false, []⟩
def worldNew : WorldM := ⟨nd1, nd2, 1, 1, false, [], []⟩
def quietM (w : WorldM) : WorldM := { w with n1 := { w.n1 with up := true }, n2 := { w.n2 with up := true }, nets := [] }
def roundM (w : WorldM) : WorldM := netM (netM (netM (joinM (quietM w)) 2 0) 2 0) 2 0
def calmM : Nat → WorldM → WorldM
 | 0, w => w
 | n + 1, w => calmM n (roundM w)
theorem isName_sz {s : Str} (h : isName s = true) : s.size = 1 := by
 simp only [isName, seq_eq, Bool.or_eq_true, decide_eq_true_eq] at h
 rcases h with rfl | rfl | rfl | rfl <;> rfl
theorem opOk_S {o : OpM} (h : opOk o = true) : OpS o := by
 have h2 := h
 rw [← sOpOk_eq] at h
 unfold sOpOk at h
 rw [sName_eq, Bool.and_eq_true] at h
 obtain ⟨h1, h3⟩ := h
 have hz : ∀ {s : Str}, seq s noText = true → s.size ≤ 10 := by
  intro s hs
  rw [seq_eq, decide_eq_true_eq] at hs
  subst hs
  exact Nat.zero_le _
 have ht : ∀ {s : Str}, textOk s = true → s.size ≤ 10 := by
  intro s hs
  simp only [textOk, Bool.and_eq_true, decide_eq_true_eq] at hs
  omega
 have hn : ∀ {s : Str}, isName s = true → s.size ≤ 10 := fun hs => by rw [isName_sz hs]; omega
 refine ⟨hn h1, ?_⟩
 split at h3
 ·simp only [Bool.and_eq_true] at h3
  exact ⟨hz h3.1, hz h3.2.2⟩
 ·split at h3
  ·simp only [Bool.and_eq_true] at h3
   exact ⟨hz h3.1, ht h3.2.2⟩
  ·split at h3
   ·simp only [Bool.and_eq_true, sName_eq] at h3
    exact ⟨hn h3.1, hz h3.2.2⟩
   ·split at h3
    ·simp only [Bool.and_eq_true] at h3
     exact ⟨hz h3.1, hz h3.2.2⟩
    ·cases h3
theorem runM_S : ∀ (os : List OpM) {p : PoolM}, (runM p os).isSome = true → ∀ o ∈ os, OpS o
 | [], p, _, o, ho => by cases ho
 | x :: os, p, h, o, ho => by
  simp only [runM] at h
  split at h
  ·rename_i hc
   rw [Bool.and_eq_true, sOpOk_eq] at hc
   rcases List.mem_cons.1 ho with rfl | ho
   ·exact opOk_S hc.1
   ·exact runM_S os h o ho
  ·cases h
theorem opS_noOp : OpS noOp := ⟨by decide, by decide, by decide⟩
structure OpsG (os : List OpM) : Prop where
 run : (runM poolNew os).isSome = true
 l : os.length ≤ 20
theorem OpsG.s {os : List OpM} (h : OpsG os) : ∀ o ∈ os, OpS o := runM_S os h.run
theorem OpsG.sz {os : List OpM} (h : OpsG os) : OpsSz os := ⟨by have := h.l; omega, fun o ho => (h.s o ho).sz⟩
theorem OpsG.nil : OpsG [] := ⟨rfl, by decide⟩
structure MsgG (m : MsgM) : Prop where
 to : m.to = 1 ∨ m.to = 2
 op : OpS m.op
 ops : OpsG m.ops
 n : 0 ≤ m.n ∧ m.n ≤ 20
 copy : m.kind = 1 → 1 ≤ m.n
 term : -1000 ≤ m.term ∧ m.term ≤ 1000
theorem MsgG.sz {m : MsgM} (h : MsgG m) : MsgSz m := ⟨h.op.sz, h.ops.sz⟩
structure WG (w : WorldM) : Prop where
 lead : w.lead = 1 ∨ w.lead = 2
 o1 : OpsG w.n1.ops
 o2 : OpsG w.n2.ops
 t1 : -1000 ≤ w.n1.term ∧ w.n1.term ≤ 1000
 t2 : -1000 ≤ w.n2.term ∧ w.n2.term ≤ 1000
 t : -1000 ≤ w.term ∧ w.term ≤ 1000
 nl : w.nets.length ≤ 12
 nets : ∀ m ∈ w.nets, MsgG m
 done : OpsG w.done
theorem WG.nd {w : WorldM} (h : WG w) (id : Int) : OpsG (w.nd id).ops := by
 unfold WorldM.nd
 split
 ·exact h.o1
 ·exact h.o2
theorem WG.ndt {w : WorldM} (h : WG w) (id : Int) : -1000 ≤ (w.nd id).term ∧ (w.nd id).term ≤ 1000 := by
 unfold WorldM.nd
 split
 ·exact h.t1
 ·exact h.t2
theorem WG.setN {w : WorldM} (h : WG w) (id : Int) {n : NodeM} (hn : OpsG n.ops) (ht : -1000 ≤ n.term ∧ n.term ≤ 1000) : WG (w.setN id n) := by
 unfold WorldM.setN
 split
 ·exact ⟨h.lead, hn, h.o2, ht, h.t2, h.t, h.nl, h.nets, h.done⟩
 ·exact ⟨h.lead, h.o1, hn, h.t1, ht, h.t, h.nl, h.nets, h.done⟩
theorem WG.send {w : WorldM} (h : WG w) {m : MsgM} (hm : MsgG m) : WG (sendM w m) := by
 unfold sendM
 split
 ·rename_i hc
  have hc' := of_decide_eq_true hc
  refine ⟨h.lead, h.o1, h.o2, h.t1, h.t2, h.t, by simp; omega, fun x hx => ?_, h.done⟩
  rcases List.mem_append.1 hx with hx | hx
  ·exact h.nets x hx
  ·rw [List.mem_singleton] at hx; subst hx; exact hm
 ·exact h
theorem OpsG.take {os : List OpM} (h : OpsG os) (k : Nat) : OpsG (os.take k) := ⟨runM_take os k poolNew h.run, by have := h.l; rw [List.length_take]; omega⟩
theorem WG.doneM {w : WorldM} (h : WG w) {os : List OpM} (ho : OpsG os) (k : Int) : WG (doneM w os k) := by
 unfold Gn.doneM
 split
 ·exact ⟨h.lead, h.o1, h.o2, h.t1, h.t2, h.t, h.nl, h.nets, ho.take _⟩
 ·exact h
theorem runM_app : ∀ (os : List OpM) (p q : PoolM) (o : OpM), runM p os = some q → sOpOk o = true → (sDo q o).2 = true → (runM p (os ++ [o])).isSome = true
 | [], p, q, o, h, h1, h2 => by
  cases h
  simp only [List.nil_append, runM, h1, h2, Bool.and_self, if_true, Option.isSome_some]
 | x :: os, p, q, o, h, h1, h2 => by
  simp only [runM, List.cons_append] at h ⊢
  split at h
  ·rename_i hc
   rw [if_pos hc]
   exact runM_app os _ q o h h1 h2
  ·cases h
theorem canAdd_G {os : List OpM} {o : OpM} (h : canAdd os o = true) : opOk o = true ∧ OpsG (os ++ [o]) := by
 unfold canAdd at h
 split at h
 ·rename_i q hq
  simp only [Bool.and_eq_true, Bool.not_eq_true', decide_eq_false_iff_not] at h
  exact ⟨h.1, runM_app os poolNew q o hq (by rw [sOpOk_eq]; exact h.1) h.2.2, by simp; omega⟩
 ·cases h
theorem askOk_G {n : NodeM} {o : OpM} (h : askOk n o = true) : opOk o = true ∧ OpsG (n.ops ++ [o]) := by
 unfold askOk at h
 simp only [Bool.and_eq_true] at h
 exact canAdd_G h.2.2
theorem WG.ask {w : WorldM} (h : WG w) {id : Int} (hid : id = 1 ∨ id = 2) (o : OpM) : WG (askM w id o) := by
 unfold askM
 split
 ·rename_i hc
  obtain ⟨g1, g2⟩ := askOk_G hc
  have hw := h.setN id (n := nodeAdd (w.nd id) o) g2 (h.ndt id)
  have ht := h.ndt id
  have hm : MsgG (askMsg (w.nd id) id o) := ⟨by show 3 - id = 1 ∨ 3 - id = 2; omega, opOk_S g1, OpsG.nil, by
   show 0 ≤ (((((w.nd id).ops ++ [o]).map opD).length : Nat) : Int) ∧ (((((w.nd id).ops ++ [o]).map opD).length : Nat) : Int) ≤ 20
   have := g2.l
   rw [List.length_map]; omega, fun _ => by
   show 1 ≤ (((((w.nd id).ops ++ [o]).map opD).length : Nat) : Int)
   simp; omega, ht⟩
  split
  ·exact (hw.doneM g2 _).send hm
  ·exact hw.send hm
 ·exact h
theorem hearK_G {n : NodeM} (hn : OpsG n.ops) (ht : -1000 ≤ n.term ∧ n.term ≤ 1000) {id : Int} (hid : id = 1 ∨ id = 2) {m : MsgM} (hm : MsgG m) (hk : m.kind = 1 ∨ m.kind = 3) (hok : (hearK n id m).2.2 = true) :
  OpsG (hearK n id m).1.ops ∧ (-1000 ≤ (hearK n id m).1.term ∧ (hearK n id m).1.term ≤ 1000) ∧ MsgG (hearK n id m).2.1 ∧ (hearK n id m).2.1.ops = [] := by
 unfold hearK at hok ⊢
 rcases hk with hk | hk
 ·simp only [if_pos hk] at hok ⊢
  split at hok
  ·rename_i hc
   rw [if_pos hc]
   have key : OpsG (hearCopy n m).1.ops ∧ (hearCopy n m).1.term = n.term := by
    unfold hearCopy at hc ⊢
    split at hc
    ·cases hc
    ·rename_i h1
     rw [if_neg h1]
     split at hc
     ·rename_i h2; rw [if_pos h2]; exact ⟨hn, rfl⟩
     ·rename_i h2
      rw [if_neg h2]
      split at hc
      ·cases hc
      ·rename_i h3
       rw [if_neg h3]
       simp only [Bool.or_eq_true, Bool.not_eq_true', not_or, Bool.not_eq_false] at h3
       rw [canTake_eq hn.l hn.run] at h3
       exact ⟨(canAdd_G h3.2).2, rfl⟩
   have ht' : -1000 ≤ (hearCopy n m).1.term ∧ (hearCopy n m).1.term ≤ 1000 := by rw [key.2]; exact ht
   exact ⟨key.1, ht', ⟨by show 3 - id = 1 ∨ 3 - id = 2; omega, opS_noOp, OpsG.nil, hm.n, (fun h => by cases h), ht'⟩, rfl⟩
  ·cases hok
 ·have h1 : ¬ m.kind = 1 := by omega
  simp only [if_neg h1, if_pos hk] at hok ⊢
  split at hok
  ·rename_i hc
   rw [if_pos hc]
   have key : OpsG (hearJoin n m).1.ops ∧ (-1000 ≤ (hearJoin n m).1.term ∧ (hearJoin n m).1.term ≤ 1000) := by
    unfold hearJoin at hc ⊢
    split at hc
    ·cases hc
    ·rename_i h1
     rw [if_neg h1]
     split
     ·exact ⟨hm.ops, hm.term⟩
     ·exact ⟨hn, ht⟩
   refine ⟨key.1, key.2, ⟨by show 3 - id = 1 ∨ 3 - id = 2; omega, opS_noOp, OpsG.nil, ?_, (fun h => by cases h), key.2⟩, rfl⟩
   have := key.1.l
   show (0 : Int) ≤ ((hearJoin n m).1.ops.length : Nat) ∧ (((hearJoin n m).1.ops.length : Nat) : Int) ≤ 20
   omega
  ·cases hok
theorem WG.bring {w : WorldM} (h : WG w) {m : MsgM} (hm : MsgG m) : WG (bringM w m) := by
 unfold bringM
 split
 ·split
  ·rename_i hk
   split
   ·rename_i hok
    obtain ⟨g1, g2, g3, _⟩ := hearK_G (h.nd m.to) (h.ndt m.to) hm.to hm hk hok
    exact (h.setN m.to g1 g2).send g3
   ·exact h
  ·split
   ·split
    ·have := h.setN m.to (n := { w.nd m.to with alone := false }) (h.nd m.to) (h.ndt m.to)
     have h2 : WG { w.setN m.to { w.nd m.to with alone := false } with both := true } := ⟨this.lead, this.o1, this.o2, this.t1, this.t2, this.t, this.nl, this.nets, this.done⟩
     exact WG.doneM h2 (h.nd m.to) _
    ·exact h.doneM (h.nd m.to) _
   ·exact h
 ·exact h
theorem WG.leadM {w : WorldM} (h : WG w) {id : Int} (hid : id = 1 ∨ id = 2) : WG (leadM w id) := by
 unfold Gn.leadM
 split
 ·exact h
 ·rename_i hc
  have ht := h.t
  have := h.setN id (n := ⟨(w.nd id).up, w.term + 1, true, true, (w.nd id).ops⟩) (h.nd id) (by show -1000 ≤ w.term + 1 ∧ w.term + 1 ≤ 1000; omega)
  have h2 : WG { w.setN id ⟨(w.nd id).up, w.term + 1, true, true, (w.nd id).ops⟩ with term := w.term + 1, lead := id, both := false } := ⟨hid, this.o1, this.o2, this.t1, this.t2, by show -1000 ≤ w.term + 1 ∧ w.term + 1 ≤ 1000; omega, this.nl, this.nets, this.done⟩
  exact WG.doneM h2 (h.nd id) _
theorem WG.drop1 {w : WorldM} (h : WG w) (k : Nat) : WG { w with nets := w.nets.take k ++ w.nets.drop (k + 1) } := by
 refine ⟨h.lead, h.o1, h.o2, h.t1, h.t2, h.t, ?_, fun m hm => ?_, h.done⟩
 ·have := h.nl
  simp only [List.length_append, List.length_take, List.length_drop]
  omega
 ·rcases List.mem_append.1 hm with hm | hm
  ·exact h.nets m (List.mem_of_mem_take hm)
  ·exact h.nets m (List.mem_of_mem_drop hm)
theorem WG.net {w : WorldM} (h : WG w) (kind i : Int) : WG (netM w kind i) := by
 unfold netM
 split
 ·split
  ·rename_i m hm
   have hmg := h.nets m (List.mem_of_getElem? hm)
   split
   ·exact h.send hmg
   ·split
    ·exact (h.drop1 _).bring hmg
    ·exact h.drop1 _
  ·exact h
 ·exact h
theorem WG.joinMsg {w : WorldM} (h : WG w) : MsgG (joinMsg w) := by
 have hl := h.lead
 have := (h.nd w.lead).l
 exact ⟨by show 3 - w.lead = 1 ∨ 3 - w.lead = 2; omega, opS_noOp, h.nd _, by show (0 : Int) ≤ ((w.nd w.lead).ops.length : Nat) ∧ (((w.nd w.lead).ops.length : Nat) : Int) ≤ 20; omega, fun h => (by cases h), h.ndt _⟩
theorem WG.join {w : WorldM} (h : WG w) : WG (joinM w) := by
 unfold joinM
 split
 ·exact h.send h.joinMsg
 ·exact h
theorem WG.upM {w : WorldM} (h : WG w) (id : Int) (b : Bool) : WG (upM w id b) := h.setN id (h.nd id) (h.ndt id)
theorem inR12 {a : Int} (h : inR a 1 2 = true) : a = 1 ∨ a = 2 := by
 simp only [inR, Bool.and_eq_true, decide_eq_true_eq] at h
 omega
theorem WG.doM {w : WorldM} (h : WG w) (e : EvM) : WG (doM w e) := by
 have hl := h.lead
 unfold Gn.doM
 split
 ·split
  ·rename_i hc; exact h.ask (inR12 hc) _
  ·exact h
 ·split
  ·exact h.net _ _
  ·split
   ·split
    ·exact h.upM _ _
    ·exact h
   ·split
    ·split
     ·exact h.leadM (by omega)
     ·exact h
    ·split
     ·split
      ·exact h.leadM hl
      ·exact h
     ·split
      ·exact h.join
      ·exact h
theorem WG.new : WG worldNew := ⟨.inl rfl, OpsG.nil, OpsG.nil, by decide, by decide, by decide, by decide, (fun m hm => by cases hm), OpsG.nil⟩
theorem WG.play : ∀ (es : List EvM) {w : WorldM}, WG w → WG (playM w es)
 | [], _, h => h
 | e :: es, _, h => WG.play es (h.doM e)
theorem WG.quiet {w : WorldM} (h : WG w) : WG (quietM w) := ⟨h.lead, h.o1, h.o2, h.t1, h.t2, h.t, Nat.zero_le _, (fun m hm => by cases hm), h.done⟩
theorem WG.round {w : WorldM} (h : WG w) : WG (roundM w) := (((h.quiet.join).net 2 0).net 2 0).net 2 0
theorem WG.calm : ∀ (n : Nat) {w : WorldM}, WG w → WG (calmM n w)
 | 0, _, h => h
 | n + 1, _, h => WG.calm n h.round
theorem MsgG.of {m : MsgM} (h : msgOk m = true) (hs : MsgSz m) : MsgG m := by
 unfold msgOk at h
 simp only [Bool.and_eq_true, inR, decide_eq_true_eq] at h
 obtain ⟨h1, h2, h3, h4⟩ := h
 have ar : ∀ {os : List OpM}, areOps os = true → OpsG os := by
  intro os hh
  rw [areOps_run, Bool.and_eq_true, decide_eq_true_eq] at hh
  exact ⟨hh.1, by omega⟩
 have em : ∀ {os : List OpM}, ((os.length : Int) == 0) = true → OpsG os := by
  intro os hh
  have : os = [] := List.eq_nil_of_length_eq_zero (by simpa using hh)
  subst this; exact OpsG.nil
 have no : opEq m.op noOp = true → OpS m.op := by
  intro hh
  rw [opEq_eq, decide_eq_true_eq] at hh
  rw [hh]; exact opS_noOp
 have t2 : -1000 ≤ m.term ∧ m.term ≤ 1000 := by omega
 split at h4
 ·simp only [Bool.and_eq_true, decide_eq_true_eq] at h4
  exact ⟨by omega, opOk_S h4.1, em h4.2.2, by omega, fun _ => by omega, t2⟩
 ·rename_i hk
  split at h4
  ·simp only [Bool.and_eq_true] at h4
   exact ⟨by omega, no h4.1, em h4.2, by omega, fun h => absurd h hk, t2⟩
  ·split at h4
   ·simp only [Bool.and_eq_true] at h4
    exact ⟨by omega, no h4.1, ar h4.2.2, by omega, fun h => absurd h hk, t2⟩
   ·cases h4
end Go.Gn

namespace Go.Gn
open Go
set_option maxRecDepth 100000
set_option maxHeartbeats 8000000
def msgD (m : MsgM) : List D := [.int .i64 m.kind, .int .i64 m.to, .int .i64 m.term, .int .i64 m.n, .int .i64 m.op.kind, .str m.op.name, .str m.op.to, .int .i64 m.op.n, .str m.op.text, .sl (m.ops.map opD)]
def msgV (m : MsgM) (v : AV) : AV := .agg [.int .i64 m.kind, .int .i64 m.to, .int .i64 m.term, .int .i64 m.n, .int .i64 m.op.kind, .str m.op.name, .str m.op.to, .int .i64 m.op.n, .str m.op.text, v]
def oR (c : Nat) (l : List OpM) : Obj := .row 5 0 c (l.map opD)
def nR (c : Nat) (l : List MsgM) : Obj := .row 10 0 c (l.map msgD)
def wV (w : WorldM) (n d : Nat) : AV := .agg [.hs 0 0 2, .int .i64 w.term, .int .i64 w.lead, .bool w.both, .hw n, .hw d]
def wB (w : WorldM) (a b : Nat) : Obj := .box [.bool w.n1.up, .int .i64 w.n1.term, .bool w.n1.leads, .bool w.n1.alone, .hw a, .bool w.n2.up, .int .i64 w.n2.term, .bool w.n2.leads, .bool w.n2.alone, .hw b]
def wS (w : WorldM) (cn : Nat) : List Obj := [wB w 1 2, opsRow w.n1.ops, opsRow w.n2.ops, nR cn w.nets, opsRow w.done]
section
variable {W : CallF} {L : LoopF} {E : EqF} {T : Prop → Bool} (h : IsK G W L E T)
include h
theorem ev_send (w : WorldM) (cn : Nat) (m : MsgM) (v : AV) (hv : (v = .nils ∧ m.ops = []) ∨ v = .sl .sh (m.ops.map opD)) (hl : w.nets.length ≤ 12) : W f_spec_l22Send [wV w 3 4, msgV m v] (wS w cn) =
  some (if decide ((w.nets.length : Int) < 12) then (wV w 5 4, [wB w 1 2, opsRow w.n1.ops, opsRow w.n2.ops, .dead, opsRow w.done, nR cn (w.nets ++ [m])]) else (wV w 3 4, wS w cn)) := by
 have hlen : ((w.nets.map msgD).length : Nat) = w.nets.length := List.length_map ..
 have hlt : decide (((w.nets.map msgD).length : Int) < 12) = decide ((w.nets.length : Int) < 12) := by rw [hlen]
 rw [h.call]
 cases c : decide ((w.nets.length : Int) < 12)
 ·rw [c] at hlt
  rcases hv with ⟨rfl, _⟩ | rfl
  all_goals
   repeat (conv=>lhs;whnf;arg 2;tactic=>first|exact hlt)
   rfl
 ·rw [c] at hlt
  have c' : (w.nets.length : Int) < 12 := of_decide_eq_true c
  obtain ⟨k, t, te, n, o, ops⟩ := m
  have hap : w.nets.map msgD ++ chunks 10 1 [D.int .i64 k, .int .i64 t, .int .i64 te, .int .i64 n, .int .i64 o.kind, .str o.name, .str o.to, .int .i64 o.n, .str o.text, .sl (ops.map opD)] = (w.nets ++ [(⟨k, t, te, n, o, ops⟩ : MsgM)]).map msgD := by
   rw [List.map_append]
   rfl
  have hcap : ∀ x : List (List D), x.length = 1 → decide (((w.nets.map msgD).length + x.length) * 120 ≤ 140737488355328) = true := fun x hx => decide_eq_true (by
   rw [hlen, hx]
   omega)
  rcases hv with ⟨rfl, hz⟩ | rfl
  ·simp only at hz
   subst hz
   repeat (conv=>lhs;whnf;arg 2;tactic=>first|exact g1|exact hcap _ rfl)
   conv => lhs; whnf
   rw [show (D.sl [] : D) = .sl (([] : List OpM).map opD) from rfl, hap]
   rfl
  ·repeat (conv=>lhs;whnf;arg 2;tactic=>first|exact g1|exact hcap _ rfl)
   conv => lhs; whnf
   rw [hap]
   rfl
theorem ev_sendH (w : WorldM) (cn c5 : Nat) (m : MsgM) (hl : w.nets.length ≤ 12) : W f_spec_l22Send [wV w 3 4, msgV m (.hw 5)] (wS w cn ++ [oR c5 m.ops]) =
  some (if decide ((w.nets.length : Int) < 12) then (wV w 6 4, [wB w 1 2, opsRow w.n1.ops, opsRow w.n2.ops, .dead, opsRow w.done, .frz 5 (m.ops.map opD), nR cn (w.nets ++ [m])]) else (wV w 3 4, wS w cn ++ [oR c5 m.ops])) := by
 have hlen : ((w.nets.map msgD).length : Nat) = w.nets.length := List.length_map ..
 have hlt : decide (((w.nets.map msgD).length : Int) < 12) = decide ((w.nets.length : Int) < 12) := by rw [hlen]
 rw [h.call]
 cases c : decide ((w.nets.length : Int) < 12)
 ·rw [c] at hlt
  repeat (conv=>lhs;whnf;arg 2;tactic=>first|exact hlt)
  rfl
 ·rw [c] at hlt
  have c' : (w.nets.length : Int) < 12 := of_decide_eq_true c
  obtain ⟨k, t, te, n, o, ops⟩ := m
  have hap : w.nets.map msgD ++ chunks 10 1 [D.int .i64 k, .int .i64 t, .int .i64 te, .int .i64 n, .int .i64 o.kind, .str o.name, .str o.to, .int .i64 o.n, .str o.text, .sl (ops.map opD)] = (w.nets ++ [(⟨k, t, te, n, o, ops⟩ : MsgM)]).map msgD := by
   rw [List.map_append]
   rfl
  have hcap : ∀ x : List (List D), x.length = 1 → decide (((w.nets.map msgD).length + x.length) * 120 ≤ 140737488355328) = true := fun x hx => decide_eq_true (by
   rw [hlen, hx]
   omega)
  repeat (conv=>lhs;whnf;arg 2;tactic=>first|exact g1|exact hcap _ rfl)
  conv => lhs; whnf
  rw [hap]
  rfl
theorem ev_l22Done (w : WorldM) (cn : Nat) (n : NodeM) (j : Nat) (hj : (j = 1 ∧ n.ops = w.n1.ops) ∨ (j = 2 ∧ n.ops = w.n2.ops)) (k : Nat) (hk : n.ops.length < 2000000) : W f_spec_l22Done [wV w 3 4, nodeW n j, .int .i64 (k : Nat)] (wS w cn) =
  some (if decide ((k : Int) > (w.done.length : Int)) && decide ((k : Int) ≤ (n.ops.length : Int)) then (wV w 3 5, [wB w 1 2, opsRow w.n1.ops, opsRow w.n2.ops, nR cn w.nets, opsRow w.done, oR 0 (n.ops.take k)]) else (wV w 3 4, wS w cn)) := by
 have hl1 : ((w.done.map opD).length : Nat) = w.done.length := List.length_map ..
 have hl2 : ((n.ops.map opD).length : Nat) = n.ops.length := List.length_map ..
 have hv : chunks 5 0 ([] : List D) ++ view (n.ops.map opD) 0 (k - 0) = (n.ops.take k).map opD := view_take opD n.ops k
 have q1 : decide ((k : Int) > ((w.done.map opD).length : Int)) = decide ((k : Int) > (w.done.length : Int)) := by rw [hl1]
 have q2 : decide ((k : Int) ≤ ((n.ops.map opD).length : Int)) = decide ((k : Int) ≤ (n.ops.length : Int)) := by rw [hl2]
 rw [h.call]
 obtain ⟨up, te, le, al, ops⟩ := n
 simp only at *
 rcases hj with ⟨rfl, rfl⟩ | ⟨rfl, rfl⟩
 ·cases c1 : decide ((k : Int) > (w.done.length : Int))
  ·rw [c1] at q1
   repeat (conv=>lhs;whnf;arg 2;tactic=>first|exact q1)
   rfl
  ·rw [c1] at q1
   cases c2 : decide ((k : Int) ≤ (w.n1.ops.length : Int))
   ·rw [c2] at q2
    repeat (conv=>lhs;whnf;arg 2;tactic=>first|exact q1|exact q2)
    rfl
   ·rw [c2] at q2
    have c2' : (k : Int) ≤ (w.n1.ops.length : Int) := of_decide_eq_true c2
    have hcap : ∀ x : List (List D), x.length ≤ k → decide ((0 + x.length) * 64 ≤ 140737488355328) = true := fun x hx => decide_eq_true (by omega)
    repeat (conv=>lhs;whnf;arg 2;tactic=>first|exact g1|exact q1|exact hcap _ (by simp [view]; omega))
    conv => lhs; whnf
    rw [hv]
    rfl
 ·cases c1 : decide ((k : Int) > (w.done.length : Int))
  ·rw [c1] at q1
   repeat (conv=>lhs;whnf;arg 2;tactic=>first|exact q1)
   rfl
  ·rw [c1] at q1
   cases c2 : decide ((k : Int) ≤ (w.n2.ops.length : Int))
   ·rw [c2] at q2
    repeat (conv=>lhs;whnf;arg 2;tactic=>first|exact q1|exact q2)
    rfl
   ·rw [c2] at q2
    have c2' : (k : Int) ≤ (w.n2.ops.length : Int) := of_decide_eq_true c2
    have hcap : ∀ x : List (List D), x.length ≤ k → decide ((0 + x.length) * 64 ≤ 140737488355328) = true := fun x hx => decide_eq_true (by omega)
    repeat (conv=>lhs;whnf;arg 2;tactic=>first|exact g1|exact q1|exact hcap _ (by simp [view]; omega))
    conv => lhs; whnf
    rw [hv]
    rfl
end
end Go.Gn

namespace Go.Gn
open Go
def OpsZ (os : List OpM) : Prop := os.length ≤ 30 ∧ ∀ o ∈ os, OpS o
theorem OpsZ.sz {os : List OpM} (h : OpsZ os) : OpsSz os := ⟨by have := h.1; omega, fun o ho => (h.2 o ho).sz⟩
theorem OpsG.z {os : List OpM} (h : OpsG os) : OpsZ os := ⟨by have := h.l; omega, h.s⟩
theorem OpsZ.one {o : OpM} (h : OpS o) : OpsZ [o] := ⟨by simp, fun x hx => by rw [List.mem_singleton] at hx; subst hx; exact h⟩
theorem OpsG.add {os : List OpM} (h : OpsG os) {o : OpM} (ho : OpS o) : OpsZ (os ++ [o]) := ⟨by have := h.l; simp; omega, fun x hx => by
 rcases List.mem_append.1 hx with hx | hx
 ·exact h.s x hx
 ·rw [List.mem_singleton] at hx; subst hx; exact ho⟩
def OpsX (os : List OpM) : Prop := OpsG os ∨ ∃ o, OpS o ∧ os = [o]
structure WZ (w : WorldM) : Prop where
 lead : w.lead = 1 ∨ w.lead = 2
 o1 : OpsZ w.n1.ops
 o2 : OpsZ w.n2.ops
 t1 : -2000 ≤ w.n1.term ∧ w.n1.term ≤ 2000
 t2 : -2000 ≤ w.n2.term ∧ w.n2.term ≤ 2000
 t : -2000 ≤ w.term ∧ w.term ≤ 2000
 nl : w.nets.length ≤ 12
 nets : ∀ m ∈ w.nets, MsgG m
 done : OpsZ w.done
 x1 : OpsX w.n1.ops
 x2 : OpsX w.n2.ops
theorem WG.z {w : WorldM} (h : WG w) : WZ w := ⟨h.lead, h.o1.z, h.o2.z, by have := h.t1; omega, by have := h.t2; omega, by have := h.t; omega, h.nl, h.nets, h.done.z, .inl h.o1, .inl h.o2⟩
structure NZ (n : NodeM) : Prop where
 o : n.ops.length ≤ 31 ∧ ∀ o ∈ n.ops, OpS o
 t : -2000 ≤ n.term ∧ n.term ≤ 2000
theorem NZ.sz {n : NodeM} (h : NZ n) : OpsSz n.ops := ⟨by have := h.o.1; omega, fun o ho => (h.o.2 o ho).sz⟩
theorem nodeOk_add {n : NodeM} {o : OpM} (hn : nodeOk n = true) (ho : askOk n o = true) : nodeOk (nodeAdd n o) = true := by
 have hg := (askOk_G ho).2
 unfold nodeOk at hn ⊢
 simp only [Bool.and_eq_true] at hn ⊢
 refine ⟨hn.1, hn.2.1, ?_⟩
 show areOps (n.ops ++ [o]) = true
 rw [areOps_run, hg.run, Bool.true_and, decide_eq_true_eq]
 have := hg.l
 omega
end Go.Gn

namespace Go.Gn
open Go
def nodeD (n : NodeM) : List D := [.bool n.up, .int .i64 n.term, .bool n.leads, .bool n.alone, .sl (n.ops.map opD)]
def worldA (w : WorldM) : AV := .agg [.sl .br [nodeD w.n1, nodeD w.n2], .int .i64 w.term, .int .i64 w.lead, .bool w.both, .sl .br (w.nets.map msgD), .sl .br (w.done.map opD)]
def evA (e : EvM) : AV := .agg [.int .i64 e.kind, .int .i64 e.a, .int .i64 e.op.kind, .str e.op.name, .str e.op.to, .int .i64 e.op.n, .str e.op.text]
def BytesOk (cs : List Int) : Prop := cs.length < 9223372036854775808 ∧ ∀ b ∈ cs, 0 ≤ b ∧ b ≤ 255
theorem ex_of {P : Option (AV × List Obj) → Prop} {x : Option (AV × List Obj)} (h : P x) : ∃ r, x = r ∧ P r := ⟨x, rfl, h⟩
end Go.Gn

