/- Part 11 of a proof: an evaluator of the program, proved sound, and what it answers. -/
import Derived.Test.YtkgpnfeabojhcaaGreatA10
set_option linter.all false
namespace Go.Gn
open Go
set_option maxRecDepth 100000
set_option maxHeartbeats 8000000
def sDo (p : PoolM) (o : OpM) : PoolM × Bool := if o.kind = 1 then sMake p o.name o.n else if o.kind = 2 then sWrite p o.name o.n o.text else if o.kind = 3 then sClone p o.name o.to else sGone p o.name
def Res2 (r : PoolM × Bool) (x : AV × List Obj) : Prop :=
 x = (.tup [.agg [.hw 0, .hw 1], .bool r.2], specP r.1) ∨
 (∃ ys, x = (.tup [.agg [.hw 0, .hw 2], .bool r.2], [.row 2 0 2 (r.1.slots.map slotD), .row 2 0 2 ys, .row 2 0 2 (r.1.vols.map volD)])) ∨
 (∃ xs ys, x = (.tup [.agg [.hw 2, .hw 3], .bool r.2], [.row 2 0 2 xs, .row 2 0 2 ys, .row 2 0 2 (r.1.slots.map slotD), .row 2 0 2 (r.1.vols.map volD)]))
section
variable {W : CallF} {L : LoopF} {E : EqF} {T : Prop → Bool} (h : IsK G W L E T)
include h
theorem ev_l12Do (p : PoolM) (hg : PoolG p) (o : OpM) (ho : o.Sz) : ∃ x, W f_spec_l12Do [.agg [.hw 0, .hw 1], .agg (opC o)] (specP p) = some x ∧ Res2 (sDo p o) x := by
 have hvl : p.vols.length < 1000 := by have := hg.hl; omega
 have hbl : ∀ v ∈ p.vols, v.blocks.length < 1000 := fun v hv => by have := hg.hb v hv; omega
 have n1 : ∀ {a b : Int}, ¬ a = b → (a == b) = false := fun hab => by simp [hab]
 unfold sDo
 by_cases k1 : o.kind = 1
 ·have e1 : (o.kind == 1) = true := by simp [k1]
  simp only [if_pos k1]
  obtain ⟨x, hx, hr⟩ := ev_l11Make h p hvl o.name o.n
  generalize sMake p o.name o.n = r at hr
  rcases hr with rfl | ⟨ys, c, rfl⟩ | ⟨xs, ys, rfl⟩
  ·refine ⟨_, ?_, .inl rfl⟩
   rw [h.call]
   repeat (conv=>lhs;whnf;arg 2;tactic=>first|exact g1|exact hx)
   rfl
  ·refine ⟨_, ?_, .inr (.inl ⟨ys, rfl⟩)⟩
   rw [h.call]
   repeat (conv=>lhs;whnf;arg 2;tactic=>first|exact g1|exact hx)
   rfl
  ·refine ⟨_, ?_, .inr (.inr ⟨xs, ys, rfl⟩)⟩
   rw [h.call]
   repeat (conv=>lhs;whnf;arg 2;tactic=>first|exact g1|exact hx)
   rfl
 ·have e1 := n1 k1
  by_cases k2 : o.kind = 2
  ·have e2 : (o.kind == 2) = true := by simp [k2]
   simp only [if_neg k1, if_pos k2]
   obtain ⟨x, hx, hr⟩ := ev_l11Write h p ⟨by omega, fun v hv => by have := hbl v hv; omega⟩ hvl hg.h8 hg.hu hbl hg.hb8 o.name o.n o.text ho.2.2
   generalize sWrite p o.name o.n o.text = r at hr
   rcases hr with rfl | ⟨ys, c, rfl⟩ | ⟨xs, ys, rfl⟩
   ·refine ⟨_, ?_, .inl rfl⟩
    rw [h.call]
    repeat (conv=>lhs;whnf;arg 2;tactic=>first|exact g1|exact hx)
    rfl
   ·refine ⟨_, ?_, .inr (.inl ⟨ys, rfl⟩)⟩
    rw [h.call]
    repeat (conv=>lhs;whnf;arg 2;tactic=>first|exact g1|exact hx)
    rfl
   ·refine ⟨_, ?_, .inr (.inr ⟨xs, ys, rfl⟩)⟩
    rw [h.call]
    repeat (conv=>lhs;whnf;arg 2;tactic=>first|exact g1|exact hx)
    rfl
  ·have e2 := n1 k2
   by_cases k3 : o.kind = 3
   ·have e3 : (o.kind == 3) = true := by simp [k3]
    simp only [if_neg k1, if_neg k2, if_pos k3]
    obtain ⟨x, hx, hr⟩ := ev_l11Clone h p hvl hg.h8 hg.hu hbl hg.hb8 o.name o.to
    generalize sClone p o.name o.to = r at hr
    rcases hr with rfl | ⟨ys, c, rfl⟩ | ⟨xs, ys, rfl⟩
    ·refine ⟨_, ?_, .inl rfl⟩
     rw [h.call]
     repeat (conv=>lhs;whnf;arg 2;tactic=>first|exact g1|exact hx)
     rfl
    ·refine ⟨_, ?_, .inr (.inl ⟨ys, rfl⟩)⟩
     rw [h.call]
     repeat (conv=>lhs;whnf;arg 2;tactic=>first|exact g1|exact hx)
     rfl
    ·refine ⟨_, ?_, .inr (.inr ⟨xs, ys, rfl⟩)⟩
     rw [h.call]
     repeat (conv=>lhs;whnf;arg 2;tactic=>first|exact g1|exact hx)
     rfl
   ·have e3 := n1 k3
    simp only [if_neg k1, if_neg k2, if_neg k3]
    obtain ⟨x, hx, hr⟩ := ev_l11Gone h p hvl hg.h8 hg.hu hbl hg.hb8 o.name
    generalize sGone p o.name = r at hr
    rcases hr with rfl | ⟨ys, c, rfl⟩ | ⟨xs, ys, rfl⟩
    ·refine ⟨_, ?_, .inl rfl⟩
     rw [h.call]
     repeat (conv=>lhs;whnf;arg 2;tactic=>first|exact g1|exact hx)
     rfl
    ·refine ⟨_, ?_, .inr (.inl ⟨ys, rfl⟩)⟩
     rw [h.call]
     repeat (conv=>lhs;whnf;arg 2;tactic=>first|exact g1|exact hx)
     rfl
    ·refine ⟨_, ?_, .inr (.inr ⟨xs, ys, rfl⟩)⟩
     rw [h.call]
     repeat (conv=>lhs;whnf;arg 2;tactic=>first|exact g1|exact hx)
     rfl
end
end Go.Gn

namespace Go.Gn
open Go
set_option maxRecDepth 100000
set_option maxHeartbeats 8000000
def runM : PoolM → List OpM → Option PoolM
 | p, [] => some p
 | p, o :: os => if sOpOk o && (sDo p o).2 then runM (sDo p o).1 os else none
def Sh (res : Bool) (a b : List (List D)) (q : Nat) (os : List Obj) : Prop :=
 (q = 3 ∧ os = [.row 2 0 2 a, .row 2 0 2 b, .box [.hw 0, .hw 1], .box (if res then [.hw 0, .hw 1] else [.nils, .nils])]) ∨
 (∃ y, q = 4 ∧ os = [.row 2 0 2 a, .row 2 0 2 y, .box [.hw 0, .hw 3], .row 2 0 2 b, .box (if res then [.hw 0, .hw 3] else [.nils, .nils])]) ∨
 (∃ x y, q = 5 ∧ os = [.row 2 0 2 x, .row 2 0 2 y, .box [.hw 3, .hw 4], .row 2 0 2 a, .row 2 0 2 b, .box (if res then [.hw 3, .hw 4] else [.nils, .nils])])
def Res3 (ok : Bool) (a b : List (List D)) (x : AV × List Obj) : Prop :=
 x = (.tup [.agg [.hw 0, .hw 1], .bool ok], [.row 2 0 2 a, .row 2 0 2 b]) ∨
 (∃ ys, x = (.tup [.agg [.hw 0, .hw 2], .bool ok], [.row 2 0 2 a, .row 2 0 2 ys, .row 2 0 2 b])) ∨
 (∃ xs ys, x = (.tup [.agg [.hw 2, .hw 3], .bool ok], [.row 2 0 2 xs, .row 2 0 2 ys, .row 2 0 2 a, .row 2 0 2 b]))
def Keeps : Prop := ∀ (p : PoolM) (o : OpM), poolOk p = true → sOpOk o = true → (sDo p o).2 = true → poolOk (sDo p o).1 = true
section
variable {W : CallF} {L : LoopF} {E : EqF} {T : Prop → Bool} (h : IsK G W L E T)
include h
theorem run_step1 (ops : List OpM) (hl : ops.length < 2000000) (i : Nat) (o : OpM) (ho : ops[i]? = some o) (hos : o.Sz) (p : PoolM) (hg : PoolG p) :
  if sOpOk o && (sDo p o).2 then ∃ q' os', Sh false ((sDo p o).1.slots.map slotD) ((sDo p o).1.vols.map volD) q' os' ∧ L (norm 2 cf159.live) (exitN 2 cf159.out (evCW W L G cf159 2 c159l0)) ⟨[(1, .sl .br (ops.map opD)), (2, .ptr 2 0), (4, .ptr 3 0), (6, .int .i64 (i : Nat))], [.row 2 0 2 (p.slots.map slotD), .row 2 0 2 (p.vols.map volD), .box [.hw 0, .hw 1], .box [.nils, .nils]]⟩ = L (norm 2 cf159.live) (exitN 2 cf159.out (evCW W L G cf159 2 c159l0)) ⟨[(1, .sl .br (ops.map opD)), (2, .ptr 2 0), (4, .ptr q' 0), (6, .int .i64 ((i + 1 : Nat) : Nat))], os'⟩
  else ∃ a b q' os', Sh true a b q' os' ∧ L (norm 2 cf159.live) (exitN 2 cf159.out (evCW W L G cf159 2 c159l0)) ⟨[(1, .sl .br (ops.map opD)), (2, .ptr 2 0), (4, .ptr 3 0), (6, .int .i64 (i : Nat))], [.row 2 0 2 (p.slots.map slotD), .row 2 0 2 (p.vols.map volD), .box [.hw 0, .hw 1], .box [.nils, .nils]]⟩ = some (.ret, ⟨[(2, .ptr 2 0), (4, .ptr q' 0), (5, .bool false)], os'⟩) := by
 obtain ⟨z, hz, hr⟩ := ev_l12Do h p hg o hos
 have hok := ev_sOpOk h o hos
 have hil := lt_of_get ho
 generalize sDo p o = r at hr
 obtain ⟨p', ok⟩ := r
 cases c1 : sOpOk o
 all_goals rw [c1] at hok
 ·simp only [Bool.false_and, Bool.false_eq_true, if_false]
  rcases hr with rfl | ⟨ys, rfl⟩ | ⟨xs, ys, rfl⟩
  ·refine ⟨p'.slots.map slotD, p'.vols.map volD, _, _, .inl ⟨rfl, rfl⟩, ?_⟩
   rw [h.loop]
   repeat (conv=>lhs;whnf;arg 2;tactic=>first|exact g1|exact map_get ho|exact hz|exact hok)
   rfl
  ·refine ⟨p'.slots.map slotD, ys, _, _, .inl ⟨rfl, rfl⟩, ?_⟩
   rw [h.loop]
   repeat (conv=>lhs;whnf;arg 2;tactic=>first|exact g1|exact map_get ho|exact hz|exact hok)
   rfl
  ·refine ⟨xs, ys, _, _, .inl ⟨rfl, rfl⟩, ?_⟩
   rw [h.loop]
   repeat (conv=>lhs;whnf;arg 2;tactic=>first|exact g1|exact map_get ho|exact hz|exact hok)
   rfl
 ·cases ok
  ·simp only [Bool.and_false, Bool.false_eq_true, if_false]
   rcases hr with rfl | ⟨ys, rfl⟩ | ⟨xs, ys, rfl⟩
   ·refine ⟨p'.slots.map slotD, p'.vols.map volD, _, _, .inl ⟨rfl, rfl⟩, ?_⟩
    rw [h.loop]
    repeat (conv=>lhs;whnf;arg 2;tactic=>first|exact g1|exact map_get ho|exact hz|exact hok)
    rfl
   ·refine ⟨p'.slots.map slotD, ys, _, _, .inl ⟨rfl, rfl⟩, ?_⟩
    rw [h.loop]
    repeat (conv=>lhs;whnf;arg 2;tactic=>first|exact g1|exact map_get ho|exact hz|exact hok)
    rfl
   ·refine ⟨xs, ys, _, _, .inl ⟨rfl, rfl⟩, ?_⟩
    rw [h.loop]
    repeat (conv=>lhs;whnf;arg 2;tactic=>first|exact g1|exact map_get ho|exact hz|exact hok)
    rfl
  ·simp only [Bool.and_true, if_true]
   rcases hr with rfl | ⟨ys, rfl⟩ | ⟨xs, ys, rfl⟩
   ·refine ⟨_, _, .inl ⟨rfl, rfl⟩, ?_⟩
    rw [h.loop]
    repeat (conv=>lhs;whnf;arg 2;tactic=>first|exact g1|exact map_get ho|exact hz|exact hok)
    conv => lhs; whnf
    rw [wrap_succ (by omega)]
    rfl
   ·refine ⟨_, _, .inr (.inl ⟨ys, rfl, rfl⟩), ?_⟩
    rw [h.loop]
    repeat (conv=>lhs;whnf;arg 2;tactic=>first|exact g1|exact map_get ho|exact hz|exact hok)
    conv => lhs; whnf
    rw [wrap_succ (by omega)]
    rfl
   ·refine ⟨_, _, .inr (.inr ⟨xs, ys, rfl, rfl⟩), ?_⟩
    rw [h.loop]
    repeat (conv=>lhs;whnf;arg 2;tactic=>first|exact g1|exact map_get ho|exact hz|exact hok)
    conv => lhs; whnf
    rw [wrap_succ (by omega)]
    rfl
theorem run_step2 (ops : List OpM) (hl : ops.length < 2000000) (i : Nat) (o : OpM) (ho : ops[i]? = some o) (hos : o.Sz) (p : PoolM) (hg : PoolG p) (y : List (List D)) :
  if sOpOk o && (sDo p o).2 then ∃ q' os', Sh false ((sDo p o).1.slots.map slotD) ((sDo p o).1.vols.map volD) q' os' ∧ L (norm 2 cf159.live) (exitN 2 cf159.out (evCW W L G cf159 2 c159l0)) ⟨[(1, .sl .br (ops.map opD)), (2, .ptr 2 0), (4, .ptr 4 0), (6, .int .i64 (i : Nat))], [.row 2 0 2 (p.slots.map slotD), .row 2 0 2 y, .box [.hw 0, .hw 3], .row 2 0 2 (p.vols.map volD), .box [.nils, .nils]]⟩ = L (norm 2 cf159.live) (exitN 2 cf159.out (evCW W L G cf159 2 c159l0)) ⟨[(1, .sl .br (ops.map opD)), (2, .ptr 2 0), (4, .ptr q' 0), (6, .int .i64 ((i + 1 : Nat) : Nat))], os'⟩
  else ∃ a b q' os', Sh true a b q' os' ∧ L (norm 2 cf159.live) (exitN 2 cf159.out (evCW W L G cf159 2 c159l0)) ⟨[(1, .sl .br (ops.map opD)), (2, .ptr 2 0), (4, .ptr 4 0), (6, .int .i64 (i : Nat))], [.row 2 0 2 (p.slots.map slotD), .row 2 0 2 y, .box [.hw 0, .hw 3], .row 2 0 2 (p.vols.map volD), .box [.nils, .nils]]⟩ = some (.ret, ⟨[(2, .ptr 2 0), (4, .ptr q' 0), (5, .bool false)], os'⟩) := by
 obtain ⟨z, hz, hr⟩ := ev_l12Do h p hg o hos
 have hok := ev_sOpOk h o hos
 have hil := lt_of_get ho
 generalize sDo p o = r at hr
 obtain ⟨p', ok⟩ := r
 cases c1 : sOpOk o
 all_goals rw [c1] at hok
 ·simp only [Bool.false_and, Bool.false_eq_true, if_false]
  rcases hr with rfl | ⟨ys, rfl⟩ | ⟨xs, ys, rfl⟩
  ·refine ⟨p'.slots.map slotD, p'.vols.map volD, _, _, .inr (.inl ⟨y, rfl, rfl⟩), ?_⟩
   rw [h.loop]
   repeat (conv=>lhs;whnf;arg 2;tactic=>first|exact g1|exact map_get ho|exact hz|exact hok)
   rfl
  ·refine ⟨p'.slots.map slotD, ys, _, _, .inr (.inl ⟨y, rfl, rfl⟩), ?_⟩
   rw [h.loop]
   repeat (conv=>lhs;whnf;arg 2;tactic=>first|exact g1|exact map_get ho|exact hz|exact hok)
   rfl
  ·refine ⟨xs, ys, _, _, .inr (.inl ⟨y, rfl, rfl⟩), ?_⟩
   rw [h.loop]
   repeat (conv=>lhs;whnf;arg 2;tactic=>first|exact g1|exact map_get ho|exact hz|exact hok)
   rfl
 ·cases ok
  ·simp only [Bool.and_false, Bool.false_eq_true, if_false]
   rcases hr with rfl | ⟨ys, rfl⟩ | ⟨xs, ys, rfl⟩
   ·refine ⟨p'.slots.map slotD, p'.vols.map volD, _, _, .inr (.inl ⟨y, rfl, rfl⟩), ?_⟩
    rw [h.loop]
    repeat (conv=>lhs;whnf;arg 2;tactic=>first|exact g1|exact map_get ho|exact hz|exact hok)
    rfl
   ·refine ⟨p'.slots.map slotD, ys, _, _, .inr (.inl ⟨y, rfl, rfl⟩), ?_⟩
    rw [h.loop]
    repeat (conv=>lhs;whnf;arg 2;tactic=>first|exact g1|exact map_get ho|exact hz|exact hok)
    rfl
   ·refine ⟨xs, ys, _, _, .inr (.inl ⟨y, rfl, rfl⟩), ?_⟩
    rw [h.loop]
    repeat (conv=>lhs;whnf;arg 2;tactic=>first|exact g1|exact map_get ho|exact hz|exact hok)
    rfl
  ·simp only [Bool.and_true, if_true]
   rcases hr with rfl | ⟨ys, rfl⟩ | ⟨xs, ys, rfl⟩
   ·refine ⟨_, _, .inr (.inl ⟨y, rfl, rfl⟩), ?_⟩
    rw [h.loop]
    repeat (conv=>lhs;whnf;arg 2;tactic=>first|exact g1|exact map_get ho|exact hz|exact hok)
    conv => lhs; whnf
    rw [wrap_succ (by omega)]
    rfl
   ·refine ⟨_, _, .inr (.inl ⟨y, rfl, rfl⟩), ?_⟩
    rw [h.loop]
    repeat (conv=>lhs;whnf;arg 2;tactic=>first|exact g1|exact map_get ho|exact hz|exact hok)
    conv => lhs; whnf
    rw [wrap_succ (by omega)]
    rfl
   ·refine ⟨_, _, .inr (.inr ⟨xs, y, rfl, rfl⟩), ?_⟩
    rw [h.loop]
    repeat (conv=>lhs;whnf;arg 2;tactic=>first|exact g1|exact map_get ho|exact hz|exact hok)
    conv => lhs; whnf
    rw [wrap_succ (by omega)]
    rfl
theorem run_step3 (ops : List OpM) (hl : ops.length < 2000000) (i : Nat) (o : OpM) (ho : ops[i]? = some o) (hos : o.Sz) (p : PoolM) (hg : PoolG p) (x y : List (List D)) :
  if sOpOk o && (sDo p o).2 then ∃ q' os', Sh false ((sDo p o).1.slots.map slotD) ((sDo p o).1.vols.map volD) q' os' ∧ L (norm 2 cf159.live) (exitN 2 cf159.out (evCW W L G cf159 2 c159l0)) ⟨[(1, .sl .br (ops.map opD)), (2, .ptr 2 0), (4, .ptr 5 0), (6, .int .i64 (i : Nat))], [.row 2 0 2 x, .row 2 0 2 y, .box [.hw 3, .hw 4], .row 2 0 2 (p.slots.map slotD), .row 2 0 2 (p.vols.map volD), .box [.nils, .nils]]⟩ = L (norm 2 cf159.live) (exitN 2 cf159.out (evCW W L G cf159 2 c159l0)) ⟨[(1, .sl .br (ops.map opD)), (2, .ptr 2 0), (4, .ptr q' 0), (6, .int .i64 ((i + 1 : Nat) : Nat))], os'⟩
  else ∃ a b q' os', Sh true a b q' os' ∧ L (norm 2 cf159.live) (exitN 2 cf159.out (evCW W L G cf159 2 c159l0)) ⟨[(1, .sl .br (ops.map opD)), (2, .ptr 2 0), (4, .ptr 5 0), (6, .int .i64 (i : Nat))], [.row 2 0 2 x, .row 2 0 2 y, .box [.hw 3, .hw 4], .row 2 0 2 (p.slots.map slotD), .row 2 0 2 (p.vols.map volD), .box [.nils, .nils]]⟩ = some (.ret, ⟨[(2, .ptr 2 0), (4, .ptr q' 0), (5, .bool false)], os'⟩) := by
 obtain ⟨z, hz, hr⟩ := ev_l12Do h p hg o hos
 have hok := ev_sOpOk h o hos
 have hil := lt_of_get ho
 generalize sDo p o = r at hr
 obtain ⟨p', ok⟩ := r
 cases c1 : sOpOk o
 all_goals rw [c1] at hok
 ·simp only [Bool.false_and, Bool.false_eq_true, if_false]
  rcases hr with rfl | ⟨ys, rfl⟩ | ⟨xs, ys, rfl⟩
  ·refine ⟨p'.slots.map slotD, p'.vols.map volD, _, _, .inr (.inr ⟨x, y, rfl, rfl⟩), ?_⟩
   rw [h.loop]
   repeat (conv=>lhs;whnf;arg 2;tactic=>first|exact g1|exact map_get ho|exact hz|exact hok)
   rfl
  ·refine ⟨p'.slots.map slotD, ys, _, _, .inr (.inr ⟨x, y, rfl, rfl⟩), ?_⟩
   rw [h.loop]
   repeat (conv=>lhs;whnf;arg 2;tactic=>first|exact g1|exact map_get ho|exact hz|exact hok)
   rfl
  ·refine ⟨xs, ys, _, _, .inr (.inr ⟨x, y, rfl, rfl⟩), ?_⟩
   rw [h.loop]
   repeat (conv=>lhs;whnf;arg 2;tactic=>first|exact g1|exact map_get ho|exact hz|exact hok)
   rfl
 ·cases ok
  ·simp only [Bool.and_false, Bool.false_eq_true, if_false]
   rcases hr with rfl | ⟨ys, rfl⟩ | ⟨xs, ys, rfl⟩
   ·refine ⟨p'.slots.map slotD, p'.vols.map volD, _, _, .inr (.inr ⟨x, y, rfl, rfl⟩), ?_⟩
    rw [h.loop]
    repeat (conv=>lhs;whnf;arg 2;tactic=>first|exact g1|exact map_get ho|exact hz|exact hok)
    rfl
   ·refine ⟨p'.slots.map slotD, ys, _, _, .inr (.inr ⟨x, y, rfl, rfl⟩), ?_⟩
    rw [h.loop]
    repeat (conv=>lhs;whnf;arg 2;tactic=>first|exact g1|exact map_get ho|exact hz|exact hok)
    rfl
   ·refine ⟨xs, ys, _, _, .inr (.inr ⟨x, y, rfl, rfl⟩), ?_⟩
    rw [h.loop]
    repeat (conv=>lhs;whnf;arg 2;tactic=>first|exact g1|exact map_get ho|exact hz|exact hok)
    rfl
  ·simp only [Bool.and_true, if_true]
   rcases hr with rfl | ⟨ys, rfl⟩ | ⟨xs, ys, rfl⟩
   ·refine ⟨_, _, .inr (.inr ⟨x, y, rfl, rfl⟩), ?_⟩
    rw [h.loop]
    repeat (conv=>lhs;whnf;arg 2;tactic=>first|exact g1|exact map_get ho|exact hz|exact hok)
    conv => lhs; whnf
    rw [wrap_succ (by omega)]
    rfl
   ·refine ⟨_, _, .inr (.inr ⟨x, y, rfl, rfl⟩), ?_⟩
    rw [h.loop]
    repeat (conv=>lhs;whnf;arg 2;tactic=>first|exact g1|exact map_get ho|exact hz|exact hok)
    conv => lhs; whnf
    rw [wrap_succ (by omega)]
    rfl
   ·refine ⟨_, _, .inr (.inr ⟨x, y, rfl, rfl⟩), ?_⟩
    rw [h.loop]
    repeat (conv=>lhs;whnf;arg 2;tactic=>first|exact g1|exact map_get ho|exact hz|exact hok)
    conv => lhs; whnf
    rw [wrap_succ (by omega)]
    rfl
end
end Go.Gn

namespace Go.Gn
open Go
set_option maxRecDepth 100000
set_option maxHeartbeats 8000000
section
variable {W : CallF} {L : LoopF} {E : EqF} {T : Prop → Bool} (h : IsK G W L E T)
include h
theorem run_loop (hK : Keeps) (ops : List OpM) (hs : OpsSz ops) : ∀ (m i : Nat) (p : PoolM) (q : Nat) (os : List Obj), i + m = ops.length → poolOk p = true → Sh false (p.slots.map slotD) (p.vols.map volD) q os →
  match runM p (ops.drop i) with
  | some p' => ∃ q' os', Sh false (p'.slots.map slotD) (p'.vols.map volD) q' os' ∧ L (norm 2 cf159.live) (exitN 2 cf159.out (evCW W L G cf159 2 c159l0)) ⟨[(1, .sl .br (ops.map opD)), (2, .ptr 2 0), (4, .ptr q 0), (6, .int .i64 (i : Nat))], os⟩ = some (.ext 0, ⟨[(2, .ptr 2 0), (4, .ptr q' 0), (5, .top)], os'⟩)
  | none => ∃ a b q' os', Sh true a b q' os' ∧ L (norm 2 cf159.live) (exitN 2 cf159.out (evCW W L G cf159 2 c159l0)) ⟨[(1, .sl .br (ops.map opD)), (2, .ptr 2 0), (4, .ptr q 0), (6, .int .i64 (i : Nat))], os⟩ = some (.ret, ⟨[(2, .ptr 2 0), (4, .ptr q' 0), (5, .bool false)], os'⟩)
 | 0, i, p, q, os, hm, hp, hsh => by
  rw [List.drop_eq_nil_of_le (show ops.length ≤ i by omega)]
  simp only [runM]
  refine ⟨q, os, hsh, ?_⟩
  rw [h.loop]
  rcases hsh with ⟨rfl, rfl⟩ | ⟨y, rfl, rfl⟩ | ⟨x, y, rfl, rfl⟩
  ·repeat (conv=>lhs;whnf;arg 2;tactic=>first|exact g1)
   rfl
  ·repeat (conv=>lhs;whnf;arg 2;tactic=>first|exact g1)
   rfl
  ·repeat (conv=>lhs;whnf;arg 2;tactic=>first|exact g1)
   rfl
 | m + 1, i, p, q, os, hm, hp, hsh => by
  obtain ⟨o, ho⟩ := get_some (xs := ops) (i := i) (by omega)
  have hos := hs.2 o (List.mem_of_getElem? ho)
  have hg := poolOk_G hp
  rw [drop_cons ho, runM]
  have key : if sOpOk o && (sDo p o).2 then ∃ q' os', Sh false ((sDo p o).1.slots.map slotD) ((sDo p o).1.vols.map volD) q' os' ∧ L (norm 2 cf159.live) (exitN 2 cf159.out (evCW W L G cf159 2 c159l0)) ⟨[(1, .sl .br (ops.map opD)), (2, .ptr 2 0), (4, .ptr q 0), (6, .int .i64 (i : Nat))], os⟩ = L (norm 2 cf159.live) (exitN 2 cf159.out (evCW W L G cf159 2 c159l0)) ⟨[(1, .sl .br (ops.map opD)), (2, .ptr 2 0), (4, .ptr q' 0), (6, .int .i64 ((i + 1 : Nat) : Int))], os'⟩
    else ∃ a b q' os', Sh true a b q' os' ∧ L (norm 2 cf159.live) (exitN 2 cf159.out (evCW W L G cf159 2 c159l0)) ⟨[(1, .sl .br (ops.map opD)), (2, .ptr 2 0), (4, .ptr q 0), (6, .int .i64 (i : Nat))], os⟩ = some (.ret, ⟨[(2, .ptr 2 0), (4, .ptr q' 0), (5, .bool false)], os'⟩) := by
   rcases hsh with ⟨rfl, rfl⟩ | ⟨y, rfl, rfl⟩ | ⟨x, y, rfl, rfl⟩
   ·exact run_step1 h ops hs.1 i o ho hos p hg
   ·exact run_step2 h ops hs.1 i o ho hos p hg y
   ·exact run_step3 h ops hs.1 i o ho hos p hg x y
  by_cases hc : (sOpOk o && (sDo p o).2) = true
  ·rw [if_pos hc] at key ⊢
   obtain ⟨q', os', hsh', e⟩ := key
   rw [e]
   rw [Bool.and_eq_true] at hc
   exact run_loop hK ops hs m (i + 1) _ q' os' (by omega) (hK p o hp hc.1 hc.2) hsh'
  ·rw [if_neg hc] at key ⊢
   exact key
theorem ev_l13Run (hK : Keeps) (p : PoolM) (hp : poolOk p = true) (ops : List OpM) (hs : OpsSz ops) : ∃ a b x, W f_spec_l13Run [.agg [.hw 0, .hw 1], .sl .br (ops.map opD)] (specP p) = some x ∧ Res3 (runM p ops).isSome a b x ∧ ∀ p', runM p ops = some p' → a = p'.slots.map slotD ∧ b = p'.vols.map volD := by
 have e := run_loop h hK ops hs ops.length 0 p 3 _ (by omega) hp (.inl ⟨rfl, rfl⟩)
 rw [nc0, List.drop_zero] at e
 cases hr : runM p ops with
 | some p' =>
  rw [hr] at e
  obtain ⟨q', os', hsh, e⟩ := e
  rcases hsh with ⟨rfl, rfl⟩ | ⟨y, rfl, rfl⟩ | ⟨x, y, rfl, rfl⟩
  ·refine ⟨p'.slots.map slotD, p'.vols.map volD, _, ?_, .inl rfl, fun p2 h2 => by cases h2; exact ⟨rfl, rfl⟩⟩
   rw [h.call]
   repeat (conv=>lhs;whnf;arg 2;tactic=>first|exact e)
   rfl
  ·refine ⟨p'.slots.map slotD, p'.vols.map volD, _, ?_, .inr (.inl ⟨y, rfl⟩), fun p2 h2 => by cases h2; exact ⟨rfl, rfl⟩⟩
   rw [h.call]
   repeat (conv=>lhs;whnf;arg 2;tactic=>first|exact e)
   rfl
  ·refine ⟨p'.slots.map slotD, p'.vols.map volD, _, ?_, .inr (.inr ⟨x, y, rfl⟩), fun p2 h2 => by cases h2; exact ⟨rfl, rfl⟩⟩
   rw [h.call]
   repeat (conv=>lhs;whnf;arg 2;tactic=>first|exact e)
   rfl
 | none =>
  rw [hr] at e
  obtain ⟨a, b, q', os', hsh, e⟩ := e
  rcases hsh with ⟨rfl, rfl⟩ | ⟨y, rfl, rfl⟩ | ⟨x, y, rfl, rfl⟩
  ·refine ⟨a, b, _, ?_, .inl rfl, fun p2 h2 => by cases h2⟩
   rw [h.call]
   repeat (conv=>lhs;whnf;arg 2;tactic=>first|exact e)
   rfl
  ·refine ⟨a, b, _, ?_, .inr (.inl ⟨y, rfl⟩), fun p2 h2 => by cases h2⟩
   rw [h.call]
   repeat (conv=>lhs;whnf;arg 2;tactic=>first|exact e)
   rfl
  ·refine ⟨a, b, _, ?_, .inr (.inr ⟨x, y, rfl⟩), fun p2 h2 => by cases h2⟩
   rw [h.call]
   repeat (conv=>lhs;whnf;arg 2;tactic=>first|exact e)
   rfl
theorem ev_sStoreNew : W f_spec_StoreNew [] [] = some (.hw 0, [.row 2 0 0 (emptySlots.map slotD)]) := by
 rw [h.call]
 rfl
theorem ev_sPoolNew : W f_spec_PoolNew [] [] = some (.agg [.hw 0, .hw 1], [.row 2 0 2 (emptySlots.map slotD), .row 2 0 0 []]) := by
 rw [h.call]
 repeat (conv=>lhs;whnf;arg 2;tactic=>first|exact ev_sStoreNew h)
 rfl
end
end Go.Gn

namespace Go.Gn
open Go
set_option maxRecDepth 100000
set_option maxHeartbeats 8000000
structure LogM where
 base : PoolM
 ops : List OpM
 safe : Int
 deriving DecidableEq
abbrev Sm (n : Nat) : Prop := n < 9223372036854775808
structure VolSm (v : VolM) : Prop where
 n : Sm v.name.size
 b : Sm v.blocks.length
structure OpSm (o : OpM) : Prop where
 n : Sm o.name.size
 t : Sm o.to.size
 x : Sm o.text.size
structure PoolSm (p : PoolM) : Prop where
 sl : Sm p.slots.length
 s : ∀ x ∈ p.slots, Sm x.text.size
 vl : Sm p.vols.length
 v : ∀ x ∈ p.vols, VolSm x
structure LogSm (g : LogM) : Prop where
 b : PoolSm g.base
 ol : Sm g.ops.length
 o : ∀ x ∈ g.ops, OpSm x
section
variable {W : CallF} {L : LoopF} {E : EqF} {T : Prop → Bool} (h : IsK G W L E T)
include h
end
end Go.Gn

namespace Go.Gn
open Go
def kyb : Str → Nat
 | ⟨⟨[a]⟩⟩ => a.toNat
 | _ => 0
theorem nm_cases {s : Str} (h : isName s = true) : s = ⟨#[65]⟩ ∨ s = ⟨#[66]⟩ ∨ s = ⟨#[67]⟩ ∨ s = ⟨#[68]⟩ := by
 simpa [isName, seq_eq] using h
theorem nm_key {s : Str} (h : isName s = true) : 65 ≤ kyb s ∧ kyb s ≤ 68 := by
 rcases nm_cases h with h | h | h | h <;> subst h <;> decide
theorem nm_inj {a b : Str} (ha : isName a = true) (hb : isName b = true) (h : kyb a = kyb b) : a = b := by
 rcases nm_cases ha with h1 | h1 | h1 | h1 <;> rcases nm_cases hb with h2 | h2 | h2 | h2 <;> subst h1 <;> subst h2 <;> first | rfl | (exfalso; revert h; decide)
theorem nm_less {a b : Str} (ha : isName a = true) (hb : isName b = true) : Op.bytesLess a.toList b.toList = decide (kyb a < kyb b) := by
 rcases nm_cases ha with h1 | h1 | h1 | h1 <;> rcases nm_cases hb with h2 | h2 | h2 | h2 <;> subst h1 <;> subst h2 <;> decide +kernel
theorem nm_geq {a b : Str} (ha : isName a = true) (hb : isName b = true) : geq a b = decide (kyb b ≤ kyb a) := by
 rw [geq, nm_less ha hb]; by_cases h : kyb a < kyb b
 ·simp [h]
 ·simp [h]; omega
theorem nm_gt {a b : Str} (ha : isName a = true) (hb : isName b = true) : gtS a b = decide (kyb b < kyb a) := by
 rcases nm_cases ha with h1 | h1 | h1 | h1 <;> rcases nm_cases hb with h2 | h2 | h2 | h2 <;> subst h1 <;> subst h2 <;> decide +kernel
theorem nm_cmp {a b : Str} (ha : isName a = true) (hb : isName b = true) : decide (cmpStr a b < 0) = decide (kyb a < kyb b) := by
 rw [cmpStr, nm_less ha hb, nm_less hb ha]
 by_cases h : kyb a < kyb b
 ·simp [h]
 ·simp [h]; split <;> omega
theorem sName_eq (s : Str) : sName s = isName s := by
 cases hs : isName s with
 | true => rcases nm_cases hs with h | h | h | h <;> subst h <;> decide
 | false =>
  match s with
  | ⟨⟨[]⟩⟩ => rfl
  | ⟨⟨[a]⟩⟩ =>
   have e : sName ⟨⟨[a]⟩⟩ = inR (byteAt ⟨⟨[a]⟩⟩ 0) 65 68 := rfl
   have e2 : byteAt ⟨⟨[a]⟩⟩ 0 = (a.toNat : Int) := rfl
   rw [e, e2]
   cases hc : inR (a.toNat : Int) 65 68 with
   | false => rfl
   | true =>
    exfalso
    have h2 : 65 ≤ a.toNat ∧ a.toNat ≤ 68 := by simp [inR] at hc; omega
    have : a.toNat = 65 ∨ a.toNat = 66 ∨ a.toNat = 67 ∨ a.toNat = 68 := by omega
    have hx : ∀ b : UInt8, a.toNat = b.toNat → a = b := fun b hb => UInt8.toNat_inj.mp hb
    rcases this with h | h | h | h
    ·have := hx 65 h; subst this; revert hs; decide +kernel
    ·have := hx 66 h; subst this; revert hs; decide +kernel
    ·have := hx 67 h; subst this; revert hs; decide +kernel
    ·have := hx 68 h; subst this; revert hs; decide +kernel
  | ⟨⟨a :: b :: l⟩⟩ =>
   have e : ((ByteArray.size ⟨⟨a :: b :: l⟩⟩ : Nat) : Int) ≠ 1 := by
    show ((l.length + 1 + 1 : Nat) : Int) ≠ 1
    omega
   rw [sName, beq_false_of_ne e]
def SortV (vs : List VolM) : Prop := vs.Pairwise fun a b => kyb a.name < kyb b.name
def NmV (vs : List VolM) : Prop := ∀ v ∈ vs, isName v.name = true
theorem sort_len : ∀ (vs : List VolM) (lo : Nat), SortV vs → (∀ v ∈ vs, lo ≤ kyb v.name ∧ kyb v.name ≤ 68) → lo ≤ 69 → vs.length ≤ 69 - lo
 | [], lo, _, _, _ => by simp
 | v :: vs, lo, hs, hr, hl => by
  have h1 := hr v (by simp)
  have h2 := List.pairwise_cons.mp hs
  have := sort_len vs (kyb v.name + 1) h2.2 (fun u hu => ⟨h2.1 u hu, (hr u (by simp [hu])).2⟩) (by omega)
  simp only [List.length_cons]; omega
theorem sort_len4 {vs : List VolM} (hs : SortV vs) (hn : NmV vs) : vs.length ≤ 4 := by
 have := sort_len vs 65 hs (fun v hv => nm_key (hn v hv)) (by omega)
 omega
theorem volsOkL_iff (vs : List VolM) : ∀ m i, i + m = vs.length → (volsOkL vs m i = true ↔ (∀ j v, i ≤ j → vs[j]? = some v → volOk v = true) ∧ ∀ j u v, i ≤ j + 1 → vs[j]? = some u → vs[j + 1]? = some v → geq u.name v.name = false)
 | 0, i, hi => by
  rw [volsOkL]
  simp only [true_iff]
  constructor
  ·intro j v hj hv
   have := (List.getElem?_eq_some_iff.mp hv).1
   omega
  ·intro j u v hj hu hv
   have := (List.getElem?_eq_some_iff.mp hv).1
   omega
 | m + 1, i, hi => by
  obtain ⟨w, hw⟩ := get_some (xs := vs) (i := i) (by omega)
  have ih := volsOkL_iff vs m (i + 1) (by omega)
  rw [volsOkL, hw]
  simp only [Bool.and_eq_true, ih]
  constructor
  ·rintro ⟨h1, h2, h3, h4⟩
   constructor
   ·intro j v hj hv
    by_cases e : j = i
    ·subst e; rw [hw] at hv; cases hv; exact h1
    ·exact h3 j v (by omega) hv
   ·intro j u v hj hu hv
    by_cases e : j + 1 = i
    ·subst e
     rw [hw] at hv; cases hv
     simp only [hu, Bool.not_eq_true'] at h2
     exact h2
    ·exact h4 j u v (by omega) hu hv
  ·rintro ⟨h1, h2⟩
   refine ⟨h1 i w (by omega) hw, ?_, fun j v hj hv => h1 j v (by omega) hv, fun j u v hj hu hv => h2 j u v (by omega) hu hv⟩
   cases i with
   | zero => rfl
   | succ j =>
    obtain ⟨u, hu⟩ := get_some (xs := vs) (i := j) (by omega)
    simp only [hu, Bool.not_eq_true']
    exact h2 j u w (by omega) hu hw
theorem adj_sort : ∀ (vs : List VolM), (∀ j u v, vs[j]? = some u → vs[j + 1]? = some v → kyb u.name < kyb v.name) → SortV vs
 | [], _ => List.Pairwise.nil
 | [a], _ => List.pairwise_singleton _ _
 | a :: b :: l, h => by
  have ih := adj_sort (b :: l) (fun j u v hu hv => h (j + 1) u v (by simpa using hu) (by simpa using hv))
  have hab := h 0 a b rfl rfl
  refine List.pairwise_cons.mpr ⟨fun c hc => ?_, ih⟩
  rcases List.mem_cons.mp hc with e | hc
  ·rw [e]; exact hab
  ·exact Nat.lt_trans hab ((List.pairwise_cons.mp ih).1 c hc)
theorem volOk_nm {v : VolM} (h : volOk v = true) : isName v.name = true := by
 simp only [volOk, Bool.and_eq_true] at h
 exact h.2.1
theorem vols_iff (vs : List VolM) : volsOkL vs vs.length 0 = true ↔ (∀ v ∈ vs, volOk v = true) ∧ SortV vs := by
 rw [volsOkL_iff vs vs.length 0 (by omega)]
 constructor
 ·rintro ⟨h1, h2⟩
  have h3 : ∀ v ∈ vs, volOk v = true := fun v hv => by
   obtain ⟨j, hj⟩ := List.getElem?_of_mem hv
   exact h1 j v (by omega) hj
  refine ⟨h3, adj_sort vs fun j u v hu hv => ?_⟩
  have := h2 j u v (by omega) hu hv
  rw [nm_geq (volOk_nm (h3 u (List.mem_of_getElem? hu))) (volOk_nm (h3 v (List.mem_of_getElem? hv)))] at this
  simpa using this
 ·rintro ⟨h1, h2⟩
  refine ⟨fun j v _ hv => h1 v (List.mem_of_getElem? hv), fun j u v _ hu hv => ?_⟩
  rw [nm_geq (volOk_nm (h1 u (List.mem_of_getElem? hu))) (volOk_nm (h1 v (List.mem_of_getElem? hv)))]
  have ⟨hj, e1⟩ := List.getElem?_eq_some_iff.mp hu
  have ⟨hj2, e2⟩ := List.getElem?_eq_some_iff.mp hv
  have := List.pairwise_iff_getElem.mp h2 j (j + 1) hj hj2 (by omega)
  rw [e1, e2] at this
  simpa using this
theorem insS_sort {v : VolM} (hv : isName v.name = true) : ∀ {vs : List VolM}, NmV vs → SortV vs → (∀ u ∈ vs, u.name ≠ v.name) → SortV (insS v vs) ∧ ∀ u, u ∈ insS v vs ↔ u = v ∨ u ∈ vs
 | [], _, _, _ => ⟨List.pairwise_singleton _ _, fun u => by simp [insS]⟩
 | w :: ws, hn, hs, hne => by
  have hw := hn w (by simp)
  have hp := List.pairwise_cons.mp hs
  rw [insS, nm_gt hw hv]
  by_cases hk : kyb v.name < kyb w.name
  ·simp only [hk, decide_true, if_true]
   refine ⟨List.pairwise_cons.mpr ⟨fun u hu => ?_, hs⟩, fun u => by simp⟩
   rcases List.mem_cons.mp hu with e | hu
   ·rw [e]; exact hk
   ·exact Nat.lt_trans hk (hp.1 u hu)
  ·simp only [hk, decide_false, Bool.false_eq_true, if_false]
   have ih := insS_sort hv (vs := ws) (fun u hu => hn u (by simp [hu])) hp.2 (fun u hu => hne u (by simp [hu]))
   refine ⟨List.pairwise_cons.mpr ⟨fun u hu => ?_, ih.1⟩, fun u => ?_⟩
   ·rcases (ih.2 u).mp hu with e | hu
    ·rw [e]
     have h1 : kyb w.name ≠ kyb v.name := fun e => hne w (by simp) (nm_inj hw hv e)
     omega
    ·exact hp.1 u hu
   ·simp only [List.mem_cons, ih.2 u]
    constructor
    ·rintro (h | h | h)
     ·exact .inr (.inl h)
     ·exact .inl h
     ·exact .inr (.inr h)
    ·rintro (h | h | h)
     ·exact .inr (.inl h)
     ·exact .inl h
     ·exact .inr (.inr h)
theorem insS_cut {v : VolM} : ∀ {vs : List VolM} (k : Nat), k ≤ vs.length → (∀ j u, j < k → vs[j]? = some u → gtS u.name v.name = false) → (∀ u, vs[k]? = some u → gtS u.name v.name = true) → insS v vs = vs.take k ++ [v] ++ vs.drop k
 | [], 0, _, _, _ => rfl
 | [], k + 1, h, _, _ => by simp at h
 | w :: ws, 0, _, _, h2 => by
  rw [insS, h2 w rfl]; rfl
 | w :: ws, k + 1, hk, h1, h2 => by
  rw [insS, h1 0 w (by omega) rfl]
  simp only [Bool.false_eq_true, if_false, List.take_succ_cons, List.drop_succ_cons, List.cons_append]
  rw [insS_cut (vs := ws) k (by simpa using hk) (fun j u hj hu => h1 (j + 1) u (by omega) (by simpa using hu)) (fun u hu => h2 u (by simpa using hu))]
theorem bs_spec {vs : List VolM} {n : Str} (hn : NmV vs) (hn2 : isName n = true) (hs : SortV vs) : ∀ f i j, j - i ≤ f → i ≤ j → j ≤ vs.length → (∀ k u, k < i → vs[k]? = some u → kyb u.name < kyb n) → (∀ k u, j ≤ k → vs[k]? = some u → kyb n ≤ kyb u.name) →
  bs vs n f i j ≤ vs.length ∧ (∀ k u, k < bs vs n f i j → vs[k]? = some u → kyb u.name < kyb n) ∧ (∀ k u, bs vs n f i j ≤ k → vs[k]? = some u → kyb n ≤ kyb u.name)
 | 0, i, j, hf, hij, hj, h1, h2 => by
  have : j = i := by omega
  subst this
  rw [bs]
  exact ⟨hj, h1, h2⟩
 | f + 1, i, j, hf, hij, hj, h1, h2 => by
  rw [bs]
  by_cases hlt : i < j
  ·rw [if_pos hlt]
   obtain ⟨w, hw⟩ := get_some (xs := vs) (i := (i + j) / 2) (by omega)
   have hwn := hn w (List.mem_of_getElem? hw)
   have ⟨hj1, e1⟩ := List.getElem?_eq_some_iff.mp hw
   have hpi := List.pairwise_iff_getElem.mp hs
   rw [hw]
   have hc := nm_cmp hwn hn2
   by_cases hk : kyb w.name < kyb n
   ·have hc2 : cmpStr w.name n < 0 := by simpa [hk] using hc
    show _ ∧ _ ∧ _
    simp only [hc2, if_true]
    refine bs_spec hn hn2 hs f ((i + j) / 2 + 1) j (by omega) (by omega) hj (fun k u hk2 hu => ?_) h2
    have ⟨hk1, e2⟩ := List.getElem?_eq_some_iff.mp hu
    by_cases e : k = (i + j) / 2
    ·subst e; rw [hw] at hu; cases hu; exact hk
    ·have := hpi k ((i + j) / 2) hk1 hj1 (by omega)
     rw [e1, e2] at this
     omega
   ·have hc2 : ¬ cmpStr w.name n < 0 := by simpa [hk] using hc
    simp only [hc2, if_false]
    refine bs_spec hn hn2 hs f i ((i + j) / 2) (by omega) (by omega) (by omega) h1 (fun k u hk2 hu => ?_)
    have ⟨hk1, e2⟩ := List.getElem?_eq_some_iff.mp hu
    by_cases e : k = (i + j) / 2
    ·subst e; rw [hw] at hu; cases hu; omega
    ·have := hpi ((i + j) / 2) k hj1 hk1 (by omega)
     rw [e1, e2] at this
     omega
  ·rw [if_neg hlt]
   have : j = i := by omega
   subst this
   exact ⟨hj, h1, h2⟩
theorem insV_eq {vs : List VolM} {v : VolM} (hn : NmV vs) (hv : isName v.name = true) (hs : SortV vs) (hne : ∀ u ∈ vs, u.name ≠ v.name) : insV vs v = insS v vs := by
 have h := bs_spec hn hv hs vs.length 0 vs.length (by omega) (by omega) (Nat.le_refl _) (fun k u hk _ => by omega) (fun k u hk hu => by
  have := (List.getElem?_eq_some_iff.mp hu).1
  omega)
 rw [insV, insIx]
 refine (insS_cut _ h.1 (fun j u hj hu => ?_) (fun u hu => ?_)).symm
 ·have := h.2.1 j u hj hu
  rw [nm_gt (hn u (List.mem_of_getElem? hu)) hv]
  simp; omega
 ·have := h.2.2 _ u (Nat.le_refl _) hu
  have hu2 := List.mem_of_getElem? hu
  rw [nm_gt (hn u hu2) hv]
  have h1 : kyb u.name ≠ kyb v.name := fun e => hne u hu2 (nm_inj (hn u hu2) hv e)
  simp; omega
theorem fnd_none {α : Type} {p : α → Bool} : ∀ {xs : List α} {i : Nat}, fnd p xs i = none ↔ ∀ x ∈ xs, p x = false
 | [], i => by simp [fnd]
 | x :: xs, i => by
  rw [fnd]
  cases hp : p x with
  | true => simp [hp]
  | false =>
   show fnd p xs (i + 1) = none ↔ _
   rw [fnd_none (xs := xs)]
   simp [hp]
theorem fndI_neg {r : Option Nat} : decide (fndI r < 0) = r.isNone := by
 cases r with
 | none => rfl
 | some i => exact decide_eq_false (fun (e : (i : Int) < 0) => by omega)
theorem fndI_nn {r : Option Nat} : decide (fndI r ≥ 0) = r.isSome := by
 cases r with
 | none => rfl
 | some i => simp [fndI]
theorem volIx_none {vs : List VolM} {n : Str} : volIx vs n = none ↔ ∀ u ∈ vs, u.name ≠ n := by
 rw [volIx, fnd_none]
 constructor
 ·intro h u hu e
  have := h u hu
  rw [e, seq_refl] at this
  cases this
 ·intro h u hu
  rw [seq_eq]; simpa using h u hu
theorem volIx_some {vs : List VolM} {n : Str} {i : Nat} (h : volIx vs n = some i) : ∃ v, vs[i]? = some v ∧ v.name = n ∧ i < vs.length := by
 obtain ⟨_, h2, v, hv, hp⟩ := fnd_lt h
 refine ⟨v, by simpa using hv, ?_, by omega⟩
 rw [seq_eq] at hp
 simpa using hp
end Go.Gn

namespace Go.Gn
open Go
structure SlotI (xs : List SlotM) (f : Int → Int) : Prop where
 len : xs.length = 8
 txt : ∀ x ∈ xs, textOk x.text = true
 use : ∀ (i : Nat) (x : SlotM), xs[i]? = some x → x.uses = f ((i : Int) + 1)
 pos : ∀ x ∈ xs, 0 ≤ x.uses
 emp : ∀ x ∈ xs, (x.text = noText ↔ x.uses = 0)
 dis : ∀ (i j : Nat) (x y : SlotM), xs[i]? = some x → xs[j]? = some y → x.text = y.text → x.text ≠ noText → i = j
theorem SlotI.congr {xs : List SlotM} {f g : Int → Int} (h : SlotI xs f) (e : ∀ k, 1 ≤ k → k ≤ 8 → f k = g k) : SlotI xs g := { h with
 use := fun i x hx => by
  rw [h.use i x hx]
  have := (List.getElem?_eq_some_iff.mp hx).1
  have h8 := h.len
  exact e _ (by omega) (by omega) }
theorem SlotI.set {xs : List SlotM} {f : Int → Int} (h : SlotI xs f) {j : Nat} (hj : j < 8) {y : SlotM} (ht : textOk y.text = true) (hp : 0 ≤ y.uses) (he : y.text = noText ↔ y.uses = 0)
  (hd : y.text ≠ noText → ∀ (i : Nat) (x : SlotM), xs[i]? = some x → x.text = y.text → i = j) : SlotI (xs.set j y) (fun k => if k = (j : Int) + 1 then y.uses else f k) := by
 have hl := h.len
 have hm : ∀ x, x ∈ xs.set j y → x ∈ xs ∨ x = y := fun x hx => List.mem_or_eq_of_mem_set hx
 have hg : ∀ i x, (xs.set j y)[i]? = some x → (i = j ∧ x = y) ∨ (i ≠ j ∧ xs[i]? = some x) := by
  intro i x hx
  by_cases e : j = i
  ·subst e
   rw [get_set_self (by omega)] at hx
   cases hx
   exact .inl ⟨rfl, rfl⟩
  ·rw [List.getElem?_set_ne e] at hx
   exact .inr ⟨fun e2 => e e2.symm, hx⟩
 refine ⟨by simp [hl], fun x hx => ?_, fun i x hx => ?_, fun x hx => ?_, fun x hx => ?_, fun i k x z hx hz e hne => ?_⟩
 ·rcases hm x hx with h1 | h1
  ·exact h.txt x h1
  ·rw [h1]; exact ht
 ·rcases hg i x hx with ⟨h1, h2⟩ | ⟨h1, h2⟩
  ·rw [h1, h2]; simp
  ·rw [h.use i x h2]
   have : (i : Int) + 1 ≠ (j : Int) + 1 := by omega
   simp [this]
 ·rcases hm x hx with h1 | h1
  ·exact h.pos x h1
  ·rw [h1]; exact hp
 ·rcases hm x hx with h1 | h1
  ·exact h.emp x h1
  ·rw [h1]; exact he
 ·rcases hg i x hx with ⟨h1, h2⟩ | ⟨h1, h2⟩ <;> rcases hg k z hz with ⟨h3, h4⟩ | ⟨h3, h4⟩
  ·rw [h1, h3]
  ·rw [h2] at e hne
   rw [h1]; exact (hd hne k z h4 e.symm).symm
  ·rw [h4] at e
   rw [h3]; exact hd (fun e2 => hne (e.trans e2)) i x h2 e
  ·exact h.dis i k x z h2 h4 e hne
theorem textOk_no : textOk noText = true := by decide +kernel
theorem slotOk_iff (pre : List SlotM) (x : SlotM) : slotOk pre x = true ↔ textOk x.text = true ∧ (0 ≤ x.uses ∧ x.uses ≤ 99) ∧ (x.text = noText ↔ x.uses = 0) ∧ (x.text ≠ noText → ∀ y ∈ pre, y.text ≠ x.text) := by
 rw [slotOk, fndI_nn]
 simp only [Bool.and_eq_true, inR, decide_eq_true_eq, Bool.not_not, seq_eq]
 have e1 : (decide (x.text = noText) == (x.uses == 0)) = true ↔ (x.text = noText ↔ x.uses = 0) := by
  by_cases h1 : x.text = noText <;> by_cases h2 : x.uses = 0 <;> simp [h1, h2]
 have e2 : (!(!decide (x.text = noText) && (fnd (fun y : SlotM => decide (y.text = x.text)) pre 0).isSome)) = true ↔ (x.text ≠ noText → ∀ y ∈ pre, y.text ≠ x.text) := by
  cases hf : fnd (fun y : SlotM => decide (y.text = x.text)) pre 0 with
  | none =>
   have := fnd_none.mp hf
   simp only [Option.isSome_none, Bool.and_false, Bool.not_false, true_iff]
   intro _ y hy
   simpa using this y hy
  | some i =>
   obtain ⟨_, _, y, hy, hp⟩ := fnd_lt hf
   simp only [Option.isSome_some, Bool.and_true, Bool.not_not, decide_eq_true_eq]
   constructor
   ·intro h h2; exact absurd h h2
   ·intro h
    by_cases h2 : x.text = noText
    ·exact h2
    ·exact absurd (by simpa using hp) (h h2 y (List.mem_of_getElem? hy))
 rw [e1, e2]
theorem storeOkL_iff (xs : List SlotM) : ∀ m i, i + m = xs.length → (storeOkL xs m i = true ↔ ∀ j x, i ≤ j → xs[j]? = some x → slotOk (xs.take j) x = true)
 | 0, i, hi => by
  rw [storeOkL]
  simp only [true_iff]
  intro j x hj hx
  have := (List.getElem?_eq_some_iff.mp hx).1
  omega
 | m + 1, i, hi => by
  obtain ⟨w, hw⟩ := get_some (xs := xs) (i := i) (by omega)
  have ih := storeOkL_iff xs m (i + 1) (by omega)
  rw [storeOkL, hw]
  simp only [Bool.and_eq_true, ih]
  constructor
  ·rintro ⟨h1, h2⟩ j x hj hx
   by_cases e : j = i
   ·subst e; rw [hw] at hx; cases hx; exact h1
   ·exact h2 j x (by omega) hx
  ·intro h
   exact ⟨h i w (by omega) hw, fun j x hj hx => h j x (by omega) hx⟩
theorem usesOkL_iff (xs : List SlotM) (vs : List VolM) : ∀ m i, i + m = xs.length → (usesOkL xs vs m i = true ↔ ∀ j x, i ≤ j → xs[j]? = some x → x.uses = sumU ((j : Int) + 1) vs)
 | 0, i, hi => by
  rw [usesOkL]
  simp only [true_iff]
  intro j x hj hx
  have := (List.getElem?_eq_some_iff.mp hx).1
  omega
 | m + 1, i, hi => by
  obtain ⟨w, hw⟩ := get_some (xs := xs) (i := i) (by omega)
  have ih := usesOkL_iff xs vs m (i + 1) (by omega)
  rw [usesOkL, hw]
  simp only [Bool.and_eq_true, ih, beq_iff_eq]
  constructor
  ·rintro ⟨h1, h2⟩ j x hj hx
   by_cases e : j = i
   ·subst e; rw [hw] at hx; cases hx; exact h1.symm
   ·exact h2 j x (by omega) hx
  ·intro h
   exact ⟨(h i w (by omega) hw).symm, fun j x hj hx => h j x (by omega) hx⟩
structure PoolP (p : PoolM) : Prop where
 s : SlotI p.slots (fun k => sumU k p.vols)
 v : ∀ v ∈ p.vols, volOk v = true
 o : SortV p.vols
theorem PoolP.nm {p : PoolM} (h : PoolP p) : NmV p.vols := fun v hv => volOk_nm (h.v v hv)
theorem PoolP.len {p : PoolM} (h : PoolP p) : p.vols.length ≤ 4 := sort_len4 h.o h.nm
theorem PoolP.sum {p : PoolM} (h : PoolP p) (k : Int) : 0 ≤ sumU k p.vols ∧ sumU k p.vols ≤ 24 := by
 have h1 := sumU_range k p.vols 6 (fun v hv => (volOk_len (h.v v hv)).2)
 have h2 := h.len
 omega
theorem poolOk_iff (p : PoolM) : poolOk p = true ↔ PoolP p := by
 rw [poolOk]
 simp only [Bool.and_eq_true, Bool.not_eq_true', decide_eq_false_iff_not, storeOk, beq_iff_eq]
 constructor
 ·rintro ⟨⟨h1, h8⟩, h2, h3, h4⟩
  have h8' : p.slots.length = 8 := by omega
  have g1 := (storeOkL_iff p.slots _ 0 (by omega)).mp h1
  have g4 := (usesOkL_iff p.slots p.vols 8 0 (by omega)).mp h4
  have g3 := (vols_iff p.vols).mp h3
  have g5 : ∀ j x, p.slots[j]? = some x → textOk x.text = true ∧ (0 ≤ x.uses ∧ x.uses ≤ 99) ∧ (x.text = noText ↔ x.uses = 0) ∧ (x.text ≠ noText → ∀ y ∈ p.slots.take j, y.text ≠ x.text) :=
   fun j x hx => (slotOk_iff _ x).mp (g1 j x (by omega) hx)
  have g6 : ∀ x ∈ p.slots, ∃ j : Nat, p.slots[j]? = some x := fun x hx => List.getElem?_of_mem hx
  refine ⟨⟨h8', fun x hx => ?_, fun i x hx => g4 i x (by omega) hx, fun x hx => ?_, fun x hx => ?_, ?_⟩, g3.1, g3.2⟩
  ·obtain ⟨j, hj⟩ := g6 x hx; exact (g5 j x hj).1
  ·obtain ⟨j, hj⟩ := g6 x hx; exact (g5 j x hj).2.1.1
  ·obtain ⟨j, hj⟩ := g6 x hx; exact (g5 j x hj).2.2.1
  ·have key : ∀ (i j : Nat) (x y : SlotM), i < j → p.slots[i]? = some x → p.slots[j]? = some y → x.text = y.text → y.text ≠ noText → False := fun i j x y hij hx hy e hne => by
    refine (g5 j y hy).2.2.2 hne x ?_ e
    refine List.mem_of_getElem? (i := i) ?_
    rw [List.getElem?_take, if_pos hij]; exact hx
   intro i j x y hx hy e hne
   rcases Nat.lt_trichotomy i j with hij | hij | hij
   ·exact (key i j x y hij hx hy e (fun e2 => hne (e.trans e2))).elim
   ·exact hij
   ·exact (key j i y x hij hy hx e.symm hne).elim
 ·intro h
  have h8 := h.s.len
  refine ⟨⟨(storeOkL_iff p.slots _ 0 (by omega)).mpr fun j x _ hx => (slotOk_iff _ x).mpr ?_, by omega⟩, by have := h.len; omega, (vols_iff p.vols).mpr ⟨h.v, h.o⟩, (usesOkL_iff p.slots p.vols 8 0 (by omega)).mpr fun j x _ hx => h.s.use j x hx⟩
  have hm := List.mem_of_getElem? hx
  have hu := h.s.use j x hx
  have hb := h.sum ((j : Int) + 1)
  refine ⟨h.s.txt x hm, by omega, h.s.emp x hm, fun hne y hy e => ?_⟩
  obtain ⟨i, hi⟩ := List.getElem?_of_mem hy
  rw [List.getElem?_take] at hi
  split at hi
  ·have := h.s.dis i j y x hi hx e (fun e2 => hne (e.symm.trans e2))
   omega
  ·cases hi
theorem cnt_nil (k : Int) : cnt [] k = 0 := rfl
theorem cnt_mem {bs : List Int} {b : Int} (h : b ∈ bs) : 1 ≤ cnt bs b := by
 rw [cnt]
 have : 0 < (bs.filter fun c => c == b).length := List.length_pos_of_mem (List.mem_filter.mpr ⟨h, by simp⟩)
 omega
theorem cnt_set : ∀ {bs : List Int} {j : Nat} {o n k : Int}, bs[j]? = some o → cnt (bs.set j n) k = cnt bs k - (if o = k then 1 else 0) + (if n = k then 1 else 0)
 | [], j, o, n, k, h => by simp at h
 | b :: bs, 0, o, n, k, h => by
  simp at h; subst h
  rw [List.set_cons_zero, cnt_cons, cnt_cons]
  by_cases h1 : n = k <;> by_cases h2 : b = k <;> simp [h1, h2] <;> omega
 | b :: bs, j + 1, o, n, k, h => by
  rw [List.set_cons_succ, cnt_cons, cnt_cons, cnt_set (bs := bs) (j := j) (o := o) (by simpa using h)]
  omega
theorem cnt_rep (n : Nat) (k : Int) (hk : 1 ≤ k) : cnt (List.replicate n 0) k = 0 := by
 have : (List.replicate n (0 : Int)).filter (fun b => b == k) = [] := by
  refine List.filter_eq_nil_iff.mpr fun a ha => ?_
  have := List.eq_of_mem_replicate ha
  subst this
  simp; omega
 rw [cnt, this]; rfl
theorem sumU_set : ∀ {vs : List VolM} {i : Nat} {v w : VolM} {k : Int}, vs[i]? = some v → sumU k (vs.set i w) = sumU k vs - cnt v.blocks k + cnt w.blocks k
 | [], i, v, w, k, h => by simp at h
 | u :: us, 0, v, w, k, h => by
  simp at h; subst h
  rw [List.set_cons_zero, sumU, sumU]; omega
 | u :: us, i + 1, v, w, k, h => by
  rw [List.set_cons_succ, sumU, sumU, sumU_set (vs := us) (i := i) (v := v) (by simpa using h)]; omega
theorem sumU_ins (v : VolM) (k : Int) : ∀ (vs : List VolM), sumU k (insS v vs) = cnt v.blocks k + sumU k vs
 | [] => by simp [insS, sumU]
 | u :: us => by
  rw [insS]
  split
  ·simp only [sumU]
  ·rw [sumU, sumU_ins v k us, sumU]; omega
theorem sumU_del : ∀ {vs : List VolM} {i : Nat} {v : VolM} {k : Int}, vs[i]? = some v → sumU k (delV vs i) = sumU k vs - cnt v.blocks k
 | [], i, v, k, h => by simp at h
 | u :: us, 0, v, k, h => by
  simp at h; subst h
  simp [delV, sumU]; omega
 | u :: us, i + 1, v, k, h => by
  have ih := sumU_del (vs := us) (i := i) (v := v) (k := k) (by simpa using h)
  simp only [delV] at ih
  simp only [delV, List.take_succ_cons, List.drop_succ_cons, List.cons_append, sumU]
  omega
theorem sumU_ge {vs : List VolM} {i : Nat} {v : VolM} {k : Int} (h : vs[i]? = some v) : cnt v.blocks k ≤ sumU k vs := by
 induction vs generalizing i with
 | nil => simp at h
 | cons u us ih =>
  have h0 : ∀ ws : List VolM, 0 ≤ sumU k ws := fun ws => by
   induction ws with
   | nil => exact Int.le_refl _
   | cons w ws ih2 => rw [sumU]; have := (cnt_range w.blocks k).1; omega
  rw [sumU]
  cases i with
  | zero => simp at h; subst h; have := h0 us; omega
  | succ i => have := ih (i := i) (by simpa using h); have := (cnt_range u.blocks k).1; omega
theorem free_I {xs : List SlotM} {f : Int → Int} (h : SlotI xs f) {b : Int} (hb : 0 ≤ b ∧ b ≤ 8) (hf : 0 < b → 1 ≤ f b) : SlotI (freeM xs b) (fun k => f k - (if b = k then 1 else 0)) := by
 have hl := h.len
 rw [freeM]
 by_cases hb0 : b > 0
 ·rw [if_pos hb0]
  obtain ⟨x, hx⟩ := get_some (xs := xs) (i := (b - 1).toNat) (by omega)
  rw [hx]
  have hu := h.use _ x hx
  have hm := List.mem_of_getElem? hx
  have eb : (((b - 1).toNat : Nat) : Int) + 1 = b := by omega
  rw [eb] at hu
  have hfb := hf hb0
  have hd : x.dec.uses = x.uses - 1 := by rw [SlotM.dec]; split <;> simp <;> omega
  show SlotI (xs.set (b - 1).toNat x.dec) _
  refine (h.set (j := (b - 1).toNat) (by omega) (y := x.dec) ?_ (by omega) ?_ ?_).congr fun k _ _ => ?_
  ·rw [SlotM.dec]; split
   ·exact textOk_no
   ·exact h.txt x hm
  ·rw [SlotM.dec]; split
   ·simp [noText]
   ·rename_i hne
    have := h.emp x hm
    constructor
    ·intro e; have := this.mp e; omega
    ·intro e; exact absurd e hne
  ·rw [SlotM.dec]; split
   ·intro e; exact absurd rfl e
   ·intro hne i z hz e
    exact (h.dis (b - 1).toNat i x z hx hz e.symm hne).symm
  ·simp only [eb, hd]
   by_cases hk : k = b
   ·subst hk; simp; omega
   ·have : ¬ b = k := fun e => hk e.symm
    simp [hk, this]
 ·rw [if_neg hb0]
  refine h.congr fun k hk _ => ?_
  have : b ≠ k := by omega
  simp [this]
theorem inc_I {xs : List SlotM} {f : Int → Int} (h : SlotI xs f) {b : Int} (hb : 0 ≤ b ∧ b ≤ 8) (hf : 0 < b → 1 ≤ f b) : SlotI (incM xs b) (fun k => f k + (if b = k then 1 else 0)) := by
 have hl := h.len
 rw [incM]
 by_cases hb0 : b > 0
 ·rw [if_pos hb0]
  obtain ⟨x, hx⟩ := get_some (xs := xs) (i := (b - 1).toNat) (by omega)
  rw [hx]
  have hu := h.use _ x hx
  have hm := List.mem_of_getElem? hx
  have eb : (((b - 1).toNat : Nat) : Int) + 1 = b := by omega
  rw [eb] at hu
  have hfb := hf hb0
  have he := h.emp x hm
  show SlotI (xs.set (b - 1).toNat x.inc) _
  refine (h.set (j := (b - 1).toNat) (by omega) (y := x.inc) (h.txt x hm) (by simp only [SlotM.inc]; omega) ?_ ?_).congr fun k _ _ => ?_
  ·simp only [SlotM.inc]
   constructor
   ·intro e; have := he.mp e; omega
   ·intro e; omega
  ·simp only [SlotM.inc]
   intro hne i z hz e
   exact (h.dis (b - 1).toNat i x z hx hz e.symm hne).symm
  ·simp only [eb, SlotM.inc]
   by_cases hk : k = b
   ·subst hk; simp; omega
   ·have : ¬ b = k := fun e => hk e.symm
    simp [hk, this]
 ·rw [if_neg hb0]
  refine h.congr fun k hk _ => ?_
  have : b ≠ k := by omega
  simp [this]
theorem incL_I : ∀ (bs : List Int) {xs : List SlotM} {f : Int → Int}, SlotI xs f → (∀ b ∈ bs, (0 ≤ b ∧ b ≤ 8) ∧ (0 < b → 1 ≤ f b)) → SlotI (incL xs bs) (fun k => f k + cnt bs k)
 | [], xs, f, h, _ => h.congr fun k _ _ => by rw [cnt_nil]; omega
 | b :: bs, xs, f, h, hb => by
  rw [incL]
  have h1 := inc_I h (hb b (by simp)).1 (hb b (by simp)).2
  refine (incL_I bs h1 (fun c hc => ⟨(hb c (by simp [hc])).1, fun h0 => ?_⟩)).congr fun k _ _ => ?_
  ·have := (hb c (by simp [hc])).2 h0
   split <;> omega
  ·rw [cnt_cons]; simp only [beq_iff_eq]; omega
theorem freeL_I : ∀ (bs : List Int) {xs : List SlotM} {f : Int → Int}, SlotI xs f → (∀ b ∈ bs, 0 ≤ b ∧ b ≤ 8) → (∀ k, 1 ≤ k → cnt bs k ≤ f k) → SlotI (freeL xs bs) (fun k => f k - cnt bs k)
 | [], xs, f, h, _, _ => h.congr fun k _ _ => by rw [cnt_nil]; omega
 | b :: bs, xs, f, h, hb, hc => by
  rw [freeL]
  have h1 := free_I h (hb b (by simp)) (fun h0 => by
   have := hc b (by omega)
   have := cnt_mem (bs := b :: bs) (b := b) (by simp)
   omega)
  refine (freeL_I bs h1 (fun c hc => hb c (by simp [hc])) fun k hk => ?_).congr fun k _ _ => ?_
  ·have := hc k hk
   rw [cnt_cons] at this
   simp only [beq_iff_eq] at this
   omega
  ·rw [cnt_cons]; simp only [beq_iff_eq]; omega
end Go.Gn

namespace Go.Gn
open Go
def ff (xs : List SlotM) : Nat → Int → Int
 | 0, _ => 0
 | m + 1, p => match xs[(p - 1).toNat]? with
  | some x => if x.uses = 0 then p else ff xs m (textNext p)
  | none => 0
def places : Nat → Int → List Int
 | 0, _ => []
 | m + 1, p => p :: places m (textNext p)
theorem places_all {p k : Int} (hp : 1 ≤ p ∧ p ≤ 8) (hk : 1 ≤ k ∧ k ≤ 8) : k ∈ places 8 p := by
 have h1 : p = 1 ∨ p = 2 ∨ p = 3 ∨ p = 4 ∨ p = 5 ∨ p = 6 ∨ p = 7 ∨ p = 8 := by omega
 have h2 : k = 1 ∨ k = 2 ∨ k = 3 ∨ k = 4 ∨ k = 5 ∨ k = 6 ∨ k = 7 ∨ k = 8 := by omega
 rcases h1 with h | h | h | h | h | h | h | h <;> subst h <;> rcases h2 with h | h | h | h | h | h | h | h <;> subst h <;> decide
theorem ff_range {xs : List SlotM} : ∀ (m : Nat) {p : Int}, 1 ≤ p ∧ p ≤ 8 → ff xs m p = 0 ∨ (1 ≤ ff xs m p ∧ ff xs m p ≤ 8 ∧ ∃ x, xs[(ff xs m p - 1).toNat]? = some x ∧ x.uses = 0)
 | 0, p, _ => .inl rfl
 | m + 1, p, hp => by
  rw [ff]
  cases hx : xs[(p - 1).toNat]? with
  | none => exact .inl rfl
  | some x =>
   show (if x.uses = 0 then p else ff xs m (textNext p)) = 0 ∨ _
   by_cases h0 : x.uses = 0
   ·simp only [h0, if_true]
    exact .inr ⟨hp.1, hp.2, x, hx, h0⟩
   ·simp only [h0, if_false]
    exact ff_range m (textNext_range hp.1)
theorem probe_ff {xs : List SlotM} (h8 : xs.length = 8) (t : Str) : ∀ (m : Nat) {p : Int}, 1 ≤ p ∧ p ≤ 8 → probe xs t m p = if ff xs m p = 0 then (xs, 0) else (xs.set (ff xs m p - 1).toNat ⟨t, 1⟩, ff xs m p)
 | 0, p, _ => rfl
 | m + 1, p, hp => by
  obtain ⟨x, hx⟩ := get_some (xs := xs) (i := (p - 1).toNat) (by omega)
  rw [probe, ff, hx]
  show (if x.uses = 0 then _ else _) = _
  by_cases h0 : x.uses = 0
  ·have : p ≠ 0 := by omega
   simp [h0, this]
  ·simp only [h0, if_false]
   exact probe_ff h8 t m (textNext_range hp.1)
theorem findS_miss {xs : List SlotM} (h8 : xs.length = 8) (t : Str) (hn : ∀ x ∈ xs, x.text ≠ t) : ∀ (m : Nat) {p fr : Int}, 1 ≤ p ∧ p ≤ 8 → findS xs t m p fr = (if fr = 0 then ff xs m p else fr, false)
 | 0, p, fr, _ => by
  rw [findS, ff]; split <;> simp_all
 | m + 1, p, fr, hp => by
  obtain ⟨x, hx⟩ := get_some (xs := xs) (i := (p - 1).toNat) (by omega)
  have hxt : seq x.text t = false := by rw [seq_eq]; simpa using hn x (List.mem_of_getElem? hx)
  rw [findS, ff, hx]
  simp only [hxt, Bool.false_eq_true, if_false]
  rw [findS_miss h8 t hn m (textNext_range hp.1)]
  by_cases h0 : x.uses = 0
  ·by_cases h1 : fr = 0
   ·have : p ≠ 0 := by omega
    simp [h0, h1, this]
   ·simp [h0, h1]
  ·simp [h0]
theorem findS_hit {xs : List SlotM} (h8 : xs.length = 8) {t : Str} {j : Nat} {x : SlotM} (hj : xs[j]? = some x) (ht : x.text = t) (hu : ∀ (i : Nat) (y : SlotM), xs[i]? = some y → y.text = t → i = j) : ∀ (m : Nat) {p fr : Int}, 1 ≤ p ∧ p ≤ 8 → (j : Int) + 1 ∈ places m p → findS xs t m p fr = ((j : Int) + 1, true)
 | 0, p, fr, _, hm => by simp [places] at hm
 | m + 1, p, fr, hp, hm => by
  obtain ⟨y, hy⟩ := get_some (xs := xs) (i := (p - 1).toNat) (by omega)
  rw [findS, hy]
  by_cases hyt : y.text = t
  ·have := hu _ y hy hyt
   have hs : seq y.text t = true := by rw [seq_eq]; simpa using hyt
   simp only [hs, if_true]
   have : p = (j : Int) + 1 := by omega
   rw [this]
  ·have hs : seq y.text t = false := by rw [seq_eq]; simpa using hyt
   simp only [hs, Bool.false_eq_true, if_false]
   refine findS_hit h8 hj ht hu m (textNext_range hp.1) ?_
   rcases List.mem_cons.mp hm with e | hm
   ·exfalso
    have : (p - 1).toNat = j := by omega
    rw [this, hj] at hy
    cases hy
    exact hyt ht
   ·exact hm
theorem put_both {xs : List SlotM} {f : Int → Int} (h : SlotI xs f) (hf : ∀ k, f k ≤ 50) {t : Str} (ht : textOk t = true) (hne : t ≠ noText) :
  putS xs t = ((putM xs t).1, (putM xs t).2, decide ((putM xs t).2 > 0)) ∧ 0 ≤ (putM xs t).2 ∧ (putM xs t).2 ≤ 8 ∧ ((putM xs t).2 > 0 → SlotI (putM xs t).1 (fun k => f k + (if (putM xs t).2 = k then 1 else 0))) := by
 have h8 := h.len
 have hp := textPlace_range ht
 cases hf1 : fnd (fun x : SlotM => seq x.text t) xs 0 with
 | none =>
  have hn : ∀ x ∈ xs, x.text ≠ t := fun x hx e => by
   have := fnd_none.mp hf1 x hx
   rw [e, seq_refl] at this; cases this
  have e1 : putM xs t = probe xs t 8 (textPlace t) := by rw [putM, hf1]
  rw [e1, probe_ff h8 t 8 hp, putS, findS_miss h8 t hn 8 hp]
  simp only [if_true]
  rcases ff_range (xs := xs) 8 hp with e0 | ⟨h1, h2, x, hx, hx0⟩
  ·simp only [e0]
   obtain ⟨y, hy⟩ := get_some (xs := xs) (i := ((0 : Int) - 1).toNat) (by simp; omega)
   rw [hy]
   simp
  ·have hne0 : ff xs 8 (textPlace t) ≠ 0 := by omega
   simp only [hx]
   have e2 : ((ff xs 8 (textPlace t) == 0) || decide (x.uses ≥ 99)) = false := by simp [hne0, hx0]
   rw [e2]
   simp only [hne0, if_false, hx0, Bool.false_eq_true]
   have hgt : ff xs 8 (textPlace t) > 0 := by omega
   refine ⟨by simp [hgt], by omega, h2, fun _ => ?_⟩
   refine (h.set (j := (ff xs 8 (textPlace t) - 1).toNat) (by omega) (y := ⟨t, 1⟩) ht (by simp) (by simp [hne]) ?_).congr fun k _ _ => ?_
   ·intro _ i z hz e
    exact absurd e (hn z (List.mem_of_getElem? hz))
   ·have eb : (((ff xs 8 (textPlace t) - 1).toNat : Nat) : Int) + 1 = ff xs 8 (textPlace t) := by omega
    have := h.use _ x hx
    rw [eb] at this
    simp only [eb]
    by_cases hk : k = ff xs 8 (textPlace t)
    ·subst hk; simp; omega
    ·have : ¬ ff xs 8 (textPlace t) = k := fun e => hk e.symm
     simp [hk, this]
 | some j =>
  obtain ⟨_, hj2, x, hx, hs⟩ := fnd_lt hf1
  simp only [Nat.sub_zero] at hx
  have hxt : x.text = t := by rw [seq_eq] at hs; simpa using hs
  have hu : ∀ (i : Nat) (y : SlotM), xs[i]? = some y → y.text = t → i = j := fun i y hy e => h.dis i j y x hy hx (e.trans hxt.symm) (fun e2 => hne (e.symm.trans e2))
  have hm := List.mem_of_getElem? hx
  have huse := h.use j x hx
  have hpos := h.pos x hm
  have hfj := hf ((j : Int) + 1)
  have hu0 : x.uses ≠ 0 := fun e => hne (hxt.symm.trans ((h.emp x hm).mpr e))
  have hu99 : ¬ x.uses = 99 := by omega
  have hu99' : ¬ x.uses ≥ 99 := by omega
  have e1 : putM xs t = (xs.set j x.inc, (j : Int) + 1) := by rw [putM, hf1]; simp only [hx, hu99, if_false]
  have hj8 : j < 8 := by omega
  rw [e1, putS, findS_hit h8 hx hxt hu 8 hp (places_all hp (by omega))]
  have ej : ((j : Int) + 1 - 1).toNat = j := by omega
  simp only [ej, hx]
  have e2 : (((j : Int) + 1 == 0) || decide (x.uses ≥ 99)) = false := by
   have : (j : Int) + 1 ≠ 0 := by omega
   simp [this, hu99']
  rw [e2]
  have hgt : (j : Int) + 1 > 0 := by omega
  simp only [Bool.false_eq_true, if_false]
  refine ⟨by simp [hgt, SlotM.inc, hxt], by omega, by omega, fun _ => ?_⟩
  refine (h.set (j := j) hj8 (y := x.inc) (h.txt x hm) (by simp only [SlotM.inc]; omega) ?_ ?_).congr fun k _ _ => ?_
  ·simp only [SlotM.inc]
   constructor
   ·intro e; exact absurd (hxt.symm.trans e) hne
   ·intro e; omega
  ·simp only [SlotM.inc]
   intro _ i z hz e
   exact hu i z hz (e.trans hxt)
  ·simp only [SlotM.inc]
   by_cases hk : k = (j : Int) + 1
   ·subst hk; simp; omega
   ·have : ¬ (j : Int) + 1 = k := fun e => hk e.symm
    simp [hk, this]
theorem inAll_iff {lo hi : Int} {bs : List Int} : inAll lo hi bs = true ↔ ∀ b ∈ bs, lo ≤ b ∧ b ≤ hi := by
 simp [inAll, inR]
theorem volOk_iff {v : VolM} : volOk v = true ↔ (∀ b ∈ v.blocks, 0 ≤ b ∧ b ≤ 8) ∧ isName v.name = true ∧ 1 ≤ v.blocks.length ∧ v.blocks.length ≤ 6 := by
 rw [volOk]
 simp only [Bool.and_eq_true, inAll_iff, inR, decide_eq_true_eq]
 constructor
 ·rintro ⟨h1, h2, h3, h4⟩; exact ⟨h1, h2, by omega, by omega⟩
 ·rintro ⟨h1, h2, h3, h4⟩; exact ⟨h1, h2, by omega, by omega⟩
theorem sort_set {vs : List VolM} (h : SortV vs) {i : Nat} {v w : VolM} (hv : vs[i]? = some v) (hn : w.name = v.name) : SortV (vs.set i w) := by
 have ⟨hi, e⟩ := List.getElem?_eq_some_iff.mp hv
 refine List.pairwise_iff_getElem.mpr fun a b ha hb hab => ?_
 simp only [List.length_set] at ha hb
 have := List.pairwise_iff_getElem.mp h a b ha hb hab
 rw [List.getElem_set, List.getElem_set]
 by_cases h1 : i = a
 ·subst h1
  have : i ≠ b := by omega
  simp only [if_true, this, if_false]
  rw [hn, ← e]; exact List.pairwise_iff_getElem.mp h i b ha hb hab
 ·by_cases h2 : i = b
  ·subst h2
   simp only [h1, if_false, if_true]
   rw [hn, ← e]; exact this
  ·simp only [h1, h2, if_false]; exact this
theorem sort_del {vs : List VolM} (h : SortV vs) (i : Nat) : SortV (delV vs i) := by
 refine List.Pairwise.sublist ?_ h
 rw [delV]
 have h1 : (vs.take i ++ vs.drop (i + 1)).Sublist (vs.take i ++ vs.drop i) := List.Sublist.append (List.Sublist.refl _) (by rw [← List.drop_drop]; exact List.drop_sublist 1 _)
 rwa [List.take_append_drop] at h1
structure Do1 (p : PoolM) (r s : PoolM × Bool) : Prop where
 e : r = s
 k : s.2 = true → PoolP s.1
theorem make_both {p : PoolM} (h : PoolP p) (nm : Str) (sz : Int) : Do1 p (poolMake p nm sz) (sMake p nm sz) := by
 have eb : sMakeBad p nm sz = makeBad p nm sz := by
  rw [sMakeBad, makeBad, sName_eq]
  cases isName nm <;> cases inR sz 1 6 <;> simp
 cases hb : makeBad p nm sz with
 | true => 
  have e1 : poolMake p nm sz = (p, false) := by rw [poolMake, hb]; rfl
  have e2 : sMake p nm sz = (p, false) := by rw [sMake, eb, hb]; rfl
  exact ⟨by rw [e1, e2], by rw [e2]; intro e; cases e⟩
 | false =>
  have hb2 := hb
  rw [makeBad] at hb2
  simp only [Bool.or_eq_false_iff, Bool.not_eq_false', fndI_nn] at hb2
  obtain ⟨hn, hv, hs⟩ := hb2
  have hv2 : volIx p.vols nm = none := by cases hq : volIx p.vols nm with
   | none => rfl
   | some i => rw [hq] at hv; cases hv
  have hne := volIx_none.mp hv2
  have hi := insV_eq (v := ⟨nm, List.replicate sz.toNat 0⟩) h.nm hn h.o hne
  have e1 : poolMake p nm sz = (⟨p.slots, insS ⟨nm, List.replicate sz.toNat 0⟩ p.vols⟩, true) := by
   rw [poolMake, hb, makeM, hi]; rfl
  have e2 : sMake p nm sz = (⟨p.slots, insS ⟨nm, List.replicate sz.toNat 0⟩ p.vols⟩, true) := by
   rw [sMake, eb, hb]; rfl
  have hso := insS_sort (v := ⟨nm, List.replicate sz.toNat 0⟩) hn h.nm h.o hne
  refine ⟨by rw [e1, e2], fun _ => ?_⟩
  rw [e2]
  refine ⟨h.s.congr fun k hk _ => ?_, fun v hv => ?_, hso.1⟩
  ·rw [sumU_ins, cnt_rep _ _ hk]; omega
  ·rcases (hso.2 v).mp hv with e | hv
   ·rw [e]
    have hs2 : 1 ≤ sz ∧ sz ≤ 6 := by simpa [inR] using hs
    refine volOk_iff.mpr ⟨fun b hb => ?_, hn, ?_, ?_⟩
    ·have := List.eq_of_mem_replicate hb
     omega
    ·simp only [List.length_replicate]; omega
    ·simp only [List.length_replicate]; omega
   ·exact h.v v hv
theorem gone_both {p : PoolM} (h : PoolP p) (nm : Str) : Do1 p (poolGone p nm) (sGone p nm) := by
 refine ⟨rfl, fun hk => ?_⟩
 cases hv : volIx p.vols nm with
 | none => rw [sGone, hv] at hk; cases hk
 | some i =>
  obtain ⟨v, hi, _, _⟩ := volIx_some hv
  have e : (sGone p nm).1 = ⟨freeL p.slots v.blocks, delV p.vols i⟩ := by rw [sGone, hv]; simp only [goM, hi]
  rw [e]
  have hvo := volOk_iff.mp (h.v v (List.mem_of_getElem? hi))
  refine ⟨(freeL_I v.blocks h.s hvo.1 fun k _ => sumU_ge hi).congr fun k _ _ => ?_, fun u hu => h.v u (delV_mem hu), sort_del h.o i⟩
  simp only; rw [sumU_del hi]
theorem clone_both {p : PoolM} (h : PoolP p) (fr to : Str) : Do1 p (poolClone p fr to) (sClone p fr to) := by
 have eb : sCloneBad p fr to = cloneBad p fr to := by rw [sCloneBad, cloneBad, sName_eq]
 cases hb : cloneBad p fr to with
 | true =>
  have e1 : poolClone p fr to = (p, false) := by rw [poolClone, hb]; rfl
  have e2 : sClone p fr to = (p, false) := by rw [sClone, eb, hb]; rfl
  exact ⟨by rw [e1, e2], by rw [e2]; intro e; cases e⟩
 | false =>
  have hb2 := hb
  rw [cloneBad] at hb2
  simp only [Bool.or_eq_false_iff, Bool.not_eq_false', fndI_nn, fndI_neg] at hb2
  obtain ⟨hf, hn, hv⟩ := hb2
  have hv2 : volIx p.vols to = none := by cases hq : volIx p.vols to with
   | none => rfl
   | some i => rw [hq] at hv; cases hv
  cases hq : volIx p.vols fr with
  | none => rw [hq] at hf; cases hf
  | some i =>
   obtain ⟨v, hi, _, _⟩ := volIx_some hq
   have hne := volIx_none.mp hv2
   have ei : (fndI (some i)).toNat = i := rfl
   have hin := insV_eq (v := ⟨to, v.blocks⟩) h.nm hn h.o hne
   have e1 : poolClone p fr to = (⟨incL p.slots v.blocks, insS ⟨to, v.blocks⟩ p.vols⟩, true) := by
    rw [poolClone, hb, hq, ei, clM, hi]
    simp only [hin]; rfl
   have e2 : sClone p fr to = (⟨incL p.slots v.blocks, insS ⟨to, v.blocks⟩ p.vols⟩, true) := by
    rw [sClone, eb, hb, hq, ei, hi]; rfl
   have hso := insS_sort (v := ⟨to, v.blocks⟩) hn h.nm h.o hne
   have hvo := volOk_iff.mp (h.v v (List.mem_of_getElem? hi))
   refine ⟨by rw [e1, e2], fun _ => ?_⟩
   rw [e2]
   refine ⟨(incL_I v.blocks h.s fun b hb => ⟨hvo.1 b hb, fun _ => ?_⟩).congr fun k _ _ => ?_, fun u hu => ?_, hso.1⟩
   ·have h1 := cnt_mem hb
    have h2 := sumU_ge (k := b) hi
    omega
   ·simp only; rw [sumU_ins]; simp only; omega
   ·rcases (hso.2 u).mp hu with e | hu
    ·rw [e]; exact volOk_iff.mpr ⟨hvo.1, hn, hvo.2.2.1, hvo.2.2.2⟩
    ·exact h.v u hu
theorem write_both {p : PoolM} (h : PoolP p) (nm : Str) (b : Int) (t : Str) : Do1 p (poolWrite p nm b t) (sWrite p nm b t) := by
 cases hh : hasB p nm b with
 | none =>
  have e1 : poolWrite p nm b t = (p, false) := by rw [poolWrite, hh]
  have e2 : sWrite p nm b t = (p, false) := by rw [sWrite, hh]
  exact ⟨by rw [e1, e2], by rw [e2]; intro e; cases e⟩
 | some i =>
  cases ht : textOk t with
  | false =>
   have e1 : poolWrite p nm b t = (p, false) := by rw [poolWrite, hh, ht]; rfl
   have e2 : sWrite p nm b t = (p, false) := by rw [sWrite, hh, ht]; rfl
   exact ⟨by rw [e1, e2], by rw [e2]; intro e; cases e⟩
  | true =>
   have e1 : poolWrite p nm b t = if (wrM p i b.toNat t).2 then ((wrM p i b.toNat t).1, true) else (p, false) := by rw [poolWrite, hh, ht]; rfl
   have e2 : sWrite p nm b t = sWr p i b.toNat t := by rw [sWrite, hh, ht]; rfl
   rw [hasB] at hh
   cases hq : volIx p.vols nm with
   | none => rw [hq] at hh; cases hh
   | some i' =>
    obtain ⟨v, hi, hvn, _⟩ := volIx_some hq
    rw [hq] at hh
    simp only [hi] at hh
    cases hr : inR b 0 ((v.blocks.length : Int) - 1) with
    | false => rw [hr] at hh; cases hh
    | true =>
     rw [hr] at hh
     cases hh
     have hr2 : 0 ≤ b ∧ b ≤ (v.blocks.length : Int) - 1 := by simpa [inR] using hr
     obtain ⟨old, ho⟩ := get_some (xs := v.blocks) (i := b.toNat) (by omega)
     have hvo := volOk_iff.mp (h.v v (List.mem_of_getElem? hi))
     have hob := hvo.1 old (List.mem_of_getElem? ho)
     have hmem := cnt_mem (List.mem_of_getElem? ho)
     have hge := sumU_ge (k := old) hi
     have h1 := free_I h.s hob (fun _ => by omega)
     have key : ∀ (new : Int) (xs' : List SlotM), 0 ≤ new ∧ new ≤ 8 → SlotI xs' (fun k => (sumU k p.vols - (if old = k then 1 else 0)) + (if new = k then 1 else 0)) → PoolP ⟨xs', p.vols.set i ⟨v.name, v.blocks.set b.toNat new⟩⟩ := by
      intro new xs' hnew hx
      refine ⟨hx.congr fun k _ _ => ?_, fun u hu => ?_, sort_set h.o hi rfl⟩
      ·simp only; rw [sumU_set hi]; simp only; rw [cnt_set ho]; omega
      ·rcases List.mem_or_eq_of_mem_set hu with hu | e
       ·exact h.v u hu
       ·rw [e]
        refine volOk_iff.mpr ⟨fun c hc => ?_, hvo.2.1, ?_, ?_⟩
        ·rcases List.mem_or_eq_of_mem_set hc with hc | e
         ·exact hvo.1 c hc
         ·rw [e]; exact hnew
        ·simp only [List.length_set]; exact hvo.2.2.1
        ·simp only [List.length_set]; exact hvo.2.2.2
     by_cases hne : t = noText
     ·have hs : seq t noText = true := by rw [hne, seq_refl]
      have e3 : wrM p i b.toNat t = (⟨freeM p.slots old, p.vols.set i ⟨v.name, v.blocks.set b.toNat 0⟩⟩, true) := by
       simp only [wrM, hi, ho, fillM, hs, if_true, Bool.true_or]
      have e4 : sWr p i b.toNat t = (⟨freeM p.slots old, p.vols.set i ⟨v.name, v.blocks.set b.toNat 0⟩⟩, true) := by
       simp only [sWr, hi, ho, hs, if_true]
      refine ⟨by rw [e1, e2, e3, e4]; simp, fun _ => ?_⟩
      rw [e2, e4]
      refine key 0 _ (by omega) (h1.congr fun k hk _ => ?_)
      have : (0 : Int) ≠ k := by omega
      simp [this]
     ·have hs : seq t noText = false := by rw [seq_eq]; simpa using hne
      obtain ⟨hp1, hp2, hp3, hp4⟩ := put_both h1 (fun k => by have := (h.sum k).2; split <;> omega) ht hne
      have e3 : wrM p i b.toNat t = (⟨(putM (freeM p.slots old) t).1, p.vols.set i ⟨v.name, v.blocks.set b.toNat (putM (freeM p.slots old) t).2⟩⟩, decide ((putM (freeM p.slots old) t).2 > 0)) := by
       simp only [wrM, hi, ho, fillM, hs, Bool.false_eq_true, if_false, Bool.false_or]
      have e4 : sWr p i b.toNat t = if decide ((putM (freeM p.slots old) t).2 > 0) then (⟨(putM (freeM p.slots old) t).1, p.vols.set i ⟨v.name, v.blocks.set b.toNat (putM (freeM p.slots old) t).2⟩⟩, true) else (p, false) := by
       simp only [sWr, hi, ho, hs, Bool.false_eq_true, if_false, hp1]
      by_cases hgt : (putM (freeM p.slots old) t).2 > 0
      ·have hd : decide ((putM (freeM p.slots old) t).2 > 0) = true := by simpa using hgt
       refine ⟨by rw [e1, e2, e3, e4, hd], fun _ => ?_⟩
       rw [e2, e4, hd]
       exact key _ _ ⟨hp2, hp3⟩ (hp4 hgt)
      ·have hd : decide ((putM (freeM p.slots old) t).2 > 0) = false := by simpa using hgt
       refine ⟨by rw [e1, e2, e3, e4, hd], fun hk => ?_⟩
       rw [e2, e4, hd] at hk
       cases hk
theorem sOpOk_eq (o : OpM) : sOpOk o = opOk o := by
 rw [sOpOk, opOk, sName_eq, sName_eq, okK, want, opEq]
 by_cases h1 : o.kind = 1
 ·simp only [h1, if_true, seq_refl, seq_eq, beq_self_eq_true, Bool.true_and]
  cases isName o.name <;> cases decide (o.to = noText) <;> cases decide (o.text = noText) <;> simp
 ·by_cases h2 : o.kind = 2
  ·simp only [h2, if_true, seq_refl, seq_eq, beq_self_eq_true, Bool.true_and, (by decide : ¬ (2 : Int) = 1), if_false]
   cases isName o.name <;> cases decide (o.to = noText) <;> cases decide (o.text = noText) <;> simp
  ·by_cases h3 : o.kind = 3
   ·simp only [h3, if_true, seq_refl, seq_eq, beq_self_eq_true, Bool.true_and, (by decide : ¬ (3 : Int) = 1), (by decide : ¬ (3 : Int) = 2), if_false]
    cases isName o.name <;> simp
   ·by_cases h4 : o.kind = 4
    ·simp only [h4, if_true, seq_refl, seq_eq, beq_self_eq_true, Bool.true_and, (by decide : ¬ (4 : Int) = 1), (by decide : ¬ (4 : Int) = 2), (by decide : ¬ (4 : Int) = 3), if_false]
    ·simp only [h1, h2, h3, h4, if_false, Bool.and_false, Bool.false_and]
theorem do_both {p : PoolM} (h : PoolP p) (o : OpM) : Do1 p (poolDo p o) (sDo p o) := by
 rw [poolDo, sDo]
 by_cases h1 : o.kind = 1
 ·simp only [h1, if_true]; exact make_both h _ _
 ·simp only [h1, if_false]
  by_cases h2 : o.kind = 2
  ·simp only [h2, if_true]; exact write_both h _ _ _
  ·simp only [h2, if_false]
   by_cases h3 : o.kind = 3
   ·simp only [h3, if_true]; exact clone_both h _ _
   ·simp only [h3, if_false]; exact gone_both h _
theorem keeps : Keeps := fun p o hp _ hd => (poolOk_iff _).mpr ((do_both ((poolOk_iff p).mp hp) o).k hd)
theorem poolDo_eq {p : PoolM} (hp : poolOk p = true) (o : OpM) : poolDo p o = sDo p o := (do_both ((poolOk_iff p).mp hp) o).e
theorem run_eq : ∀ (os : List OpM) {p : PoolM}, poolOk p = true → doAllM p os = runM p os
 | [], p, _ => rfl
 | o :: os, p, hp => by
  rw [doAllM, runM, hp, sOpOk_eq, poolDo_eq hp]
  cases ho : opOk o with
  | false => rfl
  | true =>
   cases hd : (sDo p o).2 with
   | false => rfl
   | true =>
    show doAllM (sDo p o).1 os = runM (sDo p o).1 os
    exact run_eq os (keeps p o hp (by rw [sOpOk_eq]; exact ho) hd)
theorem runM_ok : ∀ (os : List OpM) {p q : PoolM}, poolOk p = true → runM p os = some q → poolOk q = true
 | [], p, q, hp, h => by cases h; exact hp
 | o :: os, p, q, hp, h => by
  rw [runM] at h
  split at h
  ·rename_i hc
   simp only [Bool.and_eq_true] at hc
   exact runM_ok os (keeps p o hp hc.1 hc.2) h
  ·cases h
end Go.Gn

namespace Go.Gn
open Go
set_option maxRecDepth 100000
set_option maxHeartbeats 4000000
structure LogSz (g : LogM) : Prop where
 p : PoolSz g.base
 o : OpsSz g.ops
section
variable {W : CallF} {L : LoopF} {E : EqF} {T : Prop → Bool} (h : IsK G W L E T)
include h
end
end Go.Gn

