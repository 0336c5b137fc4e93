/- Part 25 of a proof: an evaluator of the program, proved sound, and what it answers. -/
import Derived.Test.YtiicdghimmpjnaaGreatA24
set_option linter.all false
namespace Go.Gn
open Go
set_option linter.unusedVariables false
set_option linter.unusedSimpArgs false
def OpsZ (os : List OpM) : Prop := os.length ≤ 30 ∧ ∀ o ∈ os, OpS o
theorem OpsZ.sz {os : List OpM} (h : OpsZ os) : OpsSz os := ⟨by have := h.1; omega, fun o ho => (h.2 o ho).sz⟩
theorem OpsG.z {os : List OpM} (h : OpsG os) : OpsZ os := ⟨by have := h.l; omega, h.s⟩
theorem OpsZ.one {o : OpM} (h : OpS o) : OpsZ [o] := ⟨by simp, fun x hx => by rw [List.mem_singleton] at hx; subst hx; exact h⟩
theorem OpsG.add {os : List OpM} (h : OpsG os) {o : OpM} (ho : OpS o) : OpsZ (os ++ [o]) := ⟨by have := h.l; simp; omega, fun x hx => by
 rcases List.mem_append.1 hx with hx | hx
 ·exact h.s x hx
 ·rw [List.mem_singleton] at hx; subst hx; exact ho⟩
structure WZ (w : WorldM) : Prop where
 lead : w.lead = 1 ∨ w.lead = 2
 o1 : OpsZ w.n1.ops
 o2 : OpsZ w.n2.ops
 t1 : -2000 ≤ w.n1.term ∧ w.n1.term ≤ 2000
 t2 : -2000 ≤ w.n2.term ∧ w.n2.term ≤ 2000
 t : -2000 ≤ w.term ∧ w.term ≤ 2000
 nl : w.nets.length ≤ 12
 nets : ∀ m ∈ w.nets, MsgG m
 done : OpsZ w.done
theorem WG.z {w : WorldM} (h : WG w) : WZ w := ⟨h.lead, h.o1.z, h.o2.z, by have := h.t1; omega, by have := h.t2; omega, by have := h.t; omega, h.nl, h.nets, h.done.z⟩
def wV1 (w : WorldM) : AV := .agg [.hs 1 0 2, .int .i64 w.term, .int .i64 w.lead, .bool w.both, .hw 4, .hw 5]
structure NZ (n : NodeM) : Prop where
 o : n.ops.length ≤ 31 ∧ ∀ o ∈ n.ops, OpS o
 t : -2000 ≤ n.term ∧ n.term ≤ 2000
theorem NZ.sz {n : NodeM} (h : NZ n) : OpsSz n.ops := ⟨by have := h.o.1; omega, fun o ho => (h.o.2 o ho).sz⟩
theorem nodeOk_add {n : NodeM} {o : OpM} (hn : nodeOk n = true) (ho : askOk n o = true) : nodeOk (nodeAdd n o) = true := by
 have hg := (askOk_G ho).2
 unfold nodeOk at hn ⊢
 simp only [Bool.and_eq_true] at hn ⊢
 refine ⟨hn.1, hn.2.1, ?_⟩
 show areOps (n.ops ++ [o]) = true
 rw [areOps_run, hg.run, Bool.true_and, decide_eq_true_eq]
 have := hg.l
 omega
end Go.Gn

