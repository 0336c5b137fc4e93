/- Part 12 of a proof: an evaluator of the program, proved sound, and what it answers. -/
import Derived.Test.YtkgpnfeabojhcaaGreatA11
set_option linter.all false
namespace Go.Gn
open Go
set_option maxRecDepth 100000
set_option maxHeartbeats 4000000
theorem agree0 {l : List Nat} {os os' : List Obj} (hl : l = []) : Agree l os os' := by
 subst hl
 intro r hr
 cases hr
theorem gS {α : Sort _} {a b : α} (q : a = b := by exact (h.t _).2 (by repeat (first | exact trivial | refine ⟨rdV_os rfl (fun _ => agree0 rfl), ?_⟩ | refine ⟨rdV_os rfl (fun _ => agree1 rfl rfl), ?_⟩ | refine ⟨rfl, ?_⟩))) : a = b := q
theorem runM_take : ∀ (os : List OpM) (k : Nat) (p : PoolM), (runM p os).isSome = true → (runM p (os.take k)).isSome = true
 | [], k, p, h => by simpa using h
 | o :: os, 0, p, h => rfl
 | o :: os, k + 1, p, h => by
  rw [List.take_succ_cons]
  simp only [runM] at h ⊢
  split at h
  ·rename_i hc
   rw [if_pos hc]
   exact runM_take os k _ h
  ·cases h
section
variable {W : CallF} {L : LoopF} {E : EqF} {T : Prop → Bool} (h : IsK G W L E T)
include h
end
end Go.Gn

