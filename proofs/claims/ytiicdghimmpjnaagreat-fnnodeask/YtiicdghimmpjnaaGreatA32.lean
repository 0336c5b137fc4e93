/- Part 32 of a proof: an evaluator of the program, proved sound, and what it answers. -/
import Derived.Test.YtiicdghimmpjnaaGreatA31
import Derived.Test.YtiicdghimmpjnaaGreatRows
import Derived.ProofKit
import Derived.Deep.Slices
import Derived.WalkKit
import Derived.WalkSpells
import Derived.WalkLawsBesides
import Derived.Lib.SliceRun
import Derived.Shelf.RegionOpenPlain
import Derived.Lib.Bytealg
import Derived.Shelf.Abstract
import Derived.Shelf.Spec.SlicesInsert
import Derived.Lib.AppendZerosOnto
import Derived.Laws.NewBlocks
import Derived.Deep.RegionLaw
set_option linter.all false
namespace Go.Gn
open Go Go.RowKit Go.Proofs Go.Deep
set_option linter.unusedVariables false
set_option linter.unusedSimpArgs false
abbrev SW (w : World) : Nat → Prop := fun b => b < w.heap.size
def Rd (w : World) (ds : List D) (cs : List Value) (o : Nat) : Prop := ∀ (i : Nat) (d : D), ds[i]? = some d → ∃ u, cs[o + i]? = some u ∧ RepD (SW w) w d u
theorem Rd.app {w : World} {d1 d2 : List D} {cs : List Value} {o : Nat} (h1 : Rd w d1 cs o) (h2 : Rd w d2 cs (o + d1.length)) : Rd w (d1 ++ d2) cs o := fun i d hi => by
 by_cases h : i < d1.length
 ·rw [List.getElem?_append_left h] at hi; exact h1 i d hi
 ·rw [List.getElem?_append_right (by omega)] at hi
  obtain ⟨u, hu, hr⟩ := h2 _ d hi
  exact ⟨u, by rw [← hu]; congr 1; omega, hr⟩
theorem Rd.sub {w : World} {ds : List D} {cs : List Value} {o n : Nat} (h : Rd w ds ((cs.drop o).take n) 0) : Rd w ds cs o := fun i d hi => by
 obtain ⟨u, hu, hr⟩ := h i d hi
 rw [Nat.zero_add, List.getElem?_take] at hu
 split at hu
 ·rw [List.getElem?_drop] at hu; exact ⟨u, hu, hr⟩
 ·cases hu
def RdT (t : TypeId) {α : Type} (f : α → List D) (Q : α → Prop) : Prop := ∀ {H : Type} {enc : TypeId × Value → H} {w : World} {sp : Nat → Bool} {held : Bool} {n : Nat} {cs : List Value} {y : DataW H × List MemPlace},
 DataW.trod enc Tryz.prog w 0 sp held n t cs = some y → ∃ x : α, cs.length = (f x).length ∧ Rd w (f x) cs 0 ∧ Q x
def slD {α : Type} (f : α → List D) (xs : List α) : List D := [.sl (xs.map f)]
theorem rd_slice {t e : TypeId} {α : Type} {f : α → List D} {Q : α → Prop} {sz : Nat} (ht : Tryz.prog.underlying t = some (.slice e)) (hc : Tryz.prog.cellsOf e = sz) (hs : 0 < sz) (he : RdT e f Q) : RdT t (slD f) (fun xs => xs.length < 9223372036854775808 ∧ ∀ x ∈ xs, Q x) := fun {H enc w sp held n cs y} h => by
 rcases open_slice ht h with ⟨rfl, _⟩ | ⟨a, len, cap, m, n', D', Pl, rfl, _, hl, hm, hmm, _, hx⟩
 ·refine ⟨[], rfl, fun i d hi => ?_, by simp, fun x hx => by simp at hx⟩
  match i with
  | 0 => cases hi; exact ⟨_, rfl, .nil _ _⟩
  | i + 1 => cases hi
 ·have hlm : len ≤ m := by rw [hmm]; split <;> omega
  have hel : ∀ i, i < len → ∃ x : α, ∃ cs', w.cells? 0 (a.add (i * sz)) sz = some cs' ∧ cs'.length = (f x).length ∧ Rd w (f x) cs' 0 ∧ Q x := fun i hi => by
   obtain ⟨cs', h1, h2⟩ := hx i (by omega)
   obtain ⟨x, h3, h4, h5⟩ := he h2
   rw [hc] at h1
   exact ⟨x, cs', h1, h3, h4, h5⟩
  obtain ⟨X, hX⟩ : ∃ X : List α, X.length = len ∧ ∀ (i : Nat) (x : α), X[i]? = some x → ∃ cs', w.cells? 0 (a.add (i * sz)) sz = some cs' ∧ cs'.length = (f x).length ∧ Rd w (f x) cs' 0 ∧ Q x := by
   rename_i hyy
   clear hx hmm hl hlm hyy h
   induction len with
   | zero => exact ⟨[], rfl, fun i x hi => by simp at hi⟩
   | succ len ih =>
    obtain ⟨X, h1, h2⟩ := ih (fun i hi => hel i (by omega))
    obtain ⟨x, hx⟩ := hel len (by omega)
    refine ⟨X ++ [x], by simp [h1], fun i x' hi => ?_⟩
    by_cases h : i < X.length
    ·rw [List.getElem?_append_left h] at hi; exact h2 i x' hi
    ·rw [List.getElem?_append_right (by omega)] at hi
     have : i = len := by
      have := (List.getElem?_eq_some_iff.mp hi).1
      simp at this; omega
     subst this
     rw [← h1, Nat.sub_self] at hi
     cases hi
     exact hx
  obtain ⟨hXl, hX⟩ := hX
  refine ⟨X, rfl, fun i d hi => ?_, by rw [hXl]; unfold maxLen at hm; omega, fun x hx => ?_⟩
  ·match i with
   | i + 1 => cases hi
   | 0 =>
    cases hi
    refine ⟨_, rfl, ?_⟩
    cases hXe : X with
    | nil =>
     rw [hXe] at hXl
     rw [← hXl]
     exact .nil _ _
    | cons x0 X0 =>
     have h0 := hX 0 x0 (by rw [hXe]; rfl)
     obtain ⟨cs0, g1, g2, g3, _⟩ := h0
     have hsp : a.spot = none := by
      obtain ⟨_, hl0, hget⟩ := World.cells?_some g1
      have := hget 0 hs
      rw [List.getElem?_eq_getElem (by omega)] at this
      simp only [World.cell?] at this
      split at this
      ·cases hq : a.spot with
       | none => rfl
       | some q =>
        exfalso
        revert this
        simp only [Addr.add]
        repeat' split
        all_goals simp_all
      ·cases this
     obtain ⟨b, off, sp0⟩ := a
     have hsp : sp0 = none := hsp
     subst hsp
     have hcell : ∀ j x, X[j]? = some x → (f x).length = sz ∧ ∀ i d, (f x)[i]? = some d → ∃ u, cellAt w b (off + j * sz + i) = some u ∧ RepD (SW w) w d u := fun j x hj => by
      obtain ⟨cs', q1, q2, q3, _⟩ := hX j x hj
      obtain ⟨_, hl', hget⟩ := World.cells?_some q1
      refine ⟨by omega, fun i d hd => ?_⟩
      obtain ⟨u, hu, hr⟩ := q3 i d hd
      rw [Nat.zero_add] at hu
      have hil := (List.getElem?_eq_some_iff.mp hu).1
      have := hget i (by omega)
      rw [Addr.add_lit, Addr.add_lit, hu] at this
      exact ⟨u, this, hr⟩
     have hbl : b < w.heap.size := by
      obtain ⟨hl1, hc1⟩ := hcell 0 x0 (by rw [hXe]; rfl)
      obtain ⟨u, hu, _⟩ := hc1 0 _ (List.getElem?_eq_getElem (by omega))
      simp only [cellAt, World.cell?] at hu
      split at hu
      ·rename_i hh
       exact (Array.getElem?_eq_some_iff.1 hh).1
      ·cases hu
     have hmapl : (X.map f).length = len := by simp [hXl]
     rw [← hXe, ← hmapl]
     refine .sl (X.map f) b off sz cap (fun j i => (cellAt w b (off + j * sz + i)).getD undef) (by rw [hXe]; simp) hbl (by rw [hmapl]; exact hl) (fun j el hj => ?_) (fun j el i d hj hi => ?_)
     ·rw [List.getElem?_map, Option.map_eq_some_iff] at hj
      obtain ⟨x, hx, rfl⟩ := hj
      obtain ⟨h1, h2⟩ := hcell j x hx
      refine ⟨h1, fun i d hd => ?_⟩
      obtain ⟨u, hu, _⟩ := h2 i d hd
      rw [hu]; rfl
     ·rw [List.getElem?_map, Option.map_eq_some_iff] at hj
      obtain ⟨x, hx, rfl⟩ := hj
      obtain ⟨h1, h2⟩ := hcell j x hx
      obtain ⟨u, hu, hr⟩ := h2 i d hi
      rw [hu]; exact hr
  ·obtain ⟨i, hi⟩ := List.getElem?_of_mem hx
   obtain ⟨_, _, _, _, hq⟩ := hX i x hi
   exact hq
end Go.Gn

namespace Go.Gn
open Go Go.Proofs
set_option maxRecDepth 100000
set_option maxHeartbeats 4000000
theorem look_mem : ∀ {l : List (Nat × CF)} {f : Nat} {c : CF}, look l f = some c → (f, c) ∈ l
 | [], f, c, h => by cases h
 | (k, d) :: l, f, c, h => by
  simp only [look] at h
  split at h
  ·rename_i hb
   cases h
   rw [Nat.eq_of_beq_eq_true hb]
   exact List.mem_cons_self
  ·exact List.mem_cons_of_mem _ (look_mem h)
theorem ok3 : FnOK Tryz.prog 3 cf3 := ⟨Tryz.f3, bodyOf Tryz.f3, by kernel_rfl, of_decide_eq_true (by kernel_rfl), by kernel_rfl, c3_ok, by kernel_rfl, by kernel_rfl, by kernel_rfl, by kernel_rfl⟩
theorem ok4 : FnOK Tryz.prog 4 cf4 := ⟨Tryz.f4, bodyOf Tryz.f4, by kernel_rfl, of_decide_eq_true (by kernel_rfl), by kernel_rfl, c4_ok, by kernel_rfl, by kernel_rfl, by kernel_rfl, by kernel_rfl⟩
theorem ok5 : FnOK Tryz.prog 5 cf5 := ⟨Tryz.f5, bodyOf Tryz.f5, by kernel_rfl, of_decide_eq_true (by kernel_rfl), by kernel_rfl, c5_ok, by kernel_rfl, by kernel_rfl, by kernel_rfl, by kernel_rfl⟩
theorem ok7 : FnOK Tryz.prog 7 cf7 := ⟨Tryz.f7, bodyOf Tryz.f7, by kernel_rfl, of_decide_eq_true (by kernel_rfl), by kernel_rfl, c7_ok, by kernel_rfl, by kernel_rfl, by kernel_rfl, by kernel_rfl⟩
theorem ok12 : FnOK Tryz.prog 12 cf12 := ⟨Tryz.f12, bodyOf Tryz.f12, by kernel_rfl, of_decide_eq_true (by kernel_rfl), by kernel_rfl, c12_ok, by kernel_rfl, by kernel_rfl, by kernel_rfl, by kernel_rfl⟩
theorem ok13 : FnOK Tryz.prog 13 cf13 := ⟨Tryz.f13, bodyOf Tryz.f13, by kernel_rfl, of_decide_eq_true (by kernel_rfl), by kernel_rfl, c13_ok, by kernel_rfl, by kernel_rfl, by kernel_rfl, by kernel_rfl⟩
theorem ok14 : FnOK Tryz.prog 14 cf14 := ⟨Tryz.f14, bodyOf Tryz.f14, by kernel_rfl, of_decide_eq_true (by kernel_rfl), by kernel_rfl, c14_ok, by kernel_rfl, by kernel_rfl, by kernel_rfl, by kernel_rfl⟩
theorem ok15 : FnOK Tryz.prog 15 cf15 := ⟨Tryz.f15, bodyOf Tryz.f15, by kernel_rfl, of_decide_eq_true (by kernel_rfl), by kernel_rfl, c15_ok, by kernel_rfl, by kernel_rfl, by kernel_rfl, by kernel_rfl⟩
theorem ok16 : FnOK Tryz.prog 16 cf16 := ⟨Tryz.f16, bodyOf Tryz.f16, by kernel_rfl, of_decide_eq_true (by kernel_rfl), by kernel_rfl, c16_ok, by kernel_rfl, by kernel_rfl, by kernel_rfl, by kernel_rfl⟩
theorem ok17 : FnOK Tryz.prog 17 cf17 := ⟨Tryz.f17, bodyOf Tryz.f17, by kernel_rfl, of_decide_eq_true (by kernel_rfl), by kernel_rfl, c17_ok, by kernel_rfl, by kernel_rfl, by kernel_rfl, by kernel_rfl⟩
theorem ok18 : FnOK Tryz.prog 18 cf18 := ⟨Tryz.f18, bodyOf Tryz.f18, by kernel_rfl, of_decide_eq_true (by kernel_rfl), by kernel_rfl, c18_ok, by kernel_rfl, by kernel_rfl, by kernel_rfl, by kernel_rfl⟩
theorem ok19 : FnOK Tryz.prog 19 cf19 := ⟨Tryz.f19, bodyOf Tryz.f19, by kernel_rfl, of_decide_eq_true (by kernel_rfl), by kernel_rfl, c19_ok, by kernel_rfl, by kernel_rfl, by kernel_rfl, by kernel_rfl⟩
theorem ok20 : FnOK Tryz.prog 20 cf20 := ⟨Tryz.f20, bodyOf Tryz.f20, by kernel_rfl, of_decide_eq_true (by kernel_rfl), by kernel_rfl, c20_ok, by kernel_rfl, by kernel_rfl, by kernel_rfl, by kernel_rfl⟩
theorem ok21 : FnOK Tryz.prog 21 cf21 := ⟨Tryz.f21, bodyOf Tryz.f21, by kernel_rfl, of_decide_eq_true (by kernel_rfl), by kernel_rfl, c21_ok, by kernel_rfl, by kernel_rfl, by kernel_rfl, by kernel_rfl⟩
theorem ok22 : FnOK Tryz.prog 22 cf22 := ⟨Tryz.f22, bodyOf Tryz.f22, by kernel_rfl, of_decide_eq_true (by kernel_rfl), by kernel_rfl, c22_ok, by kernel_rfl, by kernel_rfl, by kernel_rfl, by kernel_rfl⟩
theorem ok32 : FnOK Tryz.prog 32 cf32 := ⟨Tryz.f32, bodyOf Tryz.f32, by kernel_rfl, of_decide_eq_true (by kernel_rfl), by kernel_rfl, c32_ok, by kernel_rfl, by kernel_rfl, by kernel_rfl, by kernel_rfl⟩
theorem ok33 : FnOK Tryz.prog 33 cf33 := ⟨Tryz.f33, bodyOf Tryz.f33, by kernel_rfl, of_decide_eq_true (by kernel_rfl), by kernel_rfl, c33_ok, by kernel_rfl, by kernel_rfl, by kernel_rfl, by kernel_rfl⟩
theorem ok34 : FnOK Tryz.prog 34 cf34 := ⟨Tryz.f34, bodyOf Tryz.f34, by kernel_rfl, of_decide_eq_true (by kernel_rfl), by kernel_rfl, c34_ok, by kernel_rfl, by kernel_rfl, by kernel_rfl, by kernel_rfl⟩
theorem ok35 : FnOK Tryz.prog 35 cf35 := ⟨Tryz.f35, bodyOf Tryz.f35, by kernel_rfl, of_decide_eq_true (by kernel_rfl), by kernel_rfl, c35_ok, by kernel_rfl, by kernel_rfl, by kernel_rfl, by kernel_rfl⟩
theorem ok47 : FnOK Tryz.prog 47 cf47 := ⟨Tryz.f47, bodyOf Tryz.f47, by kernel_rfl, of_decide_eq_true (by kernel_rfl), by kernel_rfl, c47_ok, by kernel_rfl, by kernel_rfl, by kernel_rfl, by kernel_rfl⟩
theorem ok48 : FnOK Tryz.prog 48 cf48 := ⟨Tryz.f48, bodyOf Tryz.f48, by kernel_rfl, of_decide_eq_true (by kernel_rfl), by kernel_rfl, c48_ok, by kernel_rfl, by kernel_rfl, by kernel_rfl, by kernel_rfl⟩
theorem ok49 : FnOK Tryz.prog 49 cf49 := ⟨Tryz.f49, bodyOf Tryz.f49, by kernel_rfl, of_decide_eq_true (by kernel_rfl), by kernel_rfl, c49_ok, by kernel_rfl, by kernel_rfl, by kernel_rfl, by kernel_rfl⟩
theorem ok50 : FnOK Tryz.prog 50 cf50 := ⟨Tryz.f50, bodyOf Tryz.f50, by kernel_rfl, of_decide_eq_true (by kernel_rfl), by kernel_rfl, c50_ok, by kernel_rfl, by kernel_rfl, by kernel_rfl, by kernel_rfl⟩
theorem ok51 : FnOK Tryz.prog 51 cf51 := ⟨Tryz.f51, bodyOf Tryz.f51, by kernel_rfl, of_decide_eq_true (by kernel_rfl), by kernel_rfl, c51_ok, by kernel_rfl, by kernel_rfl, by kernel_rfl, by kernel_rfl⟩
theorem ok52 : FnOK Tryz.prog 52 cf52 := ⟨Tryz.f52, bodyOf Tryz.f52, by kernel_rfl, of_decide_eq_true (by kernel_rfl), by kernel_rfl, c52_ok, by kernel_rfl, by kernel_rfl, by kernel_rfl, by kernel_rfl⟩
theorem ok53 : FnOK Tryz.prog 53 cf53 := ⟨Tryz.f53, bodyOf Tryz.f53, by kernel_rfl, of_decide_eq_true (by kernel_rfl), by kernel_rfl, c53_ok, by kernel_rfl, by kernel_rfl, by kernel_rfl, by kernel_rfl⟩
theorem ok54 : FnOK Tryz.prog 54 cf54 := ⟨Tryz.f54, bodyOf Tryz.f54, by kernel_rfl, of_decide_eq_true (by kernel_rfl), by kernel_rfl, c54_ok, by kernel_rfl, by kernel_rfl, by kernel_rfl, by kernel_rfl⟩
theorem ok55 : FnOK Tryz.prog 55 cf55 := ⟨Tryz.f55, bodyOf Tryz.f55, by kernel_rfl, of_decide_eq_true (by kernel_rfl), by kernel_rfl, c55_ok, by kernel_rfl, by kernel_rfl, by kernel_rfl, by kernel_rfl⟩
theorem ok56 : FnOK Tryz.prog 56 cf56 := ⟨Tryz.f56, bodyOf Tryz.f56, by kernel_rfl, of_decide_eq_true (by kernel_rfl), by kernel_rfl, c56_ok, by kernel_rfl, by kernel_rfl, by kernel_rfl, by kernel_rfl⟩
theorem ok57 : FnOK Tryz.prog 57 cf57 := ⟨Tryz.f57, bodyOf Tryz.f57, by kernel_rfl, of_decide_eq_true (by kernel_rfl), by kernel_rfl, c57_ok, by kernel_rfl, by kernel_rfl, by kernel_rfl, by kernel_rfl⟩
theorem ok58 : FnOK Tryz.prog 58 cf58 := ⟨Tryz.f58, bodyOf Tryz.f58, by kernel_rfl, of_decide_eq_true (by kernel_rfl), by kernel_rfl, c58_ok, by kernel_rfl, by kernel_rfl, by kernel_rfl, by kernel_rfl⟩
theorem ok59 : FnOK Tryz.prog 59 cf59 := ⟨Tryz.f59, bodyOf Tryz.f59, by kernel_rfl, of_decide_eq_true (by kernel_rfl), by kernel_rfl, c59_ok, by kernel_rfl, by kernel_rfl, by kernel_rfl, by kernel_rfl⟩
theorem ok60 : FnOK Tryz.prog 60 cf60 := ⟨Tryz.f60, bodyOf Tryz.f60, by kernel_rfl, of_decide_eq_true (by kernel_rfl), by kernel_rfl, c60_ok, by kernel_rfl, by kernel_rfl, by kernel_rfl, by kernel_rfl⟩
theorem ok61 : FnOK Tryz.prog 61 cf61 := ⟨Tryz.f61, bodyOf Tryz.f61, by kernel_rfl, of_decide_eq_true (by kernel_rfl), by kernel_rfl, c61_ok, by kernel_rfl, by kernel_rfl, by kernel_rfl, by kernel_rfl⟩
theorem ok62 : FnOK Tryz.prog 62 cf62 := ⟨Tryz.f62, bodyOf Tryz.f62, by kernel_rfl, of_decide_eq_true (by kernel_rfl), by kernel_rfl, c62_ok, by kernel_rfl, by kernel_rfl, by kernel_rfl, by kernel_rfl⟩
theorem ok63 : FnOK Tryz.prog 63 cf63 := ⟨Tryz.f63, bodyOf Tryz.f63, by kernel_rfl, of_decide_eq_true (by kernel_rfl), by kernel_rfl, c63_ok, by kernel_rfl, by kernel_rfl, by kernel_rfl, by kernel_rfl⟩
theorem ok64 : FnOK Tryz.prog 64 cf64 := ⟨Tryz.f64, bodyOf Tryz.f64, by kernel_rfl, of_decide_eq_true (by kernel_rfl), by kernel_rfl, c64_ok, by kernel_rfl, by kernel_rfl, by kernel_rfl, by kernel_rfl⟩
theorem ok65 : FnOK Tryz.prog 65 cf65 := ⟨Tryz.f65, bodyOf Tryz.f65, by kernel_rfl, of_decide_eq_true (by kernel_rfl), by kernel_rfl, c65_ok, by kernel_rfl, by kernel_rfl, by kernel_rfl, by kernel_rfl⟩
theorem ok66 : FnOK Tryz.prog 66 cf66 := ⟨Tryz.f66, bodyOf Tryz.f66, by kernel_rfl, of_decide_eq_true (by kernel_rfl), by kernel_rfl, c66_ok, by kernel_rfl, by kernel_rfl, by kernel_rfl, by kernel_rfl⟩
theorem ok67 : FnOK Tryz.prog 67 cf67 := ⟨Tryz.f67, bodyOf Tryz.f67, by kernel_rfl, of_decide_eq_true (by kernel_rfl), by kernel_rfl, c67_ok, by kernel_rfl, by kernel_rfl, by kernel_rfl, by kernel_rfl⟩
theorem ok68 : FnOK Tryz.prog 68 cf68 := ⟨Tryz.f68, bodyOf Tryz.f68, by kernel_rfl, of_decide_eq_true (by kernel_rfl), by kernel_rfl, c68_ok, by kernel_rfl, by kernel_rfl, by kernel_rfl, by kernel_rfl⟩
theorem ok69 : FnOK Tryz.prog 69 cf69 := ⟨Tryz.f69, bodyOf Tryz.f69, by kernel_rfl, of_decide_eq_true (by kernel_rfl), by kernel_rfl, c69_ok, by kernel_rfl, by kernel_rfl, by kernel_rfl, by kernel_rfl⟩
theorem ok73 : FnOK Tryz.prog 73 cf73 := ⟨Tryz.f73, bodyOf Tryz.f73, by kernel_rfl, of_decide_eq_true (by kernel_rfl), by kernel_rfl, c73_ok, by kernel_rfl, by kernel_rfl, by kernel_rfl, by kernel_rfl⟩
theorem ok74 : FnOK Tryz.prog 74 cf74 := ⟨Tryz.f74, bodyOf Tryz.f74, by kernel_rfl, of_decide_eq_true (by kernel_rfl), by kernel_rfl, c74_ok, by kernel_rfl, by kernel_rfl, by kernel_rfl, by kernel_rfl⟩
theorem ok87 : FnOK Tryz.prog 87 cf87 := ⟨Tryz.f87, bodyOf Tryz.f87, by kernel_rfl, of_decide_eq_true (by kernel_rfl), by kernel_rfl, c87_ok, by kernel_rfl, by kernel_rfl, by kernel_rfl, by kernel_rfl⟩
theorem ok88 : FnOK Tryz.prog 88 cf88 := ⟨Tryz.f88, bodyOf Tryz.f88, by kernel_rfl, of_decide_eq_true (by kernel_rfl), by kernel_rfl, c88_ok, by kernel_rfl, by kernel_rfl, by kernel_rfl, by kernel_rfl⟩
theorem ok89 : FnOK Tryz.prog 89 cf89 := ⟨Tryz.f89, bodyOf Tryz.f89, by kernel_rfl, of_decide_eq_true (by kernel_rfl), by kernel_rfl, c89_ok, by kernel_rfl, by kernel_rfl, by kernel_rfl, by kernel_rfl⟩
theorem ok90 : FnOK Tryz.prog 90 cf90 := ⟨Tryz.f90, bodyOf Tryz.f90, by kernel_rfl, of_decide_eq_true (by kernel_rfl), by kernel_rfl, c90_ok, by kernel_rfl, by kernel_rfl, by kernel_rfl, by kernel_rfl⟩
theorem ok91 : FnOK Tryz.prog 91 cf91 := ⟨Tryz.f91, bodyOf Tryz.f91, by kernel_rfl, of_decide_eq_true (by kernel_rfl), by kernel_rfl, c91_ok, by kernel_rfl, by kernel_rfl, by kernel_rfl, by kernel_rfl⟩
theorem ok92 : FnOK Tryz.prog 92 cf92 := ⟨Tryz.f92, bodyOf Tryz.f92, by kernel_rfl, of_decide_eq_true (by kernel_rfl), by kernel_rfl, c92_ok, by kernel_rfl, by kernel_rfl, by kernel_rfl, by kernel_rfl⟩
theorem ok93 : FnOK Tryz.prog 93 cf93 := ⟨Tryz.f93, bodyOf Tryz.f93, by kernel_rfl, of_decide_eq_true (by kernel_rfl), by kernel_rfl, c93_ok, by kernel_rfl, by kernel_rfl, by kernel_rfl, by kernel_rfl⟩
theorem ok94 : FnOK Tryz.prog 94 cf94 := ⟨Tryz.f94, bodyOf Tryz.f94, by kernel_rfl, of_decide_eq_true (by kernel_rfl), by kernel_rfl, c94_ok, by kernel_rfl, by kernel_rfl, by kernel_rfl, by kernel_rfl⟩
theorem ok95 : FnOK Tryz.prog 95 cf95 := ⟨Tryz.f95, bodyOf Tryz.f95, by kernel_rfl, of_decide_eq_true (by kernel_rfl), by kernel_rfl, c95_ok, by kernel_rfl, by kernel_rfl, by kernel_rfl, by kernel_rfl⟩
theorem ok96 : FnOK Tryz.prog 96 cf96 := ⟨Tryz.f96, bodyOf Tryz.f96, by kernel_rfl, of_decide_eq_true (by kernel_rfl), by kernel_rfl, c96_ok, by kernel_rfl, by kernel_rfl, by kernel_rfl, by kernel_rfl⟩
theorem ok101 : FnOK Tryz.prog 101 cf101 := ⟨Tryz.f101, bodyOf Tryz.f101, by kernel_rfl, of_decide_eq_true (by kernel_rfl), by kernel_rfl, c101_ok, by kernel_rfl, by kernel_rfl, by kernel_rfl, by kernel_rfl⟩
theorem ok102 : FnOK Tryz.prog 102 cf102 := ⟨Tryz.f102, bodyOf Tryz.f102, by kernel_rfl, of_decide_eq_true (by kernel_rfl), by kernel_rfl, c102_ok, by kernel_rfl, by kernel_rfl, by kernel_rfl, by kernel_rfl⟩
theorem ok103 : FnOK Tryz.prog 103 cf103 := ⟨Tryz.f103, bodyOf Tryz.f103, by kernel_rfl, of_decide_eq_true (by kernel_rfl), by kernel_rfl, c103_ok, by kernel_rfl, by kernel_rfl, by kernel_rfl, by kernel_rfl⟩
theorem ok104 : FnOK Tryz.prog 104 cf104 := ⟨Tryz.f104, bodyOf Tryz.f104, by kernel_rfl, of_decide_eq_true (by kernel_rfl), by kernel_rfl, c104_ok, by kernel_rfl, by kernel_rfl, by kernel_rfl, by kernel_rfl⟩
theorem ok105 : FnOK Tryz.prog 105 cf105 := ⟨Tryz.f105, bodyOf Tryz.f105, by kernel_rfl, of_decide_eq_true (by kernel_rfl), by kernel_rfl, c105_ok, by kernel_rfl, by kernel_rfl, by kernel_rfl, by kernel_rfl⟩
theorem ok106 : FnOK Tryz.prog 106 cf106 := ⟨Tryz.f106, bodyOf Tryz.f106, by kernel_rfl, of_decide_eq_true (by kernel_rfl), by kernel_rfl, c106_ok, by kernel_rfl, by kernel_rfl, by kernel_rfl, by kernel_rfl⟩
theorem ok107 : FnOK Tryz.prog 107 cf107 := ⟨Tryz.f107, bodyOf Tryz.f107, by kernel_rfl, of_decide_eq_true (by kernel_rfl), by kernel_rfl, c107_ok, by kernel_rfl, by kernel_rfl, by kernel_rfl, by kernel_rfl⟩
theorem ok108 : FnOK Tryz.prog 108 cf108 := ⟨Tryz.f108, bodyOf Tryz.f108, by kernel_rfl, of_decide_eq_true (by kernel_rfl), by kernel_rfl, c108_ok, by kernel_rfl, by kernel_rfl, by kernel_rfl, by kernel_rfl⟩
theorem ok109 : FnOK Tryz.prog 109 cf109 := ⟨Tryz.f109, bodyOf Tryz.f109, by kernel_rfl, of_decide_eq_true (by kernel_rfl), by kernel_rfl, c109_ok, by kernel_rfl, by kernel_rfl, by kernel_rfl, by kernel_rfl⟩
theorem ok110 : FnOK Tryz.prog 110 cf110 := ⟨Tryz.f110, bodyOf Tryz.f110, by kernel_rfl, of_decide_eq_true (by kernel_rfl), by kernel_rfl, c110_ok, by kernel_rfl, by kernel_rfl, by kernel_rfl, by kernel_rfl⟩
theorem ok111 : FnOK Tryz.prog 111 cf111 := ⟨Tryz.f111, bodyOf Tryz.f111, by kernel_rfl, of_decide_eq_true (by kernel_rfl), by kernel_rfl, c111_ok, by kernel_rfl, by kernel_rfl, by kernel_rfl, by kernel_rfl⟩
theorem ok112 : FnOK Tryz.prog 112 cf112 := ⟨Tryz.f112, bodyOf Tryz.f112, by kernel_rfl, of_decide_eq_true (by kernel_rfl), by kernel_rfl, c112_ok, by kernel_rfl, by kernel_rfl, by kernel_rfl, by kernel_rfl⟩
theorem ok113 : FnOK Tryz.prog 113 cf113 := ⟨Tryz.f113, bodyOf Tryz.f113, by kernel_rfl, of_decide_eq_true (by kernel_rfl), by kernel_rfl, c113_ok, by kernel_rfl, by kernel_rfl, by kernel_rfl, by kernel_rfl⟩
theorem ok114 : FnOK Tryz.prog 114 cf114 := ⟨Tryz.f114, bodyOf Tryz.f114, by kernel_rfl, of_decide_eq_true (by kernel_rfl), by kernel_rfl, c114_ok, by kernel_rfl, by kernel_rfl, by kernel_rfl, by kernel_rfl⟩
theorem ok115 : FnOK Tryz.prog 115 cf115 := ⟨Tryz.f115, bodyOf Tryz.f115, by kernel_rfl, of_decide_eq_true (by kernel_rfl), by kernel_rfl, c115_ok, by kernel_rfl, by kernel_rfl, by kernel_rfl, by kernel_rfl⟩
theorem ok116 : FnOK Tryz.prog 116 cf116 := ⟨Tryz.f116, bodyOf Tryz.f116, by kernel_rfl, of_decide_eq_true (by kernel_rfl), by kernel_rfl, c116_ok, by kernel_rfl, by kernel_rfl, by kernel_rfl, by kernel_rfl⟩
theorem ok117 : FnOK Tryz.prog 117 cf117 := ⟨Tryz.f117, bodyOf Tryz.f117, by kernel_rfl, of_decide_eq_true (by kernel_rfl), by kernel_rfl, c117_ok, by kernel_rfl, by kernel_rfl, by kernel_rfl, by kernel_rfl⟩
theorem ok118 : FnOK Tryz.prog 118 cf118 := ⟨Tryz.f118, bodyOf Tryz.f118, by kernel_rfl, of_decide_eq_true (by kernel_rfl), by kernel_rfl, c118_ok, by kernel_rfl, by kernel_rfl, by kernel_rfl, by kernel_rfl⟩
theorem ok121 : FnOK Tryz.prog 121 cf121 := ⟨Tryz.f121, bodyOf Tryz.f121, by kernel_rfl, of_decide_eq_true (by kernel_rfl), by kernel_rfl, c121_ok, by kernel_rfl, by kernel_rfl, by kernel_rfl, by kernel_rfl⟩
theorem ok122 : FnOK Tryz.prog 122 cf122 := ⟨Tryz.f122, bodyOf Tryz.f122, by kernel_rfl, of_decide_eq_true (by kernel_rfl), by kernel_rfl, c122_ok, by kernel_rfl, by kernel_rfl, by kernel_rfl, by kernel_rfl⟩
theorem ok131 : FnOK Tryz.prog 131 cf131 := ⟨Tryz.f131, bodyOf Tryz.f131, by kernel_rfl, of_decide_eq_true (by kernel_rfl), by kernel_rfl, c131_ok, by kernel_rfl, by kernel_rfl, by kernel_rfl, by kernel_rfl⟩
theorem ok132 : FnOK Tryz.prog 132 cf132 := ⟨Tryz.f132, bodyOf Tryz.f132, by kernel_rfl, of_decide_eq_true (by kernel_rfl), by kernel_rfl, c132_ok, by kernel_rfl, by kernel_rfl, by kernel_rfl, by kernel_rfl⟩
theorem ok133 : FnOK Tryz.prog 133 cf133 := ⟨Tryz.f133, bodyOf Tryz.f133, by kernel_rfl, of_decide_eq_true (by kernel_rfl), by kernel_rfl, c133_ok, by kernel_rfl, by kernel_rfl, by kernel_rfl, by kernel_rfl⟩
theorem ok134 : FnOK Tryz.prog 134 cf134 := ⟨Tryz.f134, bodyOf Tryz.f134, by kernel_rfl, of_decide_eq_true (by kernel_rfl), by kernel_rfl, c134_ok, by kernel_rfl, by kernel_rfl, by kernel_rfl, by kernel_rfl⟩
theorem ok135 : FnOK Tryz.prog 135 cf135 := ⟨Tryz.f135, bodyOf Tryz.f135, by kernel_rfl, of_decide_eq_true (by kernel_rfl), by kernel_rfl, c135_ok, by kernel_rfl, by kernel_rfl, by kernel_rfl, by kernel_rfl⟩
theorem ok136 : FnOK Tryz.prog 136 cf136 := ⟨Tryz.f136, bodyOf Tryz.f136, by kernel_rfl, of_decide_eq_true (by kernel_rfl), by kernel_rfl, c136_ok, by kernel_rfl, by kernel_rfl, by kernel_rfl, by kernel_rfl⟩
theorem ok137 : FnOK Tryz.prog 137 cf137 := ⟨Tryz.f137, bodyOf Tryz.f137, by kernel_rfl, of_decide_eq_true (by kernel_rfl), by kernel_rfl, c137_ok, by kernel_rfl, by kernel_rfl, by kernel_rfl, by kernel_rfl⟩
theorem ok138 : FnOK Tryz.prog 138 cf138 := ⟨Tryz.f138, bodyOf Tryz.f138, by kernel_rfl, of_decide_eq_true (by kernel_rfl), by kernel_rfl, c138_ok, by kernel_rfl, by kernel_rfl, by kernel_rfl, by kernel_rfl⟩
theorem ok139 : FnOK Tryz.prog 139 cf139 := ⟨Tryz.f139, bodyOf Tryz.f139, by kernel_rfl, of_decide_eq_true (by kernel_rfl), by kernel_rfl, c139_ok, by kernel_rfl, by kernel_rfl, by kernel_rfl, by kernel_rfl⟩
theorem ok140 : FnOK Tryz.prog 140 cf140 := ⟨Tryz.f140, bodyOf Tryz.f140, by kernel_rfl, of_decide_eq_true (by kernel_rfl), by kernel_rfl, c140_ok, by kernel_rfl, by kernel_rfl, by kernel_rfl, by kernel_rfl⟩
theorem ok141 : FnOK Tryz.prog 141 cf141 := ⟨Tryz.f141, bodyOf Tryz.f141, by kernel_rfl, of_decide_eq_true (by kernel_rfl), by kernel_rfl, c141_ok, by kernel_rfl, by kernel_rfl, by kernel_rfl, by kernel_rfl⟩
theorem ok142 : FnOK Tryz.prog 142 cf142 := ⟨Tryz.f142, bodyOf Tryz.f142, by kernel_rfl, of_decide_eq_true (by kernel_rfl), by kernel_rfl, c142_ok, by kernel_rfl, by kernel_rfl, by kernel_rfl, by kernel_rfl⟩
theorem ok143 : FnOK Tryz.prog 143 cf143 := ⟨Tryz.f143, bodyOf Tryz.f143, by kernel_rfl, of_decide_eq_true (by kernel_rfl), by kernel_rfl, c143_ok, by kernel_rfl, by kernel_rfl, by kernel_rfl, by kernel_rfl⟩
theorem ok144 : FnOK Tryz.prog 144 cf144 := ⟨Tryz.f144, bodyOf Tryz.f144, by kernel_rfl, of_decide_eq_true (by kernel_rfl), by kernel_rfl, c144_ok, by kernel_rfl, by kernel_rfl, by kernel_rfl, by kernel_rfl⟩
theorem ok145 : FnOK Tryz.prog 145 cf145 := ⟨Tryz.f145, bodyOf Tryz.f145, by kernel_rfl, of_decide_eq_true (by kernel_rfl), by kernel_rfl, c145_ok, by kernel_rfl, by kernel_rfl, by kernel_rfl, by kernel_rfl⟩
theorem ok147 : FnOK Tryz.prog 147 cf147 := ⟨Tryz.f147, bodyOf Tryz.f147, by kernel_rfl, of_decide_eq_true (by kernel_rfl), by kernel_rfl, c147_ok, by kernel_rfl, by kernel_rfl, by kernel_rfl, by kernel_rfl⟩
theorem ok149 : FnOK Tryz.prog 149 cf149 := ⟨Tryz.f149, bodyOf Tryz.f149, by kernel_rfl, of_decide_eq_true (by kernel_rfl), by kernel_rfl, c149_ok, by kernel_rfl, by kernel_rfl, by kernel_rfl, by kernel_rfl⟩
theorem ok150 : FnOK Tryz.prog 150 cf150 := ⟨Tryz.f150, bodyOf Tryz.f150, by kernel_rfl, of_decide_eq_true (by kernel_rfl), by kernel_rfl, c150_ok, by kernel_rfl, by kernel_rfl, by kernel_rfl, by kernel_rfl⟩
theorem ok151 : FnOK Tryz.prog 151 cf151 := ⟨Tryz.f151, bodyOf Tryz.f151, by kernel_rfl, of_decide_eq_true (by kernel_rfl), by kernel_rfl, c151_ok, by kernel_rfl, by kernel_rfl, by kernel_rfl, by kernel_rfl⟩
theorem ok152 : FnOK Tryz.prog 152 cf152 := ⟨Tryz.f152, bodyOf Tryz.f152, by kernel_rfl, of_decide_eq_true (by kernel_rfl), by kernel_rfl, c152_ok, by kernel_rfl, by kernel_rfl, by kernel_rfl, by kernel_rfl⟩
theorem ok153 : FnOK Tryz.prog 153 cf153 := ⟨Tryz.f153, bodyOf Tryz.f153, by kernel_rfl, of_decide_eq_true (by kernel_rfl), by kernel_rfl, c153_ok, by kernel_rfl, by kernel_rfl, by kernel_rfl, by kernel_rfl⟩
theorem ok154 : FnOK Tryz.prog 154 cf154 := ⟨Tryz.f154, bodyOf Tryz.f154, by kernel_rfl, of_decide_eq_true (by kernel_rfl), by kernel_rfl, c154_ok, by kernel_rfl, by kernel_rfl, by kernel_rfl, by kernel_rfl⟩
theorem ok155 : FnOK Tryz.prog 155 cf155 := ⟨Tryz.f155, bodyOf Tryz.f155, by kernel_rfl, of_decide_eq_true (by kernel_rfl), by kernel_rfl, c155_ok, by kernel_rfl, by kernel_rfl, by kernel_rfl, by kernel_rfl⟩
theorem ok156 : FnOK Tryz.prog 156 cf156 := ⟨Tryz.f156, bodyOf Tryz.f156, by kernel_rfl, of_decide_eq_true (by kernel_rfl), by kernel_rfl, c156_ok, by kernel_rfl, by kernel_rfl, by kernel_rfl, by kernel_rfl⟩
theorem ok157 : FnOK Tryz.prog 157 cf157 := ⟨Tryz.f157, bodyOf Tryz.f157, by kernel_rfl, of_decide_eq_true (by kernel_rfl), by kernel_rfl, c157_ok, by kernel_rfl, by kernel_rfl, by kernel_rfl, by kernel_rfl⟩
theorem ok158 : FnOK Tryz.prog 158 cf158 := ⟨Tryz.f158, bodyOf Tryz.f158, by kernel_rfl, of_decide_eq_true (by kernel_rfl), by kernel_rfl, c158_ok, by kernel_rfl, by kernel_rfl, by kernel_rfl, by kernel_rfl⟩
theorem ok159 : FnOK Tryz.prog 159 cf159 := ⟨Tryz.f159, bodyOf Tryz.f159, by kernel_rfl, of_decide_eq_true (by kernel_rfl), by kernel_rfl, c159_ok, by kernel_rfl, by kernel_rfl, by kernel_rfl, by kernel_rfl⟩
theorem ok160 : FnOK Tryz.prog 160 cf160 := ⟨Tryz.f160, bodyOf Tryz.f160, by kernel_rfl, of_decide_eq_true (by kernel_rfl), by kernel_rfl, c160_ok, by kernel_rfl, by kernel_rfl, by kernel_rfl, by kernel_rfl⟩
theorem ok161 : FnOK Tryz.prog 161 cf161 := ⟨Tryz.f161, bodyOf Tryz.f161, by kernel_rfl, of_decide_eq_true (by kernel_rfl), by kernel_rfl, c161_ok, by kernel_rfl, by kernel_rfl, by kernel_rfl, by kernel_rfl⟩
theorem ok162 : FnOK Tryz.prog 162 cf162 := ⟨Tryz.f162, bodyOf Tryz.f162, by kernel_rfl, of_decide_eq_true (by kernel_rfl), by kernel_rfl, c162_ok, by kernel_rfl, by kernel_rfl, by kernel_rfl, by kernel_rfl⟩
theorem ok163 : FnOK Tryz.prog 163 cf163 := ⟨Tryz.f163, bodyOf Tryz.f163, by kernel_rfl, of_decide_eq_true (by kernel_rfl), by kernel_rfl, c163_ok, by kernel_rfl, by kernel_rfl, by kernel_rfl, by kernel_rfl⟩
theorem ok164 : FnOK Tryz.prog 164 cf164 := ⟨Tryz.f164, bodyOf Tryz.f164, by kernel_rfl, of_decide_eq_true (by kernel_rfl), by kernel_rfl, c164_ok, by kernel_rfl, by kernel_rfl, by kernel_rfl, by kernel_rfl⟩
theorem ok170 : FnOK Tryz.prog 170 cf170 := ⟨Tryz.f170, bodyOf Tryz.f170, by kernel_rfl, of_decide_eq_true (by kernel_rfl), by kernel_rfl, c170_ok, by kernel_rfl, by kernel_rfl, by kernel_rfl, by kernel_rfl⟩
theorem ok171 : FnOK Tryz.prog 171 cf171 := ⟨Tryz.f171, bodyOf Tryz.f171, by kernel_rfl, of_decide_eq_true (by kernel_rfl), by kernel_rfl, c171_ok, by kernel_rfl, by kernel_rfl, by kernel_rfl, by kernel_rfl⟩
theorem ok172 : FnOK Tryz.prog 172 cf172 := ⟨Tryz.f172, bodyOf Tryz.f172, by kernel_rfl, of_decide_eq_true (by kernel_rfl), by kernel_rfl, c172_ok, by kernel_rfl, by kernel_rfl, by kernel_rfl, by kernel_rfl⟩
theorem ok173 : FnOK Tryz.prog 173 cf173 := ⟨Tryz.f173, bodyOf Tryz.f173, by kernel_rfl, of_decide_eq_true (by kernel_rfl), by kernel_rfl, c173_ok, by kernel_rfl, by kernel_rfl, by kernel_rfl, by kernel_rfl⟩
theorem ok174 : FnOK Tryz.prog 174 cf174 := ⟨Tryz.f174, bodyOf Tryz.f174, by kernel_rfl, of_decide_eq_true (by kernel_rfl), by kernel_rfl, c174_ok, by kernel_rfl, by kernel_rfl, by kernel_rfl, by kernel_rfl⟩
theorem ok175 : FnOK Tryz.prog 175 cf175 := ⟨Tryz.f175, bodyOf Tryz.f175, by kernel_rfl, of_decide_eq_true (by kernel_rfl), by kernel_rfl, c175_ok, by kernel_rfl, by kernel_rfl, by kernel_rfl, by kernel_rfl⟩
theorem ok178 : FnOK Tryz.prog 178 cf178 := ⟨Tryz.f178, bodyOf Tryz.f178, by kernel_rfl, of_decide_eq_true (by kernel_rfl), by kernel_rfl, c178_ok, by kernel_rfl, by kernel_rfl, by kernel_rfl, by kernel_rfl⟩
theorem ok179 : FnOK Tryz.prog 179 cf179 := ⟨Tryz.f179, bodyOf Tryz.f179, by kernel_rfl, of_decide_eq_true (by kernel_rfl), by kernel_rfl, c179_ok, by kernel_rfl, by kernel_rfl, by kernel_rfl, by kernel_rfl⟩
theorem ok180 : FnOK Tryz.prog 180 cf180 := ⟨Tryz.f180, bodyOf Tryz.f180, by kernel_rfl, of_decide_eq_true (by kernel_rfl), by kernel_rfl, c180_ok, by kernel_rfl, by kernel_rfl, by kernel_rfl, by kernel_rfl⟩
theorem ok181 : FnOK Tryz.prog 181 cf181 := ⟨Tryz.f181, bodyOf Tryz.f181, by kernel_rfl, of_decide_eq_true (by kernel_rfl), by kernel_rfl, c181_ok, by kernel_rfl, by kernel_rfl, by kernel_rfl, by kernel_rfl⟩
theorem ok184 : FnOK Tryz.prog 184 cf184 := ⟨Tryz.f184, bodyOf Tryz.f184, by kernel_rfl, of_decide_eq_true (by kernel_rfl), by kernel_rfl, c184_ok, by kernel_rfl, by kernel_rfl, by kernel_rfl, by kernel_rfl⟩
theorem ok185 : FnOK Tryz.prog 185 cf185 := ⟨Tryz.f185, bodyOf Tryz.f185, by kernel_rfl, of_decide_eq_true (by kernel_rfl), by kernel_rfl, c185_ok, by kernel_rfl, by kernel_rfl, by kernel_rfl, by kernel_rfl⟩
theorem ok186 : FnOK Tryz.prog 186 cf186 := ⟨Tryz.f186, bodyOf Tryz.f186, by kernel_rfl, of_decide_eq_true (by kernel_rfl), by kernel_rfl, c186_ok, by kernel_rfl, by kernel_rfl, by kernel_rfl, by kernel_rfl⟩
theorem ok187 : FnOK Tryz.prog 187 cf187 := ⟨Tryz.f187, bodyOf Tryz.f187, by kernel_rfl, of_decide_eq_true (by kernel_rfl), by kernel_rfl, c187_ok, by kernel_rfl, by kernel_rfl, by kernel_rfl, by kernel_rfl⟩
theorem ok188 : FnOK Tryz.prog 188 cf188 := ⟨Tryz.f188, bodyOf Tryz.f188, by kernel_rfl, of_decide_eq_true (by kernel_rfl), by kernel_rfl, c188_ok, by kernel_rfl, by kernel_rfl, by kernel_rfl, by kernel_rfl⟩
theorem ok189 : FnOK Tryz.prog 189 cf189 := ⟨Tryz.f189, bodyOf Tryz.f189, by kernel_rfl, of_decide_eq_true (by kernel_rfl), by kernel_rfl, c189_ok, by kernel_rfl, by kernel_rfl, by kernel_rfl, by kernel_rfl⟩
theorem ok190 : FnOK Tryz.prog 190 cf190 := ⟨Tryz.f190, bodyOf Tryz.f190, by kernel_rfl, of_decide_eq_true (by kernel_rfl), by kernel_rfl, c190_ok, by kernel_rfl, by kernel_rfl, by kernel_rfl, by kernel_rfl⟩
theorem ok191 : FnOK Tryz.prog 191 cf191 := ⟨Tryz.f191, bodyOf Tryz.f191, by kernel_rfl, of_decide_eq_true (by kernel_rfl), by kernel_rfl, c191_ok, by kernel_rfl, by kernel_rfl, by kernel_rfl, by kernel_rfl⟩
theorem ok192 : FnOK Tryz.prog 192 cf192 := ⟨Tryz.f192, bodyOf Tryz.f192, by kernel_rfl, of_decide_eq_true (by kernel_rfl), by kernel_rfl, c192_ok, by kernel_rfl, by kernel_rfl, by kernel_rfl, by kernel_rfl⟩
theorem ok193 : FnOK Tryz.prog 193 cf193 := ⟨Tryz.f193, bodyOf Tryz.f193, by kernel_rfl, of_decide_eq_true (by kernel_rfl), by kernel_rfl, c193_ok, by kernel_rfl, by kernel_rfl, by kernel_rfl, by kernel_rfl⟩
theorem ok196 : FnOK Tryz.prog 196 cf196 := ⟨Tryz.f196, bodyOf Tryz.f196, by kernel_rfl, of_decide_eq_true (by kernel_rfl), by kernel_rfl, c196_ok, by kernel_rfl, by kernel_rfl, by kernel_rfl, by kernel_rfl⟩
theorem ok200 : FnOK Tryz.prog 200 cf200 := ⟨Tryz.f200, bodyOf Tryz.f200, by kernel_rfl, of_decide_eq_true (by kernel_rfl), by kernel_rfl, c200_ok, by kernel_rfl, by kernel_rfl, by kernel_rfl, by kernel_rfl⟩
theorem ok201 : FnOK Tryz.prog 201 cf201 := ⟨Tryz.f201, bodyOf Tryz.f201, by kernel_rfl, of_decide_eq_true (by kernel_rfl), by kernel_rfl, c201_ok, by kernel_rfl, by kernel_rfl, by kernel_rfl, by kernel_rfl⟩
theorem ok202 : FnOK Tryz.prog 202 cf202 := ⟨Tryz.f202, bodyOf Tryz.f202, by kernel_rfl, of_decide_eq_true (by kernel_rfl), by kernel_rfl, c202_ok, by kernel_rfl, by kernel_rfl, by kernel_rfl, by kernel_rfl⟩
theorem ok203 : FnOK Tryz.prog 203 cf203 := ⟨Tryz.f203, bodyOf Tryz.f203, by kernel_rfl, of_decide_eq_true (by kernel_rfl), by kernel_rfl, c203_ok, by kernel_rfl, by kernel_rfl, by kernel_rfl, by kernel_rfl⟩
theorem ok204 : FnOK Tryz.prog 204 cf204 := ⟨Tryz.f204, bodyOf Tryz.f204, by kernel_rfl, of_decide_eq_true (by kernel_rfl), by kernel_rfl, c204_ok, by kernel_rfl, by kernel_rfl, by kernel_rfl, by kernel_rfl⟩
theorem ok207 : FnOK Tryz.prog 207 cf207 := ⟨Tryz.f207, bodyOf Tryz.f207, by kernel_rfl, of_decide_eq_true (by kernel_rfl), by kernel_rfl, c207_ok, by kernel_rfl, by kernel_rfl, by kernel_rfl, by kernel_rfl⟩
theorem ok208 : FnOK Tryz.prog 208 cf208 := ⟨Tryz.f208, bodyOf Tryz.f208, by kernel_rfl, of_decide_eq_true (by kernel_rfl), by kernel_rfl, c208_ok, by kernel_rfl, by kernel_rfl, by kernel_rfl, by kernel_rfl⟩
theorem tab_ok (ok99 : RowOK Tryz.prog 99 cf99) (ok146 : RowOK Tryz.prog 146 cf146) (ok148 : RowOK Tryz.prog 148 cf148) (ok176 : RowOK Tryz.prog 176 cf176) (ok177 : RowOK Tryz.prog 177 cf177) (ok182 : RowOK Tryz.prog 182 cf182) (ok183 : RowOK Tryz.prog 183 cf183) : ∀ p, p ∈ tab → RowOK Tryz.prog p.1 p.2 := by
 unfold tab
 refine List.forall_mem_cons.2 ⟨ok3, List.forall_mem_cons.2 ⟨ok4, List.forall_mem_cons.2 ⟨ok5, List.forall_mem_cons.2 ⟨ok7, List.forall_mem_cons.2 ⟨ok12, List.forall_mem_cons.2 ⟨ok13, List.forall_mem_cons.2 ⟨ok14, List.forall_mem_cons.2 ⟨ok15, List.forall_mem_cons.2 ⟨ok16, List.forall_mem_cons.2 ⟨ok17, List.forall_mem_cons.2 ⟨ok18, List.forall_mem_cons.2 ⟨ok19, List.forall_mem_cons.2 ⟨ok20, List.forall_mem_cons.2 ⟨ok21, List.forall_mem_cons.2 ⟨ok22, List.forall_mem_cons.2 ⟨ok32, List.forall_mem_cons.2 ⟨ok33, List.forall_mem_cons.2 ⟨ok34, List.forall_mem_cons.2 ⟨ok35, List.forall_mem_cons.2 ⟨ok47, List.forall_mem_cons.2 ⟨ok48, List.forall_mem_cons.2 ⟨ok49, List.forall_mem_cons.2 ⟨ok50, List.forall_mem_cons.2 ⟨ok51, List.forall_mem_cons.2 ⟨ok52, List.forall_mem_cons.2 ⟨ok53, List.forall_mem_cons.2 ⟨ok54, List.forall_mem_cons.2 ⟨ok55, List.forall_mem_cons.2 ⟨ok56, List.forall_mem_cons.2 ⟨ok57, List.forall_mem_cons.2 ⟨ok58, List.forall_mem_cons.2 ⟨ok59, List.forall_mem_cons.2 ⟨ok60, List.forall_mem_cons.2 ⟨ok61, List.forall_mem_cons.2 ⟨ok62, List.forall_mem_cons.2 ⟨ok63, List.forall_mem_cons.2 ⟨ok64, List.forall_mem_cons.2 ⟨ok65, List.forall_mem_cons.2 ⟨ok66, List.forall_mem_cons.2 ⟨ok67, List.forall_mem_cons.2 ⟨ok68, List.forall_mem_cons.2 ⟨ok69, List.forall_mem_cons.2 ⟨ok73, List.forall_mem_cons.2 ⟨ok74, List.forall_mem_cons.2 ⟨ok87, List.forall_mem_cons.2 ⟨ok88, List.forall_mem_cons.2 ⟨ok89, List.forall_mem_cons.2 ⟨ok90, List.forall_mem_cons.2 ⟨ok91, List.forall_mem_cons.2 ⟨ok92, List.forall_mem_cons.2 ⟨ok93, List.forall_mem_cons.2 ⟨ok94, List.forall_mem_cons.2 ⟨ok95, List.forall_mem_cons.2 ⟨ok96, List.forall_mem_cons.2 ⟨ok99, List.forall_mem_cons.2 ⟨ok101, List.forall_mem_cons.2 ⟨ok102, List.forall_mem_cons.2 ⟨ok103, List.forall_mem_cons.2 ⟨ok104, List.forall_mem_cons.2 ⟨ok105, List.forall_mem_cons.2 ⟨ok106, List.forall_mem_cons.2 ⟨ok107, List.forall_mem_cons.2 ⟨ok108, List.forall_mem_cons.2 ⟨ok109, List.forall_mem_cons.2 ⟨ok110, List.forall_mem_cons.2 ⟨ok111, List.forall_mem_cons.2 ⟨ok112, List.forall_mem_cons.2 ⟨ok113, List.forall_mem_cons.2 ⟨ok114, List.forall_mem_cons.2 ⟨ok115, List.forall_mem_cons.2 ⟨ok116, List.forall_mem_cons.2 ⟨ok117, List.forall_mem_cons.2 ⟨ok118, List.forall_mem_cons.2 ⟨ok121, List.forall_mem_cons.2 ⟨ok122, List.forall_mem_cons.2 ⟨ok131, List.forall_mem_cons.2 ⟨ok132, List.forall_mem_cons.2 ⟨ok133, List.forall_mem_cons.2 ⟨ok134, List.forall_mem_cons.2 ⟨ok135, List.forall_mem_cons.2 ⟨ok136, List.forall_mem_cons.2 ⟨ok137, List.forall_mem_cons.2 ⟨ok138, List.forall_mem_cons.2 ⟨ok139, List.forall_mem_cons.2 ⟨ok140, List.forall_mem_cons.2 ⟨ok141, List.forall_mem_cons.2 ⟨ok142, List.forall_mem_cons.2 ⟨ok143, List.forall_mem_cons.2 ⟨ok144, List.forall_mem_cons.2 ⟨ok145, List.forall_mem_cons.2 ⟨ok146, List.forall_mem_cons.2 ⟨ok147, List.forall_mem_cons.2 ⟨ok148, List.forall_mem_cons.2 ⟨ok149, List.forall_mem_cons.2 ⟨ok150, List.forall_mem_cons.2 ⟨ok151, List.forall_mem_cons.2 ⟨ok152, List.forall_mem_cons.2 ⟨ok153, List.forall_mem_cons.2 ⟨ok154, List.forall_mem_cons.2 ⟨ok155, List.forall_mem_cons.2 ⟨ok156, List.forall_mem_cons.2 ⟨ok157, List.forall_mem_cons.2 ⟨ok158, List.forall_mem_cons.2 ⟨ok159, List.forall_mem_cons.2 ⟨ok160, List.forall_mem_cons.2 ⟨ok161, List.forall_mem_cons.2 ⟨ok162, List.forall_mem_cons.2 ⟨ok163, List.forall_mem_cons.2 ⟨ok164, List.forall_mem_cons.2 ⟨ok170, List.forall_mem_cons.2 ⟨ok171, List.forall_mem_cons.2 ⟨ok172, List.forall_mem_cons.2 ⟨ok173, List.forall_mem_cons.2 ⟨ok174, List.forall_mem_cons.2 ⟨ok175, List.forall_mem_cons.2 ⟨ok176, List.forall_mem_cons.2 ⟨ok177, List.forall_mem_cons.2 ⟨ok178, List.forall_mem_cons.2 ⟨ok179, List.forall_mem_cons.2 ⟨ok180, List.forall_mem_cons.2 ⟨ok181, List.forall_mem_cons.2 ⟨ok182, List.forall_mem_cons.2 ⟨ok183, List.forall_mem_cons.2 ⟨ok184, List.forall_mem_cons.2 ⟨ok185, List.forall_mem_cons.2 ⟨ok186, List.forall_mem_cons.2 ⟨ok187, List.forall_mem_cons.2 ⟨ok188, List.forall_mem_cons.2 ⟨ok189, List.forall_mem_cons.2 ⟨ok190, List.forall_mem_cons.2 ⟨ok191, List.forall_mem_cons.2 ⟨ok192, List.forall_mem_cons.2 ⟨ok193, List.forall_mem_cons.2 ⟨ok196, List.forall_mem_cons.2 ⟨ok200, List.forall_mem_cons.2 ⟨ok201, List.forall_mem_cons.2 ⟨ok202, List.forall_mem_cons.2 ⟨ok203, List.forall_mem_cons.2 ⟨ok204, List.forall_mem_cons.2 ⟨ok207, List.forall_mem_cons.2 ⟨ok208, fun _ h => absurd h List.not_mem_nil⟩⟩⟩⟩⟩⟩⟩⟩⟩⟩⟩⟩⟩⟩⟩⟩⟩⟩⟩⟩⟩⟩⟩⟩⟩⟩⟩⟩⟩⟩⟩⟩⟩⟩⟩⟩⟩⟩⟩⟩⟩⟩⟩⟩⟩⟩⟩⟩⟩⟩⟩⟩⟩⟩⟩⟩⟩⟩⟩⟩⟩⟩⟩⟩⟩⟩⟩⟩⟩⟩⟩⟩⟩⟩⟩⟩⟩⟩⟩⟩⟩⟩⟩⟩⟩⟩⟩⟩⟩⟩⟩⟩⟩⟩⟩⟩⟩⟩⟩⟩⟩⟩⟩⟩⟩⟩⟩⟩⟩⟩⟩⟩⟩⟩⟩⟩⟩⟩⟩⟩⟩⟩⟩⟩⟩⟩⟩⟩⟩⟩⟩⟩⟩⟩⟩⟩⟩⟩⟩⟩⟩
end Go.Gn

namespace Go.Gn
open Go Go.RowKit Go.Proofs Go.Shelf
set_option linter.unusedVariables false
set_option linter.unusedSimpArgs false
theorem X.mixed : Tryz.prog.follows .mixedOrders = true := by kernel_rfl
set_option maxHeartbeats 2000000 in
set_option maxRecDepth 100000 in
theorem clone182_some (a : Addr) (n c : Nat) (news : List Value) (w : World) (hl : news.length = n * 2) (hnews : ∀ j u, news[j]? = some u → w.cell? (a.add j) = some u) (h1 : ∀ u ∈ news, u.oneCell' = true) (hbig : n * 24 ≤ 140737488355328) :
  Calls Tryz.prog 182 #[.slice (some a) n c] w fun e w' => ∃ v', e = .returned v' ∧ w'.ownsRow w.heap.size 134 2 v' n news ∧ v' ≠ .slice none 0 0 ∧ Below w.heap.size w w' := by
 have mixed := X.mixed
 have hin : (Tryz.prog.info? 134).map (fun i => (i.zero, i.size, i.bytes)) = some (some (.agg #[.string ⟨#[]⟩, .int .i64 0] : Value), 2, 24) := by kernel_rfl
 obtain ⟨i0, hi, hz⟩ := Option.map_eq_some_iff.1 hin
 have hz0 : i0.zero = some (.agg #[.string ⟨#[]⟩, .int .i64 0] : Value) := congrArg Prod.fst hz
 have hz1 : i0.size = 2 := congrArg (fun x => x.2.1) hz
 have hz2 : i0.bytes = 24 := congrArg (fun x => x.2.2) hz
 have ht := Tryz.underlying51
 have q : ∀ (w : World) (a : Option Addr) (n c n' c' : Nat), (binOp .eql 51 (.slice a n c) (.slice none n' c')).run Tryz.prog w = .ok (.bool a.isNone) w := fun w a n c n' c' => Lib.run_eql_slice_nil w _ _ a n c n' c' ht
 have A : True → (∀ j u, news[j]? = some u → w.cell? (a.add j) = some u) := fun _ => hnews
 clear hnews
 go_enter Tryz.func182, Tryz.ntmps182
 go_wp2_with (at_builtin; refine wpList_append_own _ rfl _ _ 51 rfl w.heap.size 134 i0 (.agg #[.string ⟨#[]⟩, .int .i64 0]) 2 24 ht hi hz0 hz1 hz2 rfl (by decide) _ _ _ rfl (World.ownsRow_made w #[] 0 (Nat.le_refl _) (Nat.zero_le _) rfl) a n c news rfl ?qc1 ?qc2 ?qc3 ?qc4 ?qc5 ?qc6 ?_)
 case qc1 => exact hl
 case qc2 =>
  intro j u hj
  exact Lib.cell?_alloc_some _ (A trivial j u hj)
 case qc3 => exact h1
 case qc4 => unfold maxLen; omega
 case qc5 => omega
 case qc6 => simp
 intro v' w1 hown hgrow hnil
 go_wp2
 go_ret
 refine ⟨v', rfl, by simpa using hown, ?_, ?_⟩
 ·exact hnil
 ·exact ((Below.refl _ w).alloc (Nat.le_refl _) _).grown hgrow (by simp) (by intro k hk; simp [Value.ownBlock] at hk; omega)
set_option maxHeartbeats 1000000 in
theorem clone182_nil (n c : Nat) (w : World) : Calls Tryz.prog 182 #[.slice none n c] w fun e w' => e = .returned (.slice none 0 0) ∧ w' = w := by
 have mixed := X.mixed
 have q : ∀ (w : World) (a : Option Addr) (n c n' c' : Nat), (binOp .eql 51 (.slice a n c) (.slice none n' c')).run Tryz.prog w = .ok (.bool a.isNone) w := fun w a n c n' c' => Lib.run_eql_slice_nil w _ _ a n c n' c' Tryz.underlying51
 go_enter Tryz.func182, Tryz.ntmps182
 go_wp2
 go_ret
 exact ⟨rfl, rfl⟩
set_option maxHeartbeats 2000000 in
set_option maxRecDepth 100000 in
theorem clone146_some (a : Addr) (n c : Nat) (news : List Value) (w : World) (hl : news.length = n * 1) (hnews : ∀ j u, news[j]? = some u → w.cell? (a.add j) = some u) (h1 : ∀ u ∈ news, u.oneCell' = true) (hbig : n * 8 ≤ 140737488355328) :
  Calls Tryz.prog 146 #[.slice (some a) n c] w fun e w' => ∃ v', e = .returned v' ∧ w'.ownsRow w.heap.size 3 1 v' n news ∧ v' ≠ .slice none 0 0 ∧ Below w.heap.size w w' := by
 have mixed := X.mixed
 have hin : (Tryz.prog.info? 3).map (fun i => (i.zero, i.size, i.bytes)) = some (some (.int .i64 0 : Value), 1, 8) := by kernel_rfl
 obtain ⟨i0, hi, hz⟩ := Option.map_eq_some_iff.1 hin
 have hz0 : i0.zero = some (.int .i64 0 : Value) := congrArg Prod.fst hz
 have hz1 : i0.size = 1 := congrArg (fun x => x.2.1) hz
 have hz2 : i0.bytes = 8 := congrArg (fun x => x.2.2) hz
 have ht := Tryz.underlying128
 have q : ∀ (w : World) (a : Option Addr) (n c n' c' : Nat), (binOp .eql 128 (.slice a n c) (.slice none n' c')).run Tryz.prog w = .ok (.bool a.isNone) w := fun w a n c n' c' => Lib.run_eql_slice_nil w _ _ a n c n' c' ht
 have A : True → (∀ j u, news[j]? = some u → w.cell? (a.add j) = some u) := fun _ => hnews
 clear hnews
 go_enter Tryz.func146, Tryz.ntmps146
 go_wp2_with (at_builtin; refine wpList_append_own _ rfl _ _ 128 rfl w.heap.size 3 i0 (.int .i64 0) 1 8 ht hi hz0 hz1 hz2 rfl (by decide) _ _ _ rfl (World.ownsRow_made w #[] 0 (Nat.le_refl _) (Nat.zero_le _) rfl) a n c news rfl ?qc1 ?qc2 ?qc3 ?qc4 ?qc5 ?qc6 ?_)
 case qc1 => exact hl
 case qc2 =>
  intro j u hj
  exact Lib.cell?_alloc_some _ (A trivial j u hj)
 case qc3 => exact h1
 case qc4 => unfold maxLen; omega
 case qc5 => omega
 case qc6 => simp
 intro v' w1 hown hgrow hnil
 go_wp2
 go_ret
 refine ⟨v', rfl, by simpa using hown, ?_, ?_⟩
 ·exact hnil
 ·exact ((Below.refl _ w).alloc (Nat.le_refl _) _).grown hgrow (by simp) (by intro k hk; simp [Value.ownBlock] at hk; omega)
set_option maxHeartbeats 1000000 in
theorem clone146_nil (n c : Nat) (w : World) : Calls Tryz.prog 146 #[.slice none n c] w fun e w' => e = .returned (.slice none 0 0) ∧ w' = w := by
 have mixed := X.mixed
 have q : ∀ (w : World) (a : Option Addr) (n c n' c' : Nat), (binOp .eql 128 (.slice a n c) (.slice none n' c')).run Tryz.prog w = .ok (.bool a.isNone) w := fun w a n c n' c' => Lib.run_eql_slice_nil w _ _ a n c n' c' Tryz.underlying128
 go_enter Tryz.func146, Tryz.ntmps146
 go_wp2
 go_ret
 exact ⟨rfl, rfl⟩
set_option maxHeartbeats 2000000 in
set_option maxRecDepth 100000 in
theorem clone99_some (a : Addr) (n c : Nat) (news : List Value) (w : World) (hl : news.length = n * 5) (hnews : ∀ j u, news[j]? = some u → w.cell? (a.add j) = some u) (h1 : ∀ u ∈ news, u.oneCell' = true) (hbig : n * 64 ≤ 140737488355328) :
  Calls Tryz.prog 99 #[.slice (some a) n c] w fun e w' => ∃ v', e = .returned v' ∧ w'.ownsRow w.heap.size 27 5 v' n news ∧ v' ≠ .slice none 0 0 ∧ Below w.heap.size w w' := by
 have mixed := X.mixed
 have hin : (Tryz.prog.info? 27).map (fun i => (i.zero, i.size, i.bytes)) = some (some (.agg #[.int .i64 0, .string ⟨#[]⟩, .string ⟨#[]⟩, .int .i64 0, .string ⟨#[]⟩] : Value), 5, 64) := by kernel_rfl
 obtain ⟨i0, hi, hz⟩ := Option.map_eq_some_iff.1 hin
 have hz0 : i0.zero = some (.agg #[.int .i64 0, .string ⟨#[]⟩, .string ⟨#[]⟩, .int .i64 0, .string ⟨#[]⟩] : Value) := congrArg Prod.fst hz
 have hz1 : i0.size = 5 := congrArg (fun x => x.2.1) hz
 have hz2 : i0.bytes = 64 := congrArg (fun x => x.2.2) hz
 have ht := Tryz.underlying23
 have q : ∀ (w : World) (a : Option Addr) (n c n' c' : Nat), (binOp .eql 23 (.slice a n c) (.slice none n' c')).run Tryz.prog w = .ok (.bool a.isNone) w := fun w a n c n' c' => Lib.run_eql_slice_nil w _ _ a n c n' c' ht
 have A : True → (∀ j u, news[j]? = some u → w.cell? (a.add j) = some u) := fun _ => hnews
 clear hnews
 go_enter Tryz.func99, Tryz.ntmps99
 go_wp2_with (at_builtin; refine wpList_append_own _ rfl _ _ 23 rfl w.heap.size 27 i0 (.agg #[.int .i64 0, .string ⟨#[]⟩, .string ⟨#[]⟩, .int .i64 0, .string ⟨#[]⟩]) 5 64 ht hi hz0 hz1 hz2 rfl (by decide) _ _ _ rfl (World.ownsRow_made w #[] 0 (Nat.le_refl _) (Nat.zero_le _) rfl) a n c news rfl ?qc1 ?qc2 ?qc3 ?qc4 ?qc5 ?qc6 ?_)
 case qc1 => exact hl
 case qc2 =>
  intro j u hj
  exact Lib.cell?_alloc_some _ (A trivial j u hj)
 case qc3 => exact h1
 case qc4 => unfold maxLen; omega
 case qc5 => omega
 case qc6 => simp
 intro v' w1 hown hgrow hnil
 go_wp2
 go_ret
 refine ⟨v', rfl, by simpa using hown, ?_, ?_⟩
 ·exact hnil
 ·exact ((Below.refl _ w).alloc (Nat.le_refl _) _).grown hgrow (by simp) (by intro k hk; simp [Value.ownBlock] at hk; omega)
set_option maxHeartbeats 1000000 in
theorem clone99_nil (n c : Nat) (w : World) : Calls Tryz.prog 99 #[.slice none n c] w fun e w' => e = .returned (.slice none 0 0) ∧ w' = w := by
 have mixed := X.mixed
 have q : ∀ (w : World) (a : Option Addr) (n c n' c' : Nat), (binOp .eql 23 (.slice a n c) (.slice none n' c')).run Tryz.prog w = .ok (.bool a.isNone) w := fun w a n c n' c' => Lib.run_eql_slice_nil w _ _ a n c n' c' Tryz.underlying23
 go_enter Tryz.func99, Tryz.ntmps99
 go_wp2
 go_ret
 exact ⟨rfl, rfl⟩
set_option maxHeartbeats 2000000 in
set_option maxRecDepth 100000 in
theorem clone183_some (a : Addr) (n c : Nat) (news : List Value) (w : World) (hl : news.length = n * 2) (hnews : ∀ j u, news[j]? = some u → w.cell? (a.add j) = some u) (h1 : ∀ u ∈ news, u.oneCell' = true) (hbig : n * 40 ≤ 140737488355328) :
  Calls Tryz.prog 183 #[.slice (some a) n c] w fun e w' => ∃ v', e = .returned v' ∧ w'.ownsRow w.heap.size 132 2 v' n news ∧ v' ≠ .slice none 0 0 ∧ Below w.heap.size w w' := by
 have mixed := X.mixed
 have hin : (Tryz.prog.info? 132).map (fun i => (i.zero, i.size, i.bytes)) = some (some (.agg #[.string ⟨#[]⟩, .slice none 0 0] : Value), 2, 40) := by kernel_rfl
 obtain ⟨i0, hi, hz⟩ := Option.map_eq_some_iff.1 hin
 have hz0 : i0.zero = some (.agg #[.string ⟨#[]⟩, .slice none 0 0] : Value) := congrArg Prod.fst hz
 have hz1 : i0.size = 2 := congrArg (fun x => x.2.1) hz
 have hz2 : i0.bytes = 40 := congrArg (fun x => x.2.2) hz
 have ht := Tryz.underlying52
 have q : ∀ (w : World) (a : Option Addr) (n c n' c' : Nat), (binOp .eql 52 (.slice a n c) (.slice none n' c')).run Tryz.prog w = .ok (.bool a.isNone) w := fun w a n c n' c' => Lib.run_eql_slice_nil w _ _ a n c n' c' ht
 have A : True → (∀ j u, news[j]? = some u → w.cell? (a.add j) = some u) := fun _ => hnews
 clear hnews
 go_enter Tryz.func183, Tryz.ntmps183
 go_wp2_with (at_builtin; refine wpList_append_own _ rfl _ _ 52 rfl w.heap.size 132 i0 (.agg #[.string ⟨#[]⟩, .slice none 0 0]) 2 40 ht hi hz0 hz1 hz2 rfl (by decide) _ _ _ rfl (World.ownsRow_made w #[] 0 (Nat.le_refl _) (Nat.zero_le _) rfl) a n c news rfl ?qc1 ?qc2 ?qc3 ?qc4 ?qc5 ?qc6 ?_)
 case qc1 => exact hl
 case qc2 =>
  intro j u hj
  exact Lib.cell?_alloc_some _ (A trivial j u hj)
 case qc3 => exact h1
 case qc4 => unfold maxLen; omega
 case qc5 => omega
 case qc6 => simp
 intro v' w1 hown hgrow hnil
 go_wp2
 go_ret
 refine ⟨v', rfl, by simpa using hown, ?_, ?_⟩
 ·exact hnil
 ·exact ((Below.refl _ w).alloc (Nat.le_refl _) _).grown hgrow (by simp) (by intro k hk; simp [Value.ownBlock] at hk; omega)
set_option maxHeartbeats 1000000 in
theorem clone183_nil (n c : Nat) (w : World) : Calls Tryz.prog 183 #[.slice none n c] w fun e w' => e = .returned (.slice none 0 0) ∧ w' = w := by
 have mixed := X.mixed
 have q : ∀ (w : World) (a : Option Addr) (n c n' c' : Nat), (binOp .eql 52 (.slice a n c) (.slice none n' c')).run Tryz.prog w = .ok (.bool a.isNone) w := fun w a n c n' c' => Lib.run_eql_slice_nil w _ _ a n c n' c' Tryz.underlying52
 go_enter Tryz.func183, Tryz.ntmps183
 go_wp2
 go_ret
 exact ⟨rfl, rfl⟩
end Go.Gn

namespace Go.Gn
open Go Go.RowKit Go.Proofs Go.Shelf
set_option linter.unusedVariables false
set_option linter.unusedSimpArgs false
theorem scrub_any {S S' : Nat → Prop} {w w' : World} {d : D} {v : Value} (h : RepD S w d v) : RepD S' w' d.scrub v := by
 cases h with
 | int k n => exact .int k n
 | bool b => exact .bool b
 | str s => exact .str s
 | nil A c => exact .top _ rfl
 | sl xs b off sz cap f hne hb hc hcell hrep => exact .top _ rfl
 | top v h => exact .top v h
theorem aft_row {c : Cx} {w w' : World} (hst : Store w c [] w) (hdom : ∀ q, c.μ q ≠ none → q < 0) (hB : Below w.heap.size w w') {blk : Option Nat} {sz n cap c0 : Nat} {ys : List (List D)}
  (hg : ∀ g, blk = some g → w.heap.size ≤ g ∧ g < w'.heap.size)
  (hrow : Ext c w { c with μ := fun q => if q = 0 then some ⟨blk, sz, n, cap, fun _ => none⟩ else none } w' → RepRow c.imm w' ⟨blk, sz, n, cap, fun _ => none⟩ sz 0 c0 ys) :
  ∃ c', Aft w c 0 (.hw 0) [.row sz 0 c0 ys] (.slice (blk.map mk0) n cap) w' c' := by
 have hmu : ∀ q, c.μ q = none := fun q => by
  cases h : c.μ q with
  | none => rfl
  | some m => exact absurd (hdom q (by rw [h]; simp)) (Nat.not_lt_zero _)
 let m0 : Meta := ⟨blk, sz, n, cap, fun _ => none⟩
 let c' : Cx := { c with μ := fun q => if q = 0 then some m0 else none }
 have own : ∀ o l b, Owns c'.μ [.row sz 0 c0 ys] o l b → o = 0 ∧ l = none ∧ blk = some b := by
  rintro o l b ⟨m, hm, ho⟩
  by_cases h0 : o = 0
  ·subst h0
   simp only [c', if_true, Option.some.injEq] at hm
   subst hm
   cases l with
   | none => exact ⟨rfl, rfl, ho⟩
   | some j => exact absurd ho.1 (Nat.not_lt_zero _)
  ·simp only [c', h0, if_false] at hm; cases hm
 obtain ⟨s1, s2⟩ := hst.step (c' := c') (os' := [.row sz 0 c0 ys]) (w' := w') (fun _ => False) ⟨rfl, rfl⟩ (fun _ h => h) (fun _ h => .inl h) (fun o m hm => by rw [hmu] at hm; cases hm)
  hB.size ⟨hB.os, hB.tape, hB.output⟩ (fun b hb _ => hB.block b hb) (fun _ h => h.elim)
  (fun e o x hx hne => by
   cases o with
   | zero =>
    have hx : Obj.row sz 0 c0 ys = x := hx
    subst hx
    exact .inl ⟨m0, by simp [c'], hrow e⟩
   | succ o => exact absurd hx.symm (by simpa using hne))
  (fun o l o' l' b h1 h2 => by
   obtain ⟨a1, a2, _⟩ := own _ _ _ h1
   obtain ⟨b1, b2, _⟩ := own _ _ _ h2
   exact ⟨a1.trans b1.symm, a2.trans b2.symm⟩)
  (fun o l b h1 => by
   obtain ⟨_, _, h2⟩ := own _ _ _ h1
   obtain ⟨g1, g2⟩ := hg b h2
   refine ⟨g2, fun h => ?_, fun h => ?_, fun h => ?_⟩
   ·have := hst.immlt b h; omega
   ·have := hst.fixlt b h; omega
   ·have := hst.othlt b h; omega)
  (fun b hb => Nat.lt_of_lt_of_le (hst.immlt b hb) hB.size) hst.fixlt
 refine ⟨c', s1, rfl, rfl, fun _ h => h, fun o ho => absurd ho (Nat.not_lt_zero _), fun q hq => ?_, fun q hq => absurd hq (Nat.not_lt_zero _), s2.kf, s2.ki, s2.ko, Nat.zero_le _, ?_, rfl, fun q => ?_⟩
 ·by_cases h0 : q = 0
  ·subst h0; simp
  ·simp only [c', h0, if_false] at hq; exact absurd rfl hq
 ·exact .hw 0 m0 (by simp [c'])
 ·cases q with
  | zero => rfl
  | succ q => simp [Obj.noBr]
theorem cloneD_get {m : Md} {xs : List (List D)} {j : Nat} {el : List D} (h : (cloneD m xs)[j]? = some el) : ∃ el0 : List D, xs[j]? = some el0 ∧ el.length = el0.length ∧ ∀ (i : Nat) (d : D), el[i]? = some d → ∃ d0 : D, el0[i]? = some d0 ∧ (m = .sh ∧ d = d0 ∨ m = .br ∧ d = d0.scrub) := by
 cases m with
 | sh => exact ⟨el, h, rfl, fun i d hd => ⟨d, hd, .inl ⟨rfl, rfl⟩⟩⟩
 | br =>
  simp only [cloneD, List.getElem?_map, Option.map_eq_some_iff] at h
  obtain ⟨el0, h0, rfl⟩ := h
  refine ⟨el0, h0, by simp, fun i d hd => ?_⟩
  simp only [List.getElem?_map, Option.map_eq_some_iff] at hd
  obtain ⟨d0, hd0, rfl⟩ := hd
  exact ⟨d0, hd0, .inr ⟨rfl, rfl⟩⟩
theorem cloneD_length (m : Md) (xs : List (List D)) : (cloneD m xs).length = xs.length := by cases m <;> simp [cloneD]
theorem good_clone {P : Program} {f sz bytes c0 e : Nat} (hsz : 0 < sz)
  (hsome : ∀ (a : Addr) (n c : Nat) (news : List Value) (w : World), news.length = n * sz → (∀ (j : Nat) (u : Value), news[j]? = some u → w.cell? (a.add j) = some u) → (∀ u ∈ news, u.oneCell' = true) → n * bytes ≤ 140737488355328 →
   Calls P f #[.slice (some a) n c] w fun en w' => ∃ v', en = .returned v' ∧ w'.ownsRow w.heap.size e sz v' n news ∧ v' ≠ .slice none 0 0 ∧ Below w.heap.size w w')
  (hnil : ∀ (n c : Nat) (w : World), Calls P f #[.slice none n c] w fun en w' => en = .returned (.slice none 0 0) ∧ w' = w) : Good P (fun _ => cloneX sz bytes c0) f false := by
 unfold Good
 rw [if_neg (by simp)]
 intro args os r os' h c w vals hst hdom hvals
 simp only [cloneX] at h
 split at h
 rotate_left
 ·cases h
 rename_i m xs
 split at h
 rotate_left
 ·cases h
 rename_i hc
 obtain ⟨hok, hbig⟩ := hc
 cases h
 cases hvals with
 | cons _ v _ vs hv hvs =>
 cases hvs
 have hv : RepD (c.set m) w (.sl xs) v := by cases hv with | sl _ _ _ h => exact h
 have fin : ∀ (a : Addr) (n cap : Nat) (news : List Value), n = xs.length → news.length = n * sz → (∀ (j : Nat) (u : Value), news[j]? = some u → w.cell? (a.add j) = some u) →
   (∀ (j : Nat) (el : List D) (i : Nat) (d : D), xs[j]? = some el → el[i]? = some d → ∃ u, news[j * sz + i]? = some u ∧ RepD (c.set m) w d u) → (∀ el ∈ xs, el.length = sz) → (∀ u ∈ news, u.oneCell' = true) →
   Calls P f #[.slice (some a) n cap] w (retB fun v w' => ∃ c', Aft w c 0 (.hw 0) [.row sz 0 c0 (cloneD m xs)] v w' c') := by
  intro a n cap news hn hl hcells hrep hlen h1
  refine (hsome a n cap news w hl hcells h1 (by rw [hn]; exact hbig)).mono ?_
  rintro en w' ⟨v', rfl, hown, hnn, hB⟩
  rcases hown.2 with ⟨h0, _⟩ | ⟨g, cap', cur, rfl, hbg, hh, hnc, hcm, hcs, htake⟩
  ·exact absurd h0 hnn
  refine aft_row (blk := some g) hst hdom hB (fun g' hg' => by cases hg'; exact ⟨hbg, (Array.getElem?_eq_some_iff.1 hh).1⟩) fun ext => ?_
  refine ⟨rfl, by rw [cloneD_length]; exact hn, hnc, ⟨Nat.zero_le _, fun _ _ _ => rfl⟩, (fun h => by cases h), fun el hel => ?_, fun b hb => ?_⟩
  ·obtain ⟨j, hj⟩ := List.getElem?_of_mem hel
   obtain ⟨el0, h0, hle, _⟩ := cloneD_get hj
   rw [hle]; exact hlen el0 (List.mem_of_getElem? h0)
  ·cases hb
   refine ⟨cur, e, hh, hcs, fun j el i d hj hi => ?_⟩
   obtain ⟨el0, h0, hle, hd⟩ := cloneD_get hj
   obtain ⟨d0, hd0, hdd⟩ := hd i d hi
   obtain ⟨u, hu, hru⟩ := hrep j el0 i d0 h0 hd0
   refine ⟨u, ?_, ?_⟩
   ·rw [← htake, List.getElem?_take] at hu
    split at hu
    ·simpa using hu
    ·cases hu
   ·rw [if_neg (by omega)]
    rcases hdd with ⟨rfl, rfl⟩ | ⟨rfl, rfl⟩
    ·exact hru.mono ext.ki (fun _ h => h)
    ·exact scrub_any hru
 cases hv with
 | nil A cc =>
  cases A with
  | none =>
   refine (hnil 0 cc w).mono ?_
   rintro en w' ⟨rfl, rfl⟩
   refine aft_row (blk := none) hst hdom (Below.refl _ _) (fun g hg => by cases hg) fun ext => ?_
   refine ⟨rfl, by rw [cloneD_length]; rfl, Nat.le_refl _, ⟨Nat.zero_le _, fun _ _ _ => rfl⟩, fun _ => rfl, fun el hel => ?_, fun b hb => by cases hb⟩
   cases m <;> simp [cloneD] at hel
  | some a =>
   exact fin a 0 cc [] rfl (by simp) (fun j u hj => by simp at hj) (fun j el i d hj => by simp at hj) (fun el hel => by simp at hel) (fun u hu => by simp at hu)
 | sl _ b off sz' cap g hne hb hcap hcell hrep =>
  have hsz' : sz' = sz := by
   cases xs with
   | nil => exact absurd rfl hne
   | cons x xs =>
    have h1 := (hcell 0 x rfl).1
    rw [← h1]
    exact Nat.eq_of_beq_eq_true hok
  subst hsz'
  have hel : ∀ j, j < xs.length → ∃ el, xs[j]? = some el ∧ el.length = sz' := fun j hj => ⟨xs[j], List.getElem?_eq_getElem hj, (hcell j _ (List.getElem?_eq_getElem hj)).1⟩
  have hdm : ∀ j i, i < sz' → (j * sz' + i) / sz' = j ∧ (j * sz' + i) % sz' = i := fun j i hi => by
   rw [Nat.mul_comm, Nat.mul_add_div hsz, Nat.mul_add_mod, Nat.div_eq_of_lt hi, Nat.mod_eq_of_lt hi]
   exact ⟨rfl, rfl⟩
  refine fin _ xs.length cap ((List.range (xs.length * sz')).map fun q => g (q / sz') (q % sz')) rfl (by simp) (fun q u hq => ?_) (fun j el i d hj hi => ?_) (fun el hm => ?_) (fun u hu => ?_)
  ·rw [List.getElem?_map, Option.map_eq_some_iff] at hq
   obtain ⟨q', hq', rfl⟩ := hq
   have hql : q < xs.length * sz' := by
    have := (List.getElem?_eq_some_iff.1 hq').1
    rwa [List.length_range] at this
   rw [List.getElem?_range hql] at hq'
   cases hq'
   have hdiv : q / sz' < xs.length := (Nat.div_lt_iff_lt_mul hsz).2 hql
   obtain ⟨el, he, hle⟩ := hel (q / sz') hdiv
   have hmod := Nat.mod_lt q hsz
   have := (hcell _ _ he).2 (q % sz') _ (List.getElem?_eq_getElem (by omega))
   have e1 : off + q / sz' * sz' + q % sz' = off + q := by
    have := Nat.div_add_mod q sz'
    rw [Nat.mul_comm] at this; omega
   rw [e1] at this
   rw [Addr.add_lit]
   exact this
  ·have hil : i < sz' := by rw [← (hcell j el hj).1]; exact (List.getElem?_eq_some_iff.1 hi).1
   have hjl := (List.getElem?_eq_some_iff.1 hj).1
   have hq : j * sz' + i < xs.length * sz' := by
    have : (j + 1) * sz' ≤ xs.length * sz' := Nat.mul_le_mul_right _ hjl
    rw [Nat.add_mul] at this; omega
   refine ⟨g j i, ?_, hrep j el i d hj hi⟩
   rw [List.getElem?_map, List.getElem?_range hq]
   obtain ⟨h1, h2⟩ := hdm j i hil
   simp [h1, h2]
  ·obtain ⟨j, hj⟩ := List.getElem?_of_mem hm
   exact (hcell j el hj).1
  ·obtain ⟨q, hq, rfl⟩ := List.mem_map.1 hu
   have hql : q < xs.length * sz' := by simpa using hq
   have hdiv : q / sz' < xs.length := (Nat.div_lt_iff_lt_mul hsz).2 hql
   obtain ⟨el, he, hle⟩ := hel (q / sz') hdiv
   have hmod := Nat.mod_lt q hsz
   exact (hrep _ _ _ _ he (List.getElem?_eq_getElem (show q % sz' < el.length by omega))).one
end Go.Gn

namespace Go.Gn
open Go Go.RowKit Go.Proofs Go.Shelf
set_option linter.unusedVariables false
set_option linter.unusedSimpArgs false
set_option maxHeartbeats 1000000 in
set_option maxRecDepth 100000 in
theorem compareString_call (a b : ByteArray) (w : World) :
  Calls Tryz.prog 197 #[.string a, .string b] w fun e w' => e = .returned (.int .i64 (Lib.compareBytes a.data.toList b.data.toList)) ∧ w' = w := by
 have mixed := X.mixed
 go_enter Tryz.func197, Tryz.ntmps197
 go_wp2
 rw [run_callFunc_extern Tryz.func205 (by kernel_rfl) (by kernel_rfl) (by kernel_rfl) (e := Extern.BytealgCompare.compare) (by kernel_rfl), Lib.run_compareString]
 simp only [Result.andThen]
 rw [Oper.upon_value]
 go_wp2
 go_ret
 exact ⟨rfl, rfl⟩
set_option maxHeartbeats 1000000 in
theorem compare_call (a b : ByteArray) (w : World) :
  Calls Tryz.prog 176 #[.string a, .string b] w fun e w' => e = .returned (.int .i64 (Lib.compareBytes a.data.toList b.data.toList)) ∧ w' = w := by
 have mixed := X.mixed
 have e213 : ∀ args w, (callFunc 197 args).run Tryz.prog w = .ok (.enter 197 args) w := enters_of Tryz.func197 (by kernel_rfl) rfl
 go_enter Tryz.func176, Tryz.ntmps176
 go_wp2_with (go_at_fn 197; refine (compareString_call _ _ _).mono ?_; rintro e w' ⟨rfl, rfl⟩)
 go_ret
 exact ⟨rfl, rfl⟩
theorem bl_eq : ∀ (a b : List UInt8), Lib.compareBytes a b = if Op.bytesLess a b then -1 else if Op.bytesLess b a then 1 else 0
 | [], [] => by simp [Lib.compareBytes, Op.bytesLess]
 | [], _ :: _ => by simp [Lib.compareBytes, Op.bytesLess]
 | _ :: _, [] => by simp [Lib.compareBytes, Op.bytesLess]
 | x :: a, y :: b => by
  have ih := bl_eq a b
  unfold Lib.compareBytes Op.bytesLess
  by_cases h : x < y
  ·simp [h, UInt8.lt_asymm h]
  ·by_cases h2 : y < x
   ·have hne : ¬ x = y := fun e => h (by rw [e] at h2; exact absurd h2 (UInt8.lt_irrefl _))
    simp [h, h2, hne]
   ·have e : x = y := UInt8.le_antisymm (UInt8.not_lt.1 h2) (UInt8.not_lt.1 h)
    subst e
    simp [UInt8.lt_irrefl, ih]
theorem good_compare : Good Tryz.prog (fun _ => compareX) 176 false := by
 unfold Good
 rw [if_neg (by simp)]
 intro args os r os' h c w vals hst hdom hvals
 simp only [compareX] at h
 split at h
 rotate_left
 ·cases h
 rename_i a b
 cases h
 cases hvals with
 | cons _ v _ vs hv hvs =>
 cases hvs with
 | cons _ v2 _ vs2 hv2 hvs2 =>
 cases hvs2
 cases hv
 cases hv2
 refine (compare_call a b w).mono ?_
 rintro e w' ⟨rfl, rfl⟩
 have e1 : Lib.compareBytes a.data.toList b.data.toList = cmpStr a b := by
  rw [bl_eq, cmpStr, ByteArray.toList_eq, ByteArray.toList_eq]
 show ∃ c', Aft _ c 0 _ [] _ _ c'
 rw [e1]
 exact ⟨c, hst, rfl, rfl, fun _ h => h, fun _ _ m hm => ⟨m, hm, m.le_refl⟩, hdom, fun _ _ h => h, Keep.refl _ _, Keep.refl _ _, Keep.refl _ _, Nat.le_refl _, .int _ _, rfl, fun q => by simp [Obj.noBr]⟩
end Go.Gn

namespace Go.Gn
open Go Go.RowKit Go.Proofs Go.Shelf Go.Lib
set_option linter.unusedVariables false
set_option linter.unusedSimpArgs false
theorem heap_setCell (w : World) (b o : Nat) (v : Value) {cur : Array Value} {e : TypeId} {fz : Nat × Nat} (h : w.heap[b]? = some (.cells cur e fz)) : (w.setCell ⟨b, o, none⟩ v).heap[b]? = some (.cells (cur.setIfInBounds o v) e fz) := by
 simp only [World.setCell, Array.getElem?_modify]
 simp [h]
theorem heap_setCells (b : Nat) {e : TypeId} {fz : Nat × Nat} : ∀ (vs : List Value) (o : Nat) (w : World) (cur : Array Value), w.heap[b]? = some (.cells cur e fz) → o + vs.length ≤ cur.size →
  ∃ cur', (w.setCells b o vs).heap[b]? = some (.cells cur' e fz) ∧ cur'.size = cur.size ∧ ∀ k : Nat, cur'[k]? = if o ≤ k ∧ k < o + vs.length then vs[k - o]? else cur[k]?
 | [], o, w, cur, h, _ => ⟨cur, h, rfl, fun k => by rw [if_neg (by rintro ⟨h1, h2⟩; simp at h2; omega)]⟩
 | v :: vs, o, w, cur, h, hl => by
  obtain ⟨cur', h1, h2, h3⟩ := heap_setCells b vs (o + 1) (w.setCell ⟨b, o, none⟩ v) _ (heap_setCell w b o v h) (by simp only [List.length_cons] at hl; rw [Array.size_setIfInBounds]; omega)
  refine ⟨cur', h1, by rw [h2, Array.size_setIfInBounds], fun k => ?_⟩
  rw [h3 k]
  simp only [List.length_cons] at hl ⊢
  by_cases hk : o + 1 ≤ k ∧ k < o + 1 + vs.length
  ·rw [if_pos hk, if_pos (by omega), show k - o = (k - (o + 1)) + 1 by omega, List.getElem?_cons_succ]
  ·rw [if_neg hk, Array.getElem?_setIfInBounds]
   by_cases hk2 : o = k
   ·subst hk2
    rw [if_pos rfl, if_pos (by omega), if_pos (by omega), Nat.sub_self, List.getElem?_cons_zero]
   ·rw [if_neg hk2, if_neg (by omega)]
theorem run_copy_cellsN {P : Program} (w : World) (dT sT ty elem : TypeId) (sz : Nat) (b o dLen dCap : Nat) (a : Addr) (sLen sCap : Nat) (cs : List Value)
  (hu : P.underlying dT = some (.slice elem)) (hs : (P.info? elem).map (·.size) = some sz) (hn : cs.length = Nat.min sLen dLen * sz)
  (hsrc : ∀ j v, cs[j]? = some v → w.cell? (a.add j) = some v) (hc : ∀ j, j < cs.length → (w.cell? ⟨b, o + j, none⟩).isSome = true) (hf : ∀ j, j < cs.length → w.frozen? ⟨b, o + j, none⟩ = false) (h1 : ∀ v ∈ cs, v.oneCell' = true) :
  (Builtin.copy_ #[dT, sT] ty #[.slice (some ⟨b, o, none⟩) dLen dCap, .slice (some a) sLen sCap]).run P w = .ok (goInt (Nat.min sLen dLen)) (w.setCells b o cs) := by
 have hl := run_loadCells_list (P := P) w a cs hsrc
 have hst := run_storeCells_cells (P := P) b o cs 0 w (by simpa using hc) (by simpa using hf) h1
 cases hq : P.info? elem with
 | none => simp [hq] at hs
 | some i =>
  have hi : i.size = sz := by simpa [hq] using hs
  rw [hn] at hl
  simp [Builtin.copy_, run_underlying hu, Builtin.lenOf, Builtin.firstCells, sizeOf, typeInfo, hq, hi, hl, hst]
theorem X.vol : ∃ i, Tryz.prog.info? 132 = some i ∧ i.zero = some (.agg #[.string ⟨#[]⟩, .slice none 0 0] : Value) ∧ i.size = 2 ∧ i.bytes = 40 := by
 have hin : (Tryz.prog.info? 132).map (fun i => (i.zero, i.size, i.bytes)) = some (some (.agg #[.string ⟨#[]⟩, .slice none 0 0] : Value), 2, 40) := by kernel_rfl
 obtain ⟨i0, hi, hz⟩ := Option.map_eq_some_iff.1 hin
 exact ⟨i0, hi, congrArg Prod.fst hz, congrArg (fun x => x.2.1) hz, congrArg (fun x => x.2.2) hz⟩
theorem X.szof (w : World) : Sem.run Tryz.prog (Go.sizeOf 132) w = .ok 2 w := by
 obtain ⟨i0, hi, _, h1, _⟩ := X.vol
 simp [sizeOf, typeInfo, hi, h1]
set_option maxHeartbeats 4000000 in
set_option maxRecDepth 100000 in
theorem insert_shift (b n c i vb vc : Nat) (cs vs : List Value) (w : World) (hi : i < n) (hroom : n + 1 ≤ c) (hc63 : n ≤ 140737488355328) (hvb : vb ≠ b)
  (hcl : cs.length = n * 2) (hvl : vs.length = 2)
  (hcs : ∀ j v, cs[j]? = some v → w.cell? ⟨b, j, none⟩ = some v) (hsp : ∀ j, j < (n + 1) * 2 → (w.cell? ⟨b, j, none⟩).isSome = true) (hfz : ∀ j, w.frozen? ⟨b, j, none⟩ = false)
  (hvs : ∀ j v, vs[j]? = some v → w.cell? ⟨vb, j, none⟩ = some v) (h1c : ∀ v ∈ cs, v.oneCell' = true) (h1v : ∀ v ∈ vs, v.oneCell' = true)
  (tA tB : TypeId) (kA kB : Nat) (hsa : w.shape? vb = some (tA, kA)) (hsb : w.shape? b = some (tB, kB)) (hkB : kB ≠ 0) (hfa : ∀ j, w.frozen? ⟨vb, j, none⟩ = false) :
  Calls Tryz.prog 177 #[.slice (some ⟨b, 0, none⟩) n c, .int .i64 i, .slice (some ⟨vb, 0, none⟩) 1 vc] w fun e w' =>
   e = .returned (.slice (some ⟨b, 0, none⟩) (n + 1) c) ∧ w' = (w.drew.setCells b ((i + 1) * 2) (cs.drop (i * 2))).setCells b (i * 2) vs := by
 have mixed := X.mixed
 have t52 := Tryz.underlying52
 obtain ⟨i0, hi0, hz0, hzs, hzb⟩ := X.vol
 have hsz : (Tryz.prog.info? 132).map (·.size) = some 2 := by rw [hi0]; simp [hzs]
 have hz2 : ¬ ((i : Int) = (n : Int)) := by omega
 have hov : ∀ lb cb, (callFunc 198 #[.slice (some ⟨vb, 0, none⟩) 1 vc, .slice (some ⟨b, (i + 1) * 2, none⟩) lb cb]).run Tryz.prog w = .ok (.value (.bool false)) w := fun lb cb => by
  rw [run_callFunc_extern Tryz.func198 (by kernel_rfl) (by kernel_rfl) (by kernel_rfl) (e := Extern.SlicesOverlaps.overlaps #[52, 52] #[4]) (by kernel_rfl),
   Lib.run_overlaps_apart w 52 4 132 t52 2 X.szof ⟨vb, 0, none⟩ ⟨b, (i + 1) * 2, none⟩ 1 vc lb cb hvb tA tB kA kB hsa hsb hkB (hfa 0) (hfa kA)]
  rfl
 have hdl : (cs.drop (i * 2)).length = (n - i) * 2 := by rw [List.length_drop, hcl]; omega
 have hw1 : IntKind.i64.wrap ((i : Int) + 1) = (i : Int) + 1 := by rw [IntKind.wrap_i64]; omega
 have hb1 : (0 : Int) ≤ (i : Int) + 1 := by omega
 have hin : i ≤ n := by omega
 have htn : ((i : Int) + 1).toNat = i + 1 := by omega
 have hb2 : ¬ (c = i + 1) := by omega
 have hb3 : (i : Int) ≤ (n : Int) + 1 := by omega
 have hb4 : ¬ (c = i) := by omega
 have hcp1 : ∀ ty dc sc, (Builtin.copy_ #[52, 52] ty #[.slice (some ⟨b, (i + 1) * 2, none⟩) (n - i) dc, .slice (some ⟨b, i * 2, none⟩) (n + 1 - i) sc]).run Tryz.prog w.drew = .ok (goInt (Nat.min (n + 1 - i) (n - i))) (w.drew.setCells b ((i + 1) * 2) (cs.drop (i * 2))) := fun ty dc sc =>
  run_copy_cellsN w.drew _ _ ty 132 2 b ((i + 1) * 2) (n - i) dc ⟨b, i * 2, none⟩ (n + 1 - i) sc (cs.drop (i * 2)) t52 hsz (by rw [hdl]; simp only [Nat.min_def]; split <;> omega)
   (fun j v hj => by rw [Addr.add_lit]; exact hcs (i * 2 + j) v (by rwa [List.getElem?_drop] at hj))
   (fun j hj => hsp _ (by omega)) (fun j hj => hfz _) (fun v hv => h1c v (List.mem_of_mem_drop hv))
 obtain ⟨W1, hW1⟩ : ∃ W1, W1 = w.drew.setCells b ((i + 1) * 2) (cs.drop (i * 2)) := ⟨_, rfl⟩
 have hsp1 : ∀ k, k < (n + 1) * 2 → (W1.cell? ⟨b, k, none⟩).isSome = true := fun k hk => by
  rw [hW1]
  exact isSome_setCells b (cs.drop (i * 2)) ((i + 1) * 2) w.drew (fun j hj => hsp _ (by rw [hdl] at hj; omega)) _ (hsp k hk)
 have hcp2 : ∀ (W : World), (∀ x, W.cell? x = W1.cell? x) → (∀ x, W.frozen? x = W1.frozen? x) → ∀ ty dc, (Builtin.copy_ #[52, 52] ty #[.slice (some ⟨b, i * 2, none⟩) (n + 1 - i) dc, .slice (some ⟨vb, 0, none⟩) 1 vc]).run Tryz.prog W = .ok (goInt (Nat.min 1 (n + 1 - i))) (W.setCells b (i * 2) vs) := fun W hWc hWf ty dc =>
  run_copy_cellsN W _ _ ty 132 2 b (i * 2) (n + 1 - i) dc ⟨vb, 0, none⟩ 1 vc vs t52 hsz (by rw [hvl]; simp only [Nat.min_def]; split <;> omega)
   (fun j v hj => by
    rw [Addr.add_lit, hWc, hW1, World.cell?_setCells_out b _ _ _ _ (fun h _ => absurd h hvb), Nat.zero_add]
    exact hvs j v hj)
   (fun j hj => by rw [hWc]; exact hsp1 _ (by omega)) (fun j hj => by rw [hWf, hW1, World.frozen?_setCells]; exact hfz _) h1v
 rw [← hW1] at hcp1
 go_enter Tryz.func177, Tryz.ntmps177
 go_wp2_with (simp only [hov])
 go_region_law_o (refine step_copy_runI rfl _ _ 52 52 rfl _ _ (by simp [Act.eval, Act.put]) (by simp [Act.eval, Act.put]) (hcp1 _ _ _) ?_)
 go_wp2_with (at_builtin; refine wpList_copy_runI _ rfl _ _ 52 52 rfl _ _ rfl rfl (hcp2 _ (fun _ => rfl) (fun _ => rfl) _ _) ?_)
 go_ret
 first | exact ⟨rfl, rfl⟩ | exact ⟨rfl, by rw [hW1]⟩
end Go.Gn

namespace Go.Gn
open Go Go.RowKit Go.Proofs Go.Shelf Go.Lib
set_option linter.unusedVariables false
set_option linter.unusedSimpArgs false
set_option maxHeartbeats 4000000 in
set_option maxRecDepth 100000 in
theorem insert_end_room (b n c vb vc : Nat) (vs : List Value) (w : World) (hroom : n + 1 ≤ c) (hc63 : n ≤ 140737488355328)
  (hvl : vs.length = 2) (hsp : ∀ j, j < 2 → (w.cell? ⟨b, n * 2 + j, none⟩).isSome = true) (hfz : ∀ j, w.frozen? ⟨b, j, none⟩ = false)
  (hvs : ∀ j v, vs[j]? = some v → w.cell? ⟨vb, j, none⟩ = some v) (h1v : ∀ v ∈ vs, v.oneCell' = true) :
  Calls Tryz.prog 177 #[.slice (some ⟨b, 0, none⟩) n c, .int .i64 n, .slice (some ⟨vb, 0, none⟩) 1 vc] w fun e w' =>
   e = .returned (.slice (some ⟨b, 0, none⟩) (n + 1) c) ∧ w' = w.setCells b (n * 2) vs := by
 have mixed := X.mixed
 have t52 := Tryz.underlying52
 obtain ⟨i0, hi0, hz0, hzs, hzb⟩ := X.vol
 have hrun : ∀ ty, (Builtin.append_ #[52, 52] ty #[.slice (some ⟨b, 0, none⟩) n c, .slice (some ⟨vb, 0, none⟩) 1 vc]).run Tryz.prog w = .ok (.slice (some ⟨b, 0, none⟩) (n + 1) c) (w.setCells b (n * 2) vs) := fun ty => by
  have h := run_append_room_cells (P := Tryz.prog) w 52 ty 132 i0 t52 hi0 b 0 n c ⟨vb, 0, none⟩ 1 vc vs (by rw [hvl, hzs]) (fun j u hj => by rw [Addr.add_lit, Nat.zero_add]; exact hvs j u hj) h1v hroom
   (fun j hj => by rw [hzs, Nat.zero_add]; exact hsp j (by omega)) (fun j hj => hfz _)
  rw [hzs, Nat.zero_add] at h
  exact h
 go_enter Tryz.func177, Tryz.ntmps177
 go_wp2_with (at_builtin; refine Lib.wpList_append_run _ rfl _ _ _ _ rfl _ _ rfl rfl _ _ (hrun _) ?_)
 go_ret
 exact ⟨rfl, rfl⟩
set_option maxHeartbeats 4000000 in
set_option maxRecDepth 100000 in
theorem insert_end_grow (base : Option Addr) (n c vb vc : Nat) (cs vs : List Value) (w : World) (hnc : n ≤ c) (hroom : c < n + 1) (hbig : (n + 1) * 40 ≤ 140737488355328)
  (hcl : cs.length = n * 2) (hvl : vs.length = 2) (hnil : base = none → n = 0)
  (hcs : ∀ a, base = some a → ∀ j v, cs[j]? = some v → w.cell? (a.add j) = some v)
  (hvs : ∀ j v, vs[j]? = some v → w.cell? ⟨vb, j, none⟩ = some v) (h1v : ∀ v ∈ vs, v.oneCell' = true) :
  Calls Tryz.prog 177 #[.slice base n c, .int .i64 n, .slice (some ⟨vb, 0, none⟩) 1 vc] w fun e w' =>
   e = .returned (.slice (some ⟨w.heap.size, 0, none⟩) (n + 1) (grownCap w (n + 1) c 132)) ∧
   w' = w.drew.alloc (.cells ((cs ++ vs).toArray ++ Builtin.zeroCells (Value.agg #[.string ⟨#[]⟩, .slice none 0 0]).cells (grownCap w (n + 1) c 132 - (n + 1))) 132) := by
 have mixed := X.mixed
 have t52 := Tryz.underlying52
 obtain ⟨i0, hi0, hz0, hzs, hzb⟩ := X.vol
 have hsrc : Src Tryz.prog i0.size 52 (.slice (some ⟨vb, 0, none⟩) 1 vc) 1 vs w := by
  rw [hzs]
  exact Src.ofSlice w t52 ⟨vb, 0, none⟩ 1 vc vs (by omega) (fun j u hj => by rw [Addr.add_lit, Nat.zero_add]; exact hvs j u hj) h1v
 have hold : (Builtin.firstCells i0.size n (.slice base n c)).run Tryz.prog w.drew = .ok cs.toArray w.drew := by
  rw [hzs]
  cases base with
  | none =>
   have h0 := hnil rfl
   subst h0
   rw [List.length_eq_zero_iff.1 hcl]
   exact run_firstCells_none w.drew 2 0 0 c
  | some a => exact run_firstCells_some w.drew 2 n a n c cs (by omega) (fun j v hj => hcs a rfl j v hj)
 have hrun : ∀ ty, (Builtin.append_ #[52, 52] ty #[.slice base n c, .slice (some ⟨vb, 0, none⟩) 1 vc]).run Tryz.prog w = _ := fun ty =>
  run_append_grow_src w 52 52 ty 132 i0 _ t52 hi0 hz0 base n c cs hold _ 1 vs hsrc hroom (by omega) (by rw [hzb]; exact growslice_fits hroom hbig)
 go_enter Tryz.func177, Tryz.ntmps177
 cases base with
 | none =>
  have h0 := hnil rfl
  subst h0
  go_wp2_with (at_builtin; refine Lib.wpList_append_run _ rfl _ _ _ _ rfl _ _ rfl rfl _ _ (hrun _) ?_)
  go_ret
  exact ⟨rfl, rfl⟩
 | some a =>
  obtain ⟨ab, ao, asp⟩ := a
  go_wp2_with (at_builtin; refine Lib.wpList_append_run _ rfl _ _ _ _ rfl _ _ rfl rfl _ _ (hrun _) ?_)
  all_goals (go_ret; exact ⟨rfl, rfl⟩)
set_option maxHeartbeats 4000000 in
set_option maxRecDepth 100000 in
theorem insert_grow (b n c i vb vc : Nat) (cs vs : List Value) (w : World) (hi : i < n) (hnc : n ≤ c) (hroom : c < n + 1) (hbig : (n + 1) * 40 ≤ 140737488355328)
  (hcl : cs.length = n * 2) (hvl : vs.length = 2)
  (hcs : ∀ j v, cs[j]? = some v → w.cell? ⟨b, j, none⟩ = some v)
  (hvs : ∀ j v, vs[j]? = some v → w.cell? ⟨vb, j, none⟩ = some v) (h1c : ∀ v ∈ cs, v.oneCell' = true) (h1v : ∀ v ∈ vs, v.oneCell' = true) :
  Calls Tryz.prog 177 #[.slice (some ⟨b, 0, none⟩) n c, .int .i64 i, .slice (some ⟨vb, 0, none⟩) 1 vc] w fun e w' =>
   ∃ ROW : Array Value, e = .returned (.slice (some ⟨w.heap.size, 0, none⟩) (n + 1) (grownCap w (n + 1) c 132)) ∧ ROW.size = grownCap w (n + 1) c 132 * 2 ∧ (∀ k, k < i * 2 → ROW[k]? = cs[k]?) ∧
   w' = (((w.alloc (.cells ROW 132)).drew.setCells w.heap.size (i * 2) vs).drew).setCells w.heap.size ((i + 1) * 2) (cs.drop (i * 2)) := by
 have mixed := X.mixed
 have t52 := Tryz.underlying52
 have t3 := Tryz.underlying3
 obtain ⟨i0, hi0, hz0, hzs, hzb⟩ := X.vol
 have hz2 : ¬ ((i : Int) = (n : Int)) := by omega
 have hz3 : (c : Int) < (n : Int) + 1 := by omega
 have hsz : (Tryz.prog.info? 132).map (·.size) = some 2 := by rw [hi0]; simp [hzs]
 have hbw : b < w.heap.size := block_lt_of_cell (hcs 0 _ (List.getElem?_eq_getElem (by omega)))
 have hvw : vb < w.heap.size := block_lt_of_cell (hvs 0 _ (List.getElem?_eq_getElem (by omega)))
 have hkk : (n : Int) + 1 - (i : Int) = ((n + 1 - i : Nat) : Int) := by omega
 have hik : i + (n + 1 - i) = n + 1 := by omega
 have hold : (Builtin.firstCells i0.size i (.slice (some ⟨b, 0, none⟩) i c)).run Tryz.prog w.drew = .ok (cs.take (i * 2)).toArray w.drew := by
  rw [hzs]
  exact run_firstCells_some w.drew 2 i ⟨b, 0, none⟩ i c (cs.take (i * 2)) (by rw [List.length_take]; omega) (fun j v hj => by
   rw [Addr.add_lit, Nat.zero_add]
   rw [List.getElem?_take] at hj
   split at hj
   ·exact hcs j v hj
   ·cases hj)
 have hrz : ∀ ty, (Builtin.append_ #[52, 3] ty #[.slice (some ⟨b, 0, none⟩) i c, .int .i64 ((n : Int) + 1 - (i : Int))]).run Tryz.prog w =
   .ok (.slice (some ⟨w.heap.size, 0, none⟩) (n + 1) (grownCap w (n + 1) c 132)) (w.drew.alloc (.cells ((cs.take (i * 2)).toArray ++ Builtin.zeroCells (Value.agg #[.string ⟨#[]⟩, .slice none 0 0]).cells (n + 1 - i) ++ Builtin.zeroCells (Value.agg #[.string ⟨#[]⟩, .slice none 0 0]).cells (grownCap w (n + 1) c 132 - (n + 1))) 132)) := fun ty => by
  have h := Lib.run_append_grow_zeros w 52 3 ty 132 i0 _ .i64 .i64 t52 t3 hi0 hz0 (some ⟨b, 0, none⟩) i c (cs.take (i * 2)) hold (n + 1 - i) (by omega) (by omega) (by omega) (by omega) (by rw [hzb]; omega) (by rw [hzb, hik]; exact growslice_fits hroom hbig)
  rw [hik] at h
  rw [hkk]
  exact h
 obtain ⟨G, hG⟩ : ∃ G, G = grownCap w (n + 1) c 132 := ⟨_, rfl⟩
 obtain ⟨ROW, hROW⟩ : ∃ ROW : Array Value, ROW = (cs.take (i * 2)).toArray ++ Builtin.zeroCells (Value.agg #[.string ⟨#[]⟩, .slice none 0 0]).cells (n + 1 - i) ++ Builtin.zeroCells (Value.agg #[.string ⟨#[]⟩, .slice none 0 0]).cells (G - (n + 1)) := ⟨_, rfl⟩
 rw [← hG] at hrz ⊢
 rw [← hROW] at hrz
 have hGn : n + 1 ≤ G := by rw [hG]; exact grownCap_ge w _ _ _
 have hRs : ROW.size = G * 2 := by
  rw [hROW]
  simp [Builtin.zeroCells, Value.cells]
  omega
 have hRt : ∀ k, k < i * 2 → ROW[k]? = cs[k]? := fun k hk => by
  rw [hROW, Array.getElem?_append_left (by simp [Builtin.zeroCells, Value.cells]; omega), Array.getElem?_append_left (by simp; omega)]
  simp [List.getElem?_take, hk]
 have hRl : (n + 1) * 2 ≤ ROW.size := by omega
 obtain ⟨W1, hW1⟩ : ∃ W1, W1 = w.drew.alloc (.cells ROW 132) := ⟨_, rfl⟩
 rw [← hW1] at hrz
 have hN : ∀ j, j < (n + 1) * 2 → (W1.cell? ⟨w.heap.size, j, none⟩).isSome = true := fun j hj => by
  rw [hW1, World.cell?_alloc_at (w := w.drew) ROW _ w.heap.size j rfl, Array.getElem?_eq_getElem (by omega)]; rfl
 have hNf : ∀ j, W1.frozen? ⟨w.heap.size, j, none⟩ = false := fun j => by rw [hW1]; exact World.frozen?_alloc_at (w := w.drew) ROW _ w.heap.size j rfl
 have hOb : ∀ j v, w.cell? ⟨b, j, none⟩ = some v → W1.cell? ⟨b, j, none⟩ = some v := fun j v h => by rw [hW1, World.cell?_alloc_past (w := w.drew) _ b j hbw]; exact h
 have hOv : ∀ j v, w.cell? ⟨vb, j, none⟩ = some v → W1.cell? ⟨vb, j, none⟩ = some v := fun j v h => by rw [hW1, World.cell?_alloc_past (w := w.drew) _ vb j hvw]; exact h
 have hcpA : ∀ (W : World), (∀ x, W.cell? x = W1.cell? x) → (∀ x, W.frozen? x = W1.frozen? x) → ∀ ty dc, (Builtin.copy_ #[52, 52] ty #[.slice (some ⟨w.heap.size, i * 2, none⟩) (n + 1 - i) dc, .slice (some ⟨vb, 0, none⟩) 1 vc]).run Tryz.prog W = .ok (goInt (Nat.min 1 (n + 1 - i))) (W.setCells w.heap.size (i * 2) vs) := fun W hWc hWf ty dc =>
  run_copy_cellsN W _ _ ty 132 2 w.heap.size (i * 2) (n + 1 - i) dc ⟨vb, 0, none⟩ 1 vc vs t52 hsz (by rw [hvl]; simp only [Nat.min_def]; split <;> omega)
   (fun j v hj => by rw [Addr.add_lit, hWc, Nat.zero_add]; exact hOv _ v (hvs j v hj))
   (fun j hj => by rw [hWc]; exact hN _ (by omega)) (fun j hj => by rw [hWf]; exact hNf _) h1v
 have hG63 : G ≤ 9223372036854775807 := by
  have := grownCap_le_maxLen w (n + 1) c 132 (by unfold maxLen; omega)
  rw [← hG] at this
  unfold maxLen at this
  omega
 have hGi : ¬ (G = i) := by omega
 have hGim : ¬ (G = i + 1) := by omega
 have hci : ¬ (c = i) := by omega
 have hbN : b ≠ w.heap.size := by omega
 have hdl : (cs.drop (i * 2)).length = (n - i) * 2 := by rw [List.length_drop, hcl]; omega
 have hcpB : ∀ (W : World), (∀ x, W.cell? x = (W1.setCells w.heap.size (i * 2) vs).cell? x) → (∀ x, W.frozen? x = (W1.setCells w.heap.size (i * 2) vs).frozen? x) → ∀ ty dc sc, (Builtin.copy_ #[52, 52] ty #[.slice (some ⟨w.heap.size, (i + 1) * 2, none⟩) (n - i) dc, .slice (some ⟨b, i * 2, none⟩) (n - i) sc]).run Tryz.prog W = .ok (goInt (Nat.min (n - i) (n - i))) (W.setCells w.heap.size ((i + 1) * 2) (cs.drop (i * 2))) := fun W hWc hWf ty dc sc =>
  run_copy_cellsN W _ _ ty 132 2 w.heap.size ((i + 1) * 2) (n - i) dc ⟨b, i * 2, none⟩ (n - i) sc (cs.drop (i * 2)) t52 hsz (by rw [hdl]; simp only [Nat.min_def]; split <;> rfl)
   (fun j v hj => by
    rw [Addr.add_lit, hWc, World.cell?_setCells_out _ _ _ _ _ (fun h _ => absurd h hbN)]
    exact hOb _ v (hcs (i * 2 + j) v (by rwa [List.getElem?_drop] at hj)))
   (fun j hj => by rw [hWc]; exact isSome_setCells _ _ _ _ (fun t ht => hN _ (by omega)) _ (hN _ (by omega)))
   (fun j hj => by rw [hWf, World.frozen?_setCells]; exact hNf _) (fun v hv => h1c v (List.mem_of_mem_drop hv))
 subst hW1
 have hE1 : ∀ x, ((w.alloc (.cells ROW 132)).drew).cell? x = (w.drew.alloc (.cells ROW 132)).cell? x := fun x => rfl
 have hE2 : ∀ x, ((w.alloc (.cells ROW 132)).drew).frozen? x = (w.drew.alloc (.cells ROW 132)).frozen? x := fun x => rfl
 have hF1 : ∀ x, (((w.alloc (.cells ROW 132)).drew.setCells w.heap.size (i * 2) vs).drew).cell? x = ((w.drew.alloc (.cells ROW 132)).setCells w.heap.size (i * 2) vs).cell? x := fun x => rfl
 have hF2 : ∀ x, (((w.alloc (.cells ROW 132)).drew.setCells w.heap.size (i * 2) vs).drew).frozen? x = ((w.drew.alloc (.cells ROW 132)).setCells w.heap.size (i * 2) vs).frozen? x := fun x => rfl
 have hw1 : IntKind.i64.wrap ((i : Int) + 1) = (i : Int) + 1 := by rw [IntKind.wrap_i64]; omega
 have hb1 : (0 : Int) ≤ (i : Int) + 1 := by omega
 have hin : i ≤ n := by omega
 have htn : ((i : Int) + 1).toNat = i + 1 := by omega
 have hb3 : (i : Int) ≤ (n : Int) := by omega
 clear hkk hik hold hROW hG hRl
 go_enter Tryz.func177, Tryz.ntmps177
 go_wp2_with (first
  | (at_builtin; refine Lib.wpList_append_run _ rfl _ _ _ _ rfl _ _ rfl rfl _ _ (hrz _) ?_)
  | (at_builtin; refine wpList_copy_runI _ rfl _ _ 52 52 rfl _ _ rfl rfl (hcpA _ hE1 hE2 _ _) ?_)
  | (at_builtin; refine wpList_copy_runI _ rfl _ _ 52 52 rfl _ _ rfl rfl (hcpB _ (fun _ => rfl) (fun _ => rfl) _ _ _) ?_))
 go_region_law_o (refine step_copy_runI rfl _ _ 52 52 rfl (.slice (some ⟨w.heap.size, (i + 1) * 2, none⟩) (n - i) (G - (i + 1))) (.slice (some ⟨b, i * 2, none⟩) (n - i) (c - i)) (by simp [Act.eval, Act.put]) (by simp [Act.eval, Act.put]) (hcpB _ hF1 hF2 3 (G - (i + 1)) (c - i)) ?_)
 go_wp2
 go_ret
 exact ⟨ROW, rfl, hRs, hRt, rfl⟩
end Go.Gn

