/- Part 6 of a proof: an evaluator of the program, proved sound, and what it answers. -/
import Derived.Test.YtiicdghimmpjnaaGreatA5
import Derived.Test.YtiicdghimmpjnaaGreatRows
import Derived.ProofKit
import Derived.Deep.Slices
import Derived.WalkKit
import Derived.WalkSpells
import Derived.WalkLawsBesides
import Derived.Lib.SliceRun
import Derived.Shelf.RegionOpenPlain
import Derived.Lib.Bytealg
import Derived.Shelf.Abstract
import Derived.Shelf.Spec.SlicesInsert
import Derived.Lib.AppendZerosOnto
import Derived.Laws.NewBlocks
import Derived.Deep.RegionLaw
import Derived.OpenShut
import Derived.ShutString
import Derived.ChangeOld
import Derived.Below
set_option linter.all false
namespace Go.Gn
open Go Go.RowKit Go.Proofs Go.Deep
set_option linter.unusedVariables false
set_option linter.unusedSimpArgs false
abbrev SW (w : World) : Nat → Prop := fun b => b < w.heap.size
def Rd (w : World) (ds : List D) (cs : List Value) (o : Nat) : Prop := ∀ (i : Nat) (d : D), ds[i]? = some d → ∃ u, cs[o + i]? = some u ∧ RepD (SW w) w d u
theorem Rd.app {w : World} {d1 d2 : List D} {cs : List Value} {o : Nat} (h1 : Rd w d1 cs o) (h2 : Rd w d2 cs (o + d1.length)) : Rd w (d1 ++ d2) cs o := fun i d hi => by
  by_cases h : i < d1.length
  · rw [List.getElem?_append_left h] at hi; exact h1 i d hi
  · rw [List.getElem?_append_right (by omega)] at hi
    obtain ⟨u, hu, hr⟩ := h2 _ d hi
    exact ⟨u, by rw [← hu]; congr 1; omega, hr⟩
theorem Rd.sub {w : World} {ds : List D} {cs : List Value} {o n : Nat} (h : Rd w ds ((cs.drop o).take n) 0) : Rd w ds cs o := fun i d hi => by
  obtain ⟨u, hu, hr⟩ := h i d hi
  rw [Nat.zero_add, List.getElem?_take] at hu
  split at hu
  · rw [List.getElem?_drop] at hu; exact ⟨u, hu, hr⟩
  · cases hu
def RdT (t : TypeId) {α : Type} (f : α → List D) (Q : α → Prop) : Prop := ∀ {H : Type} {enc : TypeId × Value → H} {w : World} {sp : Nat → Bool} {held : Bool} {n : Nat} {cs : List Value} {y : DataW H × List MemPlace},
  DataW.trod enc Tryz.prog w 0 sp held n t cs = some y → ∃ x : α, cs.length = (f x).length ∧ Rd w (f x) cs 0 ∧ Q x
theorem rd_int {t : TypeId} (ht : Tryz.prog.underlying t = some (.int .i64)) : RdT t intD (fun _ => True) := fun {_ _ _ _ _ _ _ _} h => by
  obtain ⟨n, rfl, _, _⟩ := DataW.trod_int ht h
  refine ⟨n, rfl, fun i d hi => ?_, trivial⟩
  match i with
  | 0 => cases hi; exact ⟨_, rfl, .int _ _⟩
  | i + 1 => cases hi
def strD (s : Str) : List D := [.str s]
theorem rd_str {t : TypeId} (ht : Tryz.prog.underlying t = some .string) : RdT t strD (fun s => s.size < 9223372036854775808) := fun {_ _ _ _ _ _ _ _} h => by
  obtain ⟨s, rfl, _, hs⟩ := DataW.trod_string ht h
  refine ⟨s, rfl, fun i d hi => ?_, by unfold maxLen at hs; omega⟩
  match i with
  | 0 => cases hi; exact ⟨_, rfl, .str _⟩
  | i + 1 => cases hi
def slD {α : Type} (f : α → List D) (xs : List α) : List D := [.sl (xs.map f)]
theorem rd_slice {t e : TypeId} {α : Type} {f : α → List D} {Q : α → Prop} {sz : Nat} (ht : Tryz.prog.underlying t = some (.slice e)) (hc : Tryz.prog.cellsOf e = sz) (hs : 0 < sz) (he : RdT e f Q) : RdT t (slD f) (fun xs => xs.length < 9223372036854775808 ∧ ∀ x ∈ xs, Q x) := fun {H enc w sp held n cs y} h => by
  rcases open_slice ht h with ⟨rfl, _⟩ | ⟨a, len, cap, m, n', D', Pl, rfl, _, hl, hm, hmm, _, hx⟩
  · refine ⟨[], rfl, fun i d hi => ?_, by simp, fun x hx => by simp at hx⟩
    match i with
    | 0 => cases hi; exact ⟨_, rfl, .nil _ _⟩
    | i + 1 => cases hi
  · have hlm : len ≤ m := by rw [hmm]; split <;> omega
    have hel : ∀ i, i < len → ∃ x : α, ∃ cs', w.cells? 0 (a.add (i * sz)) sz = some cs' ∧ cs'.length = (f x).length ∧ Rd w (f x) cs' 0 ∧ Q x := fun i hi => by
      obtain ⟨cs', h1, h2⟩ := hx i (by omega)
      obtain ⟨x, h3, h4, h5⟩ := he h2
      rw [hc] at h1
      exact ⟨x, cs', h1, h3, h4, h5⟩
    obtain ⟨X, hX⟩ : ∃ X : List α, X.length = len ∧ ∀ (i : Nat) (x : α), X[i]? = some x → ∃ cs', w.cells? 0 (a.add (i * sz)) sz = some cs' ∧ cs'.length = (f x).length ∧ Rd w (f x) cs' 0 ∧ Q x := by
      rename_i hyy
      clear hx hmm hl hlm hyy h
      induction len with
      | zero => exact ⟨[], rfl, fun i x hi => by simp at hi⟩
      | succ len ih =>
        obtain ⟨X, h1, h2⟩ := ih (fun i hi => hel i (by omega))
        obtain ⟨x, hx⟩ := hel len (by omega)
        refine ⟨X ++ [x], by simp [h1], fun i x' hi => ?_⟩
        by_cases h : i < X.length
        · rw [List.getElem?_append_left h] at hi; exact h2 i x' hi
        · rw [List.getElem?_append_right (by omega)] at hi
          have : i = len := by
            have := (List.getElem?_eq_some_iff.mp hi).1
            simp at this; omega
          subst this
          rw [← h1, Nat.sub_self] at hi
          cases hi
          exact hx
    obtain ⟨hXl, hX⟩ := hX
    refine ⟨X, rfl, fun i d hi => ?_, by rw [hXl]; unfold maxLen at hm; omega, fun x hx => ?_⟩
    · match i with
      | i + 1 => cases hi
      | 0 =>
        cases hi
        refine ⟨_, rfl, ?_⟩
        cases hXe : X with
        | nil =>
          rw [hXe] at hXl
          rw [← hXl]
          exact .nil _ _
        | cons x0 X0 =>
          have h0 := hX 0 x0 (by rw [hXe]; rfl)
          obtain ⟨cs0, g1, g2, g3, _⟩ := h0
          have hsp : a.spot = none := by
            obtain ⟨_, hl0, hget⟩ := World.cells?_some g1
            have := hget 0 hs
            rw [List.getElem?_eq_getElem (by omega)] at this
            simp only [World.cell?] at this
            split at this
            · cases hq : a.spot with
              | none => rfl
              | some q =>
                exfalso
                revert this
                simp only [Addr.add]
                repeat' split
                all_goals simp_all
            · cases this
          obtain ⟨b, off, sp0⟩ := a
          have hsp : sp0 = none := hsp
          subst hsp
          have hcell : ∀ j x, X[j]? = some x → (f x).length = sz ∧ ∀ i d, (f x)[i]? = some d → ∃ u, cellAt w b (off + j * sz + i) = some u ∧ RepD (SW w) w d u := fun j x hj => by
            obtain ⟨cs', q1, q2, q3, _⟩ := hX j x hj
            obtain ⟨_, hl', hget⟩ := World.cells?_some q1
            refine ⟨by omega, fun i d hd => ?_⟩
            obtain ⟨u, hu, hr⟩ := q3 i d hd
            rw [Nat.zero_add] at hu
            have hil := (List.getElem?_eq_some_iff.mp hu).1
            have := hget i (by omega)
            rw [Addr.add_lit, Addr.add_lit, hu] at this
            exact ⟨u, this, hr⟩
          have hbl : b < w.heap.size := by
            obtain ⟨hl1, hc1⟩ := hcell 0 x0 (by rw [hXe]; rfl)
            obtain ⟨u, hu, _⟩ := hc1 0 _ (List.getElem?_eq_getElem (by omega))
            simp only [cellAt, World.cell?] at hu
            split at hu
            · rename_i hh
              exact (Array.getElem?_eq_some_iff.1 hh).1
            · cases hu
          have hmapl : (X.map f).length = len := by simp [hXl]
          rw [← hXe, ← hmapl]
          refine .sl (X.map f) b off sz cap (fun j i => (cellAt w b (off + j * sz + i)).getD undef) (by rw [hXe]; simp) hbl (by rw [hmapl]; exact hl) (fun j el hj => ?_) (fun j el i d hj hi => ?_)
          · rw [List.getElem?_map, Option.map_eq_some_iff] at hj
            obtain ⟨x, hx, rfl⟩ := hj
            obtain ⟨h1, h2⟩ := hcell j x hx
            refine ⟨h1, fun i d hd => ?_⟩
            obtain ⟨u, hu, _⟩ := h2 i d hd
            rw [hu]; rfl
          · rw [List.getElem?_map, Option.map_eq_some_iff] at hj
            obtain ⟨x, hx, rfl⟩ := hj
            obtain ⟨h1, h2⟩ := hcell j x hx
            obtain ⟨u, hu, hr⟩ := h2 i d hi
            rw [hu]; exact hr
    · obtain ⟨i, hi⟩ := List.getElem?_of_mem hx
      obtain ⟨_, _, _, _, hq⟩ := hX i x hi
      exact hq
theorem rd_field {t : TypeId} {fs : Array Field} {H : Type} {enc : TypeId × Value → H} {w : World} {sp : Nat → Bool} {held : Bool} {n : Nat} {cs : List Value} {y : DataW H × List MemPlace} (ht : Tryz.prog.underlying t = some (.struct fs)) (h : DataW.trod enc Tryz.prog w 0 sp held n t cs = some y) :
    cs.length = Tryz.prog.cellsOf t ∧ ∀ (i : Nat) (f : Field), fs[i]? = some f → ∀ {α : Type} {g : α → List D} {Q : α → Prop}, RdT f.type g Q → ∃ x : α, Rd w (g x) cs f.offset ∧ Q x := by
  obtain ⟨xs, n', _, _, hl, hxl, hf⟩ := DataW.trod_struct ht h
  refine ⟨hl, fun i f hi α g Q hr => ?_⟩
  have hil := (Array.getElem?_eq_some_iff.1 hi).1
  have := hf i f hi
  rw [List.getElem?_eq_getElem (by omega)] at this
  obtain ⟨x, _, h2, h3⟩ := hr this
  exact ⟨x, h2.sub, h3⟩
theorem rd_slot : RdT 171 slotD (fun x => x.text.size < 9223372036854775808) := fun {_ _ _ _ _ _ _ _} h => by
  obtain ⟨hl, hf⟩ := rd_field Tryz.underlying171 h
  obtain ⟨s, h1, q1⟩ := hf 0 _ rfl (rd_str Tryz.underlying9)
  obtain ⟨u, h2, _⟩ := hf 1 _ rfl (rd_int Tryz.underlying3)
  exact ⟨⟨s, u⟩, hl.trans (by kernel_rfl), h1.app h2, q1⟩
theorem rd_ints : RdT 128 (slD intD) (fun xs => xs.length < 9223372036854775808 ∧ ∀ x ∈ xs, True) := rd_slice Tryz.underlying128 (sz := 1) (by kernel_rfl) (by decide) (rd_int Tryz.underlying3)
theorem rd_vol : RdT 173 volD (fun x => x.name.size < 9223372036854775808 ∧ x.blocks.length < 9223372036854775808) := fun {_ _ _ _ _ _ _ _} h => by
  obtain ⟨hl, hf⟩ := rd_field Tryz.underlying173 h
  obtain ⟨s, h1, q1⟩ := hf 0 _ rfl (rd_str Tryz.underlying9)
  obtain ⟨u, h2, q2⟩ := hf 1 _ rfl rd_ints
  exact ⟨⟨s, u⟩, hl.trans (by kernel_rfl), h1.app h2, q1, q2.1⟩
theorem rd_op : RdT 71 opD (fun x => x.name.size < 9223372036854775808 ∧ x.to.size < 9223372036854775808 ∧ x.text.size < 9223372036854775808) := fun {_ _ _ _ _ _ _ _} h => by
  obtain ⟨hl, hf⟩ := rd_field Tryz.underlying71 h
  obtain ⟨a, h1, _⟩ := hf 0 _ rfl (rd_int Tryz.underlying3)
  obtain ⟨b, h2, q2⟩ := hf 1 _ rfl (rd_str Tryz.underlying9)
  obtain ⟨c, h3, q3⟩ := hf 2 _ rfl (rd_str Tryz.underlying9)
  obtain ⟨d, h4, _⟩ := hf 3 _ rfl (rd_int Tryz.underlying3)
  obtain ⟨e, h5, q5⟩ := hf 4 _ rfl (rd_str Tryz.underlying9)
  exact ⟨⟨a, b, c, d, e⟩, hl.trans (by kernel_rfl), h1.app (h2.app (h3.app (h4.app h5))), q2, q3, q5⟩
theorem rd_slots : RdT 43 (slD slotD) (fun xs => xs.length < 9223372036854775808 ∧ ∀ x ∈ xs, x.text.size < 9223372036854775808) := rd_slice Tryz.underlying43 (sz := 2) (by kernel_rfl) (by decide) rd_slot
theorem rd_vols : RdT 44 (slD volD) (fun xs => xs.length < 9223372036854775808 ∧ ∀ x ∈ xs, x.name.size < 9223372036854775808 ∧ x.blocks.length < 9223372036854775808) := rd_slice Tryz.underlying44 (sz := 2) (by kernel_rfl) (by decide) rd_vol
theorem rd_ops : RdT 47 (slD opD) (fun xs => xs.length < 9223372036854775808 ∧ ∀ x ∈ xs, x.name.size < 9223372036854775808 ∧ x.to.size < 9223372036854775808 ∧ x.text.size < 9223372036854775808) := rd_slice Tryz.underlying47 (sz := 5) (by kernel_rfl) (by decide) rd_op
def poolDD (p : PoolM) : List D := [.sl (p.slots.map slotD), .sl (p.vols.map volD)]
theorem rd_pool : RdT 46 poolDD (fun p => (p.slots.length < 9223372036854775808 ∧ ∀ x ∈ p.slots, x.text.size < 9223372036854775808) ∧ (p.vols.length < 9223372036854775808 ∧ ∀ x ∈ p.vols, x.name.size < 9223372036854775808 ∧ x.blocks.length < 9223372036854775808)) := fun {_ _ _ _ _ _ _ _} h => by
  obtain ⟨hl, hf⟩ := rd_field Tryz.underlying46 h
  obtain ⟨s, h1, q1⟩ := hf 0 _ rfl rd_slots
  obtain ⟨u, h2, q2⟩ := hf 1 _ rfl rd_vols
  exact ⟨⟨s, u⟩, hl.trans (by kernel_rfl), h1.app h2, q1, q2⟩
theorem avs_of {c : Cx} {w : World} (hfix : c.fix = SW w) : ∀ {ds : List D} {cs : List Value} {avs : List AV}, Rd w ds cs 0 → cs.length = ds.length → avs.length = ds.length → (∀ (i : Nat) (d : D), ds[i]? = some d → ∀ u, RepD (SW w) w d u → ∃ a, avs[i]? = some a ∧ RepAV c w a u) → RepAVs c w avs cs := by
  intro ds cs avs h hl hl2 hav
  refine RepAVs.of_get (by omega) fun i a ha => ?_
  have hil := (List.getElem?_eq_some_iff.mp ha).1
  obtain ⟨u, hu, hr⟩ := h i _ (List.getElem?_eq_getElem (by omega))
  rw [Nat.zero_add] at hu
  obtain ⟨a', ha', hr'⟩ := hav i _ (List.getElem?_eq_getElem (by omega)) u hr
  rw [ha] at ha'; cases ha'
  exact ⟨u, hu, hr'⟩
end Go.Gn

namespace Go.Gn
open Go Go.Proofs
set_option maxRecDepth 100000
set_option maxHeartbeats 4000000
theorem look_mem : ∀ {l : List (Nat × CF)} {f : Nat} {c : CF}, look l f = some c → (f, c) ∈ l
  | [], f, c, h => by cases h
  | (k, d) :: l, f, c, h => by
    simp only [look] at h
    split at h
    · rename_i hb
      cases h
      rw [Nat.eq_of_beq_eq_true hb]
      exact List.mem_cons_self
    · exact List.mem_cons_of_mem _ (look_mem h)
theorem ok10 : FnOK Tryz.prog 10 cf10 := ⟨Tryz.f10, bodyOf Tryz.f10, by kernel_rfl, of_decide_eq_true (by kernel_rfl), by kernel_rfl, c10_ok, by kernel_rfl, by kernel_rfl, by kernel_rfl, by kernel_rfl⟩
theorem ok11 : FnOK Tryz.prog 11 cf11 := ⟨Tryz.f11, bodyOf Tryz.f11, by kernel_rfl, of_decide_eq_true (by kernel_rfl), by kernel_rfl, c11_ok, by kernel_rfl, by kernel_rfl, by kernel_rfl, by kernel_rfl⟩
theorem ok23 : FnOK Tryz.prog 23 cf23 := ⟨Tryz.f23, bodyOf Tryz.f23, by kernel_rfl, of_decide_eq_true (by kernel_rfl), by kernel_rfl, c23_ok, by kernel_rfl, by kernel_rfl, by kernel_rfl, by kernel_rfl⟩
theorem ok25 : FnOK Tryz.prog 25 cf25 := ⟨Tryz.f25, bodyOf Tryz.f25, by kernel_rfl, of_decide_eq_true (by kernel_rfl), by kernel_rfl, c25_ok, by kernel_rfl, by kernel_rfl, by kernel_rfl, by kernel_rfl⟩
theorem ok27 : FnOK Tryz.prog 27 cf27 := ⟨Tryz.f27, bodyOf Tryz.f27, by kernel_rfl, of_decide_eq_true (by kernel_rfl), by kernel_rfl, c27_ok, by kernel_rfl, by kernel_rfl, by kernel_rfl, by kernel_rfl⟩
theorem ok28 : FnOK Tryz.prog 28 cf28 := ⟨Tryz.f28, bodyOf Tryz.f28, by kernel_rfl, of_decide_eq_true (by kernel_rfl), by kernel_rfl, c28_ok, by kernel_rfl, by kernel_rfl, by kernel_rfl, by kernel_rfl⟩
theorem ok29 : FnOK Tryz.prog 29 cf29 := ⟨Tryz.f29, bodyOf Tryz.f29, by kernel_rfl, of_decide_eq_true (by kernel_rfl), by kernel_rfl, c29_ok, by kernel_rfl, by kernel_rfl, by kernel_rfl, by kernel_rfl⟩
theorem ok30 : FnOK Tryz.prog 30 cf30 := ⟨Tryz.f30, bodyOf Tryz.f30, by kernel_rfl, of_decide_eq_true (by kernel_rfl), by kernel_rfl, c30_ok, by kernel_rfl, by kernel_rfl, by kernel_rfl, by kernel_rfl⟩
theorem ok31 : FnOK Tryz.prog 31 cf31 := ⟨Tryz.f31, bodyOf Tryz.f31, by kernel_rfl, of_decide_eq_true (by kernel_rfl), by kernel_rfl, c31_ok, by kernel_rfl, by kernel_rfl, by kernel_rfl, by kernel_rfl⟩
theorem ok33 : FnOK Tryz.prog 33 cf33 := ⟨Tryz.f33, bodyOf Tryz.f33, by kernel_rfl, of_decide_eq_true (by kernel_rfl), by kernel_rfl, c33_ok, by kernel_rfl, by kernel_rfl, by kernel_rfl, by kernel_rfl⟩
theorem ok38 : FnOK Tryz.prog 38 cf38 := ⟨Tryz.f38, bodyOf Tryz.f38, by kernel_rfl, of_decide_eq_true (by kernel_rfl), by kernel_rfl, c38_ok, by kernel_rfl, by kernel_rfl, by kernel_rfl, by kernel_rfl⟩
theorem ok41 : FnOK Tryz.prog 41 cf41 := ⟨Tryz.f41, bodyOf Tryz.f41, by kernel_rfl, of_decide_eq_true (by kernel_rfl), by kernel_rfl, c41_ok, by kernel_rfl, by kernel_rfl, by kernel_rfl, by kernel_rfl⟩
theorem ok42 : FnOK Tryz.prog 42 cf42 := ⟨Tryz.f42, bodyOf Tryz.f42, by kernel_rfl, of_decide_eq_true (by kernel_rfl), by kernel_rfl, c42_ok, by kernel_rfl, by kernel_rfl, by kernel_rfl, by kernel_rfl⟩
theorem ok43 : FnOK Tryz.prog 43 cf43 := ⟨Tryz.f43, bodyOf Tryz.f43, by kernel_rfl, of_decide_eq_true (by kernel_rfl), by kernel_rfl, c43_ok, by kernel_rfl, by kernel_rfl, by kernel_rfl, by kernel_rfl⟩
theorem ok44 : FnOK Tryz.prog 44 cf44 := ⟨Tryz.f44, bodyOf Tryz.f44, by kernel_rfl, of_decide_eq_true (by kernel_rfl), by kernel_rfl, c44_ok, by kernel_rfl, by kernel_rfl, by kernel_rfl, by kernel_rfl⟩
theorem ok45 : FnOK Tryz.prog 45 cf45 := ⟨Tryz.f45, bodyOf Tryz.f45, by kernel_rfl, of_decide_eq_true (by kernel_rfl), by kernel_rfl, c45_ok, by kernel_rfl, by kernel_rfl, by kernel_rfl, by kernel_rfl⟩
theorem ok46 : FnOK Tryz.prog 46 cf46 := ⟨Tryz.f46, bodyOf Tryz.f46, by kernel_rfl, of_decide_eq_true (by kernel_rfl), by kernel_rfl, c46_ok, by kernel_rfl, by kernel_rfl, by kernel_rfl, by kernel_rfl⟩
theorem ok55 : FnOK Tryz.prog 55 cf55 := ⟨Tryz.f55, bodyOf Tryz.f55, by kernel_rfl, of_decide_eq_true (by kernel_rfl), by kernel_rfl, c55_ok, by kernel_rfl, by kernel_rfl, by kernel_rfl, by kernel_rfl⟩
theorem ok66 : FnOK Tryz.prog 66 cf66 := ⟨Tryz.f66, bodyOf Tryz.f66, by kernel_rfl, of_decide_eq_true (by kernel_rfl), by kernel_rfl, c66_ok, by kernel_rfl, by kernel_rfl, by kernel_rfl, by kernel_rfl⟩
theorem ok70 : FnOK Tryz.prog 70 cf70 := ⟨Tryz.f70, bodyOf Tryz.f70, by kernel_rfl, of_decide_eq_true (by kernel_rfl), by kernel_rfl, c70_ok, by kernel_rfl, by kernel_rfl, by kernel_rfl, by kernel_rfl⟩
theorem ok71 : FnOK Tryz.prog 71 cf71 := ⟨Tryz.f71, bodyOf Tryz.f71, by kernel_rfl, of_decide_eq_true (by kernel_rfl), by kernel_rfl, c71_ok, by kernel_rfl, by kernel_rfl, by kernel_rfl, by kernel_rfl⟩
theorem ok72 : FnOK Tryz.prog 72 cf72 := ⟨Tryz.f72, bodyOf Tryz.f72, by kernel_rfl, of_decide_eq_true (by kernel_rfl), by kernel_rfl, c72_ok, by kernel_rfl, by kernel_rfl, by kernel_rfl, by kernel_rfl⟩
theorem ok73 : FnOK Tryz.prog 73 cf73 := ⟨Tryz.f73, bodyOf Tryz.f73, by kernel_rfl, of_decide_eq_true (by kernel_rfl), by kernel_rfl, c73_ok, by kernel_rfl, by kernel_rfl, by kernel_rfl, by kernel_rfl⟩
theorem ok74 : FnOK Tryz.prog 74 cf74 := ⟨Tryz.f74, bodyOf Tryz.f74, by kernel_rfl, of_decide_eq_true (by kernel_rfl), by kernel_rfl, c74_ok, by kernel_rfl, by kernel_rfl, by kernel_rfl, by kernel_rfl⟩
theorem ok75 : FnOK Tryz.prog 75 cf75 := ⟨Tryz.f75, bodyOf Tryz.f75, by kernel_rfl, of_decide_eq_true (by kernel_rfl), by kernel_rfl, c75_ok, by kernel_rfl, by kernel_rfl, by kernel_rfl, by kernel_rfl⟩
theorem ok76 : FnOK Tryz.prog 76 cf76 := ⟨Tryz.f76, bodyOf Tryz.f76, by kernel_rfl, of_decide_eq_true (by kernel_rfl), by kernel_rfl, c76_ok, by kernel_rfl, by kernel_rfl, by kernel_rfl, by kernel_rfl⟩
theorem ok77 : FnOK Tryz.prog 77 cf77 := ⟨Tryz.f77, bodyOf Tryz.f77, by kernel_rfl, of_decide_eq_true (by kernel_rfl), by kernel_rfl, c77_ok, by kernel_rfl, by kernel_rfl, by kernel_rfl, by kernel_rfl⟩
theorem ok78 : FnOK Tryz.prog 78 cf78 := ⟨Tryz.f78, bodyOf Tryz.f78, by kernel_rfl, of_decide_eq_true (by kernel_rfl), by kernel_rfl, c78_ok, by kernel_rfl, by kernel_rfl, by kernel_rfl, by kernel_rfl⟩
theorem ok79 : FnOK Tryz.prog 79 cf79 := ⟨Tryz.f79, bodyOf Tryz.f79, by kernel_rfl, of_decide_eq_true (by kernel_rfl), by kernel_rfl, c79_ok, by kernel_rfl, by kernel_rfl, by kernel_rfl, by kernel_rfl⟩
theorem ok80 : FnOK Tryz.prog 80 cf80 := ⟨Tryz.f80, bodyOf Tryz.f80, by kernel_rfl, of_decide_eq_true (by kernel_rfl), by kernel_rfl, c80_ok, by kernel_rfl, by kernel_rfl, by kernel_rfl, by kernel_rfl⟩
theorem ok81 : FnOK Tryz.prog 81 cf81 := ⟨Tryz.f81, bodyOf Tryz.f81, by kernel_rfl, of_decide_eq_true (by kernel_rfl), by kernel_rfl, c81_ok, by kernel_rfl, by kernel_rfl, by kernel_rfl, by kernel_rfl⟩
theorem ok82 : FnOK Tryz.prog 82 cf82 := ⟨Tryz.f82, bodyOf Tryz.f82, by kernel_rfl, of_decide_eq_true (by kernel_rfl), by kernel_rfl, c82_ok, by kernel_rfl, by kernel_rfl, by kernel_rfl, by kernel_rfl⟩
theorem ok83 : FnOK Tryz.prog 83 cf83 := ⟨Tryz.f83, bodyOf Tryz.f83, by kernel_rfl, of_decide_eq_true (by kernel_rfl), by kernel_rfl, c83_ok, by kernel_rfl, by kernel_rfl, by kernel_rfl, by kernel_rfl⟩
theorem ok84 : FnOK Tryz.prog 84 cf84 := ⟨Tryz.f84, bodyOf Tryz.f84, by kernel_rfl, of_decide_eq_true (by kernel_rfl), by kernel_rfl, c84_ok, by kernel_rfl, by kernel_rfl, by kernel_rfl, by kernel_rfl⟩
theorem ok85 : FnOK Tryz.prog 85 cf85 := ⟨Tryz.f85, bodyOf Tryz.f85, by kernel_rfl, of_decide_eq_true (by kernel_rfl), by kernel_rfl, c85_ok, by kernel_rfl, by kernel_rfl, by kernel_rfl, by kernel_rfl⟩
theorem ok86 : FnOK Tryz.prog 86 cf86 := ⟨Tryz.f86, bodyOf Tryz.f86, by kernel_rfl, of_decide_eq_true (by kernel_rfl), by kernel_rfl, c86_ok, by kernel_rfl, by kernel_rfl, by kernel_rfl, by kernel_rfl⟩
theorem ok88 : FnOK Tryz.prog 88 cf88 := ⟨Tryz.f88, bodyOf Tryz.f88, by kernel_rfl, of_decide_eq_true (by kernel_rfl), by kernel_rfl, c88_ok, by kernel_rfl, by kernel_rfl, by kernel_rfl, by kernel_rfl⟩
theorem ok89 : FnOK Tryz.prog 89 cf89 := ⟨Tryz.f89, bodyOf Tryz.f89, by kernel_rfl, of_decide_eq_true (by kernel_rfl), by kernel_rfl, c89_ok, by kernel_rfl, by kernel_rfl, by kernel_rfl, by kernel_rfl⟩
theorem ok90 : FnOK Tryz.prog 90 cf90 := ⟨Tryz.f90, bodyOf Tryz.f90, by kernel_rfl, of_decide_eq_true (by kernel_rfl), by kernel_rfl, c90_ok, by kernel_rfl, by kernel_rfl, by kernel_rfl, by kernel_rfl⟩
theorem ok91 : FnOK Tryz.prog 91 cf91 := ⟨Tryz.f91, bodyOf Tryz.f91, by kernel_rfl, of_decide_eq_true (by kernel_rfl), by kernel_rfl, c91_ok, by kernel_rfl, by kernel_rfl, by kernel_rfl, by kernel_rfl⟩
theorem ok92 : FnOK Tryz.prog 92 cf92 := ⟨Tryz.f92, bodyOf Tryz.f92, by kernel_rfl, of_decide_eq_true (by kernel_rfl), by kernel_rfl, c92_ok, by kernel_rfl, by kernel_rfl, by kernel_rfl, by kernel_rfl⟩
theorem ok93 : FnOK Tryz.prog 93 cf93 := ⟨Tryz.f93, bodyOf Tryz.f93, by kernel_rfl, of_decide_eq_true (by kernel_rfl), by kernel_rfl, c93_ok, by kernel_rfl, by kernel_rfl, by kernel_rfl, by kernel_rfl⟩
theorem ok97 : FnOK Tryz.prog 97 cf97 := ⟨Tryz.f97, bodyOf Tryz.f97, by kernel_rfl, of_decide_eq_true (by kernel_rfl), by kernel_rfl, c97_ok, by kernel_rfl, by kernel_rfl, by kernel_rfl, by kernel_rfl⟩
theorem ok98 : FnOK Tryz.prog 98 cf98 := ⟨Tryz.f98, bodyOf Tryz.f98, by kernel_rfl, of_decide_eq_true (by kernel_rfl), by kernel_rfl, c98_ok, by kernel_rfl, by kernel_rfl, by kernel_rfl, by kernel_rfl⟩
theorem ok100 : FnOK Tryz.prog 100 cf100 := ⟨Tryz.f100, bodyOf Tryz.f100, by kernel_rfl, of_decide_eq_true (by kernel_rfl), by kernel_rfl, c100_ok, by kernel_rfl, by kernel_rfl, by kernel_rfl, by kernel_rfl⟩
theorem ok101 : FnOK Tryz.prog 101 cf101 := ⟨Tryz.f101, bodyOf Tryz.f101, by kernel_rfl, of_decide_eq_true (by kernel_rfl), by kernel_rfl, c101_ok, by kernel_rfl, by kernel_rfl, by kernel_rfl, by kernel_rfl⟩
theorem ok102 : FnOK Tryz.prog 102 cf102 := ⟨Tryz.f102, bodyOf Tryz.f102, by kernel_rfl, of_decide_eq_true (by kernel_rfl), by kernel_rfl, c102_ok, by kernel_rfl, by kernel_rfl, by kernel_rfl, by kernel_rfl⟩
theorem ok103 : FnOK Tryz.prog 103 cf103 := ⟨Tryz.f103, bodyOf Tryz.f103, by kernel_rfl, of_decide_eq_true (by kernel_rfl), by kernel_rfl, c103_ok, by kernel_rfl, by kernel_rfl, by kernel_rfl, by kernel_rfl⟩
theorem ok114 : FnOK Tryz.prog 114 cf114 := ⟨Tryz.f114, bodyOf Tryz.f114, by kernel_rfl, of_decide_eq_true (by kernel_rfl), by kernel_rfl, c114_ok, by kernel_rfl, by kernel_rfl, by kernel_rfl, by kernel_rfl⟩
theorem ok115 : FnOK Tryz.prog 115 cf115 := ⟨Tryz.f115, bodyOf Tryz.f115, by kernel_rfl, of_decide_eq_true (by kernel_rfl), by kernel_rfl, c115_ok, by kernel_rfl, by kernel_rfl, by kernel_rfl, by kernel_rfl⟩
theorem ok116 : FnOK Tryz.prog 116 cf116 := ⟨Tryz.f116, bodyOf Tryz.f116, by kernel_rfl, of_decide_eq_true (by kernel_rfl), by kernel_rfl, c116_ok, by kernel_rfl, by kernel_rfl, by kernel_rfl, by kernel_rfl⟩
theorem ok117 : FnOK Tryz.prog 117 cf117 := ⟨Tryz.f117, bodyOf Tryz.f117, by kernel_rfl, of_decide_eq_true (by kernel_rfl), by kernel_rfl, c117_ok, by kernel_rfl, by kernel_rfl, by kernel_rfl, by kernel_rfl⟩
theorem ok119 : FnOK Tryz.prog 119 cf119 := ⟨Tryz.f119, bodyOf Tryz.f119, by kernel_rfl, of_decide_eq_true (by kernel_rfl), by kernel_rfl, c119_ok, by kernel_rfl, by kernel_rfl, by kernel_rfl, by kernel_rfl⟩
theorem ok120 : FnOK Tryz.prog 120 cf120 := ⟨Tryz.f120, bodyOf Tryz.f120, by kernel_rfl, of_decide_eq_true (by kernel_rfl), by kernel_rfl, c120_ok, by kernel_rfl, by kernel_rfl, by kernel_rfl, by kernel_rfl⟩
theorem ok121 : FnOK Tryz.prog 121 cf121 := ⟨Tryz.f121, bodyOf Tryz.f121, by kernel_rfl, of_decide_eq_true (by kernel_rfl), by kernel_rfl, c121_ok, by kernel_rfl, by kernel_rfl, by kernel_rfl, by kernel_rfl⟩
theorem ok122 : FnOK Tryz.prog 122 cf122 := ⟨Tryz.f122, bodyOf Tryz.f122, by kernel_rfl, of_decide_eq_true (by kernel_rfl), by kernel_rfl, c122_ok, by kernel_rfl, by kernel_rfl, by kernel_rfl, by kernel_rfl⟩
theorem ok123 : FnOK Tryz.prog 123 cf123 := ⟨Tryz.f123, bodyOf Tryz.f123, by kernel_rfl, of_decide_eq_true (by kernel_rfl), by kernel_rfl, c123_ok, by kernel_rfl, by kernel_rfl, by kernel_rfl, by kernel_rfl⟩
theorem ok124 : FnOK Tryz.prog 124 cf124 := ⟨Tryz.f124, bodyOf Tryz.f124, by kernel_rfl, of_decide_eq_true (by kernel_rfl), by kernel_rfl, c124_ok, by kernel_rfl, by kernel_rfl, by kernel_rfl, by kernel_rfl⟩
theorem ok125 : FnOK Tryz.prog 125 cf125 := ⟨Tryz.f125, bodyOf Tryz.f125, by kernel_rfl, of_decide_eq_true (by kernel_rfl), by kernel_rfl, c125_ok, by kernel_rfl, by kernel_rfl, by kernel_rfl, by kernel_rfl⟩
theorem ok126 : FnOK Tryz.prog 126 cf126 := ⟨Tryz.f126, bodyOf Tryz.f126, by kernel_rfl, of_decide_eq_true (by kernel_rfl), by kernel_rfl, c126_ok, by kernel_rfl, by kernel_rfl, by kernel_rfl, by kernel_rfl⟩
theorem ok127 : FnOK Tryz.prog 127 cf127 := ⟨Tryz.f127, bodyOf Tryz.f127, by kernel_rfl, of_decide_eq_true (by kernel_rfl), by kernel_rfl, c127_ok, by kernel_rfl, by kernel_rfl, by kernel_rfl, by kernel_rfl⟩
theorem ok128 : FnOK Tryz.prog 128 cf128 := ⟨Tryz.f128, bodyOf Tryz.f128, by kernel_rfl, of_decide_eq_true (by kernel_rfl), by kernel_rfl, c128_ok, by kernel_rfl, by kernel_rfl, by kernel_rfl, by kernel_rfl⟩
theorem ok129 : FnOK Tryz.prog 129 cf129 := ⟨Tryz.f129, bodyOf Tryz.f129, by kernel_rfl, of_decide_eq_true (by kernel_rfl), by kernel_rfl, c129_ok, by kernel_rfl, by kernel_rfl, by kernel_rfl, by kernel_rfl⟩
theorem ok130 : FnOK Tryz.prog 130 cf130 := ⟨Tryz.f130, bodyOf Tryz.f130, by kernel_rfl, of_decide_eq_true (by kernel_rfl), by kernel_rfl, c130_ok, by kernel_rfl, by kernel_rfl, by kernel_rfl, by kernel_rfl⟩
theorem ok132 : FnOK Tryz.prog 132 cf132 := ⟨Tryz.f132, bodyOf Tryz.f132, by kernel_rfl, of_decide_eq_true (by kernel_rfl), by kernel_rfl, c132_ok, by kernel_rfl, by kernel_rfl, by kernel_rfl, by kernel_rfl⟩
theorem ok133 : FnOK Tryz.prog 133 cf133 := ⟨Tryz.f133, bodyOf Tryz.f133, by kernel_rfl, of_decide_eq_true (by kernel_rfl), by kernel_rfl, c133_ok, by kernel_rfl, by kernel_rfl, by kernel_rfl, by kernel_rfl⟩
theorem ok134 : FnOK Tryz.prog 134 cf134 := ⟨Tryz.f134, bodyOf Tryz.f134, by kernel_rfl, of_decide_eq_true (by kernel_rfl), by kernel_rfl, c134_ok, by kernel_rfl, by kernel_rfl, by kernel_rfl, by kernel_rfl⟩
theorem ok135 : FnOK Tryz.prog 135 cf135 := ⟨Tryz.f135, bodyOf Tryz.f135, by kernel_rfl, of_decide_eq_true (by kernel_rfl), by kernel_rfl, c135_ok, by kernel_rfl, by kernel_rfl, by kernel_rfl, by kernel_rfl⟩
theorem ok136 : FnOK Tryz.prog 136 cf136 := ⟨Tryz.f136, bodyOf Tryz.f136, by kernel_rfl, of_decide_eq_true (by kernel_rfl), by kernel_rfl, c136_ok, by kernel_rfl, by kernel_rfl, by kernel_rfl, by kernel_rfl⟩
theorem ok137 : FnOK Tryz.prog 137 cf137 := ⟨Tryz.f137, bodyOf Tryz.f137, by kernel_rfl, of_decide_eq_true (by kernel_rfl), by kernel_rfl, c137_ok, by kernel_rfl, by kernel_rfl, by kernel_rfl, by kernel_rfl⟩
theorem ok138 : FnOK Tryz.prog 138 cf138 := ⟨Tryz.f138, bodyOf Tryz.f138, by kernel_rfl, of_decide_eq_true (by kernel_rfl), by kernel_rfl, c138_ok, by kernel_rfl, by kernel_rfl, by kernel_rfl, by kernel_rfl⟩
theorem ok139 : FnOK Tryz.prog 139 cf139 := ⟨Tryz.f139, bodyOf Tryz.f139, by kernel_rfl, of_decide_eq_true (by kernel_rfl), by kernel_rfl, c139_ok, by kernel_rfl, by kernel_rfl, by kernel_rfl, by kernel_rfl⟩
theorem ok140 : FnOK Tryz.prog 140 cf140 := ⟨Tryz.f140, bodyOf Tryz.f140, by kernel_rfl, of_decide_eq_true (by kernel_rfl), by kernel_rfl, c140_ok, by kernel_rfl, by kernel_rfl, by kernel_rfl, by kernel_rfl⟩
theorem ok141 : FnOK Tryz.prog 141 cf141 := ⟨Tryz.f141, bodyOf Tryz.f141, by kernel_rfl, of_decide_eq_true (by kernel_rfl), by kernel_rfl, c141_ok, by kernel_rfl, by kernel_rfl, by kernel_rfl, by kernel_rfl⟩
theorem ok142 : FnOK Tryz.prog 142 cf142 := ⟨Tryz.f142, bodyOf Tryz.f142, by kernel_rfl, of_decide_eq_true (by kernel_rfl), by kernel_rfl, c142_ok, by kernel_rfl, by kernel_rfl, by kernel_rfl, by kernel_rfl⟩
theorem ok143 : FnOK Tryz.prog 143 cf143 := ⟨Tryz.f143, bodyOf Tryz.f143, by kernel_rfl, of_decide_eq_true (by kernel_rfl), by kernel_rfl, c143_ok, by kernel_rfl, by kernel_rfl, by kernel_rfl, by kernel_rfl⟩
theorem ok144 : FnOK Tryz.prog 144 cf144 := ⟨Tryz.f144, bodyOf Tryz.f144, by kernel_rfl, of_decide_eq_true (by kernel_rfl), by kernel_rfl, c144_ok, by kernel_rfl, by kernel_rfl, by kernel_rfl, by kernel_rfl⟩
theorem ok145 : FnOK Tryz.prog 145 cf145 := ⟨Tryz.f145, bodyOf Tryz.f145, by kernel_rfl, of_decide_eq_true (by kernel_rfl), by kernel_rfl, c145_ok, by kernel_rfl, by kernel_rfl, by kernel_rfl, by kernel_rfl⟩
theorem ok147 : FnOK Tryz.prog 147 cf147 := ⟨Tryz.f147, bodyOf Tryz.f147, by kernel_rfl, of_decide_eq_true (by kernel_rfl), by kernel_rfl, c147_ok, by kernel_rfl, by kernel_rfl, by kernel_rfl, by kernel_rfl⟩
theorem ok150 : FnOK Tryz.prog 150 cf150 := ⟨Tryz.f150, bodyOf Tryz.f150, by kernel_rfl, of_decide_eq_true (by kernel_rfl), by kernel_rfl, c150_ok, by kernel_rfl, by kernel_rfl, by kernel_rfl, by kernel_rfl⟩
theorem ok151 : FnOK Tryz.prog 151 cf151 := ⟨Tryz.f151, bodyOf Tryz.f151, by kernel_rfl, of_decide_eq_true (by kernel_rfl), by kernel_rfl, c151_ok, by kernel_rfl, by kernel_rfl, by kernel_rfl, by kernel_rfl⟩
theorem ok152 : FnOK Tryz.prog 152 cf152 := ⟨Tryz.f152, bodyOf Tryz.f152, by kernel_rfl, of_decide_eq_true (by kernel_rfl), by kernel_rfl, c152_ok, by kernel_rfl, by kernel_rfl, by kernel_rfl, by kernel_rfl⟩
theorem ok153 : FnOK Tryz.prog 153 cf153 := ⟨Tryz.f153, bodyOf Tryz.f153, by kernel_rfl, of_decide_eq_true (by kernel_rfl), by kernel_rfl, c153_ok, by kernel_rfl, by kernel_rfl, by kernel_rfl, by kernel_rfl⟩
theorem ok154 : FnOK Tryz.prog 154 cf154 := ⟨Tryz.f154, bodyOf Tryz.f154, by kernel_rfl, of_decide_eq_true (by kernel_rfl), by kernel_rfl, c154_ok, by kernel_rfl, by kernel_rfl, by kernel_rfl, by kernel_rfl⟩
theorem ok155 : FnOK Tryz.prog 155 cf155 := ⟨Tryz.f155, bodyOf Tryz.f155, by kernel_rfl, of_decide_eq_true (by kernel_rfl), by kernel_rfl, c155_ok, by kernel_rfl, by kernel_rfl, by kernel_rfl, by kernel_rfl⟩
theorem ok156 : FnOK Tryz.prog 156 cf156 := ⟨Tryz.f156, bodyOf Tryz.f156, by kernel_rfl, of_decide_eq_true (by kernel_rfl), by kernel_rfl, c156_ok, by kernel_rfl, by kernel_rfl, by kernel_rfl, by kernel_rfl⟩
theorem ok164 : FnOK Tryz.prog 164 cf164 := ⟨Tryz.f164, bodyOf Tryz.f164, by kernel_rfl, of_decide_eq_true (by kernel_rfl), by kernel_rfl, c164_ok, by kernel_rfl, by kernel_rfl, by kernel_rfl, by kernel_rfl⟩
theorem ok165 : FnOK Tryz.prog 165 cf165 := ⟨Tryz.f165, bodyOf Tryz.f165, by kernel_rfl, of_decide_eq_true (by kernel_rfl), by kernel_rfl, c165_ok, by kernel_rfl, by kernel_rfl, by kernel_rfl, by kernel_rfl⟩
theorem ok166 : FnOK Tryz.prog 166 cf166 := ⟨Tryz.f166, bodyOf Tryz.f166, by kernel_rfl, of_decide_eq_true (by kernel_rfl), by kernel_rfl, c166_ok, by kernel_rfl, by kernel_rfl, by kernel_rfl, by kernel_rfl⟩
theorem ok167 : FnOK Tryz.prog 167 cf167 := ⟨Tryz.f167, bodyOf Tryz.f167, by kernel_rfl, of_decide_eq_true (by kernel_rfl), by kernel_rfl, c167_ok, by kernel_rfl, by kernel_rfl, by kernel_rfl, by kernel_rfl⟩
theorem ok168 : FnOK Tryz.prog 168 cf168 := ⟨Tryz.f168, bodyOf Tryz.f168, by kernel_rfl, of_decide_eq_true (by kernel_rfl), by kernel_rfl, c168_ok, by kernel_rfl, by kernel_rfl, by kernel_rfl, by kernel_rfl⟩
theorem ok169 : FnOK Tryz.prog 169 cf169 := ⟨Tryz.f169, bodyOf Tryz.f169, by kernel_rfl, of_decide_eq_true (by kernel_rfl), by kernel_rfl, c169_ok, by kernel_rfl, by kernel_rfl, by kernel_rfl, by kernel_rfl⟩
theorem ok170 : FnOK Tryz.prog 170 cf170 := ⟨Tryz.f170, bodyOf Tryz.f170, by kernel_rfl, of_decide_eq_true (by kernel_rfl), by kernel_rfl, c170_ok, by kernel_rfl, by kernel_rfl, by kernel_rfl, by kernel_rfl⟩
theorem ok171 : FnOK Tryz.prog 171 cf171 := ⟨Tryz.f171, bodyOf Tryz.f171, by kernel_rfl, of_decide_eq_true (by kernel_rfl), by kernel_rfl, c171_ok, by kernel_rfl, by kernel_rfl, by kernel_rfl, by kernel_rfl⟩
theorem ok172 : FnOK Tryz.prog 172 cf172 := ⟨Tryz.f172, bodyOf Tryz.f172, by kernel_rfl, of_decide_eq_true (by kernel_rfl), by kernel_rfl, c172_ok, by kernel_rfl, by kernel_rfl, by kernel_rfl, by kernel_rfl⟩
theorem ok173 : FnOK Tryz.prog 173 cf173 := ⟨Tryz.f173, bodyOf Tryz.f173, by kernel_rfl, of_decide_eq_true (by kernel_rfl), by kernel_rfl, c173_ok, by kernel_rfl, by kernel_rfl, by kernel_rfl, by kernel_rfl⟩
theorem ok174 : FnOK Tryz.prog 174 cf174 := ⟨Tryz.f174, bodyOf Tryz.f174, by kernel_rfl, of_decide_eq_true (by kernel_rfl), by kernel_rfl, c174_ok, by kernel_rfl, by kernel_rfl, by kernel_rfl, by kernel_rfl⟩
theorem ok175 : FnOK Tryz.prog 175 cf175 := ⟨Tryz.f175, bodyOf Tryz.f175, by kernel_rfl, of_decide_eq_true (by kernel_rfl), by kernel_rfl, c175_ok, by kernel_rfl, by kernel_rfl, by kernel_rfl, by kernel_rfl⟩
theorem ok178 : FnOK Tryz.prog 178 cf178 := ⟨Tryz.f178, bodyOf Tryz.f178, by kernel_rfl, of_decide_eq_true (by kernel_rfl), by kernel_rfl, c178_ok, by kernel_rfl, by kernel_rfl, by kernel_rfl, by kernel_rfl⟩
theorem ok179 : FnOK Tryz.prog 179 cf179 := ⟨Tryz.f179, bodyOf Tryz.f179, by kernel_rfl, of_decide_eq_true (by kernel_rfl), by kernel_rfl, c179_ok, by kernel_rfl, by kernel_rfl, by kernel_rfl, by kernel_rfl⟩
theorem ok180 : FnOK Tryz.prog 180 cf180 := ⟨Tryz.f180, bodyOf Tryz.f180, by kernel_rfl, of_decide_eq_true (by kernel_rfl), by kernel_rfl, c180_ok, by kernel_rfl, by kernel_rfl, by kernel_rfl, by kernel_rfl⟩
theorem ok184 : FnOK Tryz.prog 184 cf184 := ⟨Tryz.f184, bodyOf Tryz.f184, by kernel_rfl, of_decide_eq_true (by kernel_rfl), by kernel_rfl, c184_ok, by kernel_rfl, by kernel_rfl, by kernel_rfl, by kernel_rfl⟩
theorem ok185 : FnOK Tryz.prog 185 cf185 := ⟨Tryz.f185, bodyOf Tryz.f185, by kernel_rfl, of_decide_eq_true (by kernel_rfl), by kernel_rfl, c185_ok, by kernel_rfl, by kernel_rfl, by kernel_rfl, by kernel_rfl⟩
theorem ok186 : FnOK Tryz.prog 186 cf186 := ⟨Tryz.f186, bodyOf Tryz.f186, by kernel_rfl, of_decide_eq_true (by kernel_rfl), by kernel_rfl, c186_ok, by kernel_rfl, by kernel_rfl, by kernel_rfl, by kernel_rfl⟩
theorem ok187 : FnOK Tryz.prog 187 cf187 := ⟨Tryz.f187, bodyOf Tryz.f187, by kernel_rfl, of_decide_eq_true (by kernel_rfl), by kernel_rfl, c187_ok, by kernel_rfl, by kernel_rfl, by kernel_rfl, by kernel_rfl⟩
theorem ok194 : FnOK Tryz.prog 194 cf194 := ⟨Tryz.f194, bodyOf Tryz.f194, by kernel_rfl, of_decide_eq_true (by kernel_rfl), by kernel_rfl, c194_ok, by kernel_rfl, by kernel_rfl, by kernel_rfl, by kernel_rfl⟩
theorem ok195 : FnOK Tryz.prog 195 cf195 := ⟨Tryz.f195, bodyOf Tryz.f195, by kernel_rfl, of_decide_eq_true (by kernel_rfl), by kernel_rfl, c195_ok, by kernel_rfl, by kernel_rfl, by kernel_rfl, by kernel_rfl⟩
theorem ok196 : FnOK Tryz.prog 196 cf196 := ⟨Tryz.f196, bodyOf Tryz.f196, by kernel_rfl, of_decide_eq_true (by kernel_rfl), by kernel_rfl, c196_ok, by kernel_rfl, by kernel_rfl, by kernel_rfl, by kernel_rfl⟩
theorem ok200 : FnOK Tryz.prog 200 cf200 := ⟨Tryz.f200, bodyOf Tryz.f200, by kernel_rfl, of_decide_eq_true (by kernel_rfl), by kernel_rfl, c200_ok, by kernel_rfl, by kernel_rfl, by kernel_rfl, by kernel_rfl⟩
theorem ok201 : FnOK Tryz.prog 201 cf201 := ⟨Tryz.f201, bodyOf Tryz.f201, by kernel_rfl, of_decide_eq_true (by kernel_rfl), by kernel_rfl, c201_ok, by kernel_rfl, by kernel_rfl, by kernel_rfl, by kernel_rfl⟩
theorem ok202 : FnOK Tryz.prog 202 cf202 := ⟨Tryz.f202, bodyOf Tryz.f202, by kernel_rfl, of_decide_eq_true (by kernel_rfl), by kernel_rfl, c202_ok, by kernel_rfl, by kernel_rfl, by kernel_rfl, by kernel_rfl⟩
theorem ok207 : FnOK Tryz.prog 207 cf207 := ⟨Tryz.f207, bodyOf Tryz.f207, by kernel_rfl, of_decide_eq_true (by kernel_rfl), by kernel_rfl, c207_ok, by kernel_rfl, by kernel_rfl, by kernel_rfl, by kernel_rfl⟩
theorem ok208 : FnOK Tryz.prog 208 cf208 := ⟨Tryz.f208, bodyOf Tryz.f208, by kernel_rfl, of_decide_eq_true (by kernel_rfl), by kernel_rfl, c208_ok, by kernel_rfl, by kernel_rfl, by kernel_rfl, by kernel_rfl⟩
theorem tab_ok (ok99 : RowOK Tryz.prog 99 cf99) (ok146 : RowOK Tryz.prog 146 cf146) (ok148 : RowOK Tryz.prog 148 cf148) (ok176 : RowOK Tryz.prog 176 cf176) (ok177 : RowOK Tryz.prog 177 cf177) (ok182 : RowOK Tryz.prog 182 cf182) (ok183 : RowOK Tryz.prog 183 cf183) : ∀ p, p ∈ tab → RowOK Tryz.prog p.1 p.2 := by
  unfold tab
  refine List.forall_mem_cons.2 ⟨ok10, List.forall_mem_cons.2 ⟨ok11, List.forall_mem_cons.2 ⟨ok23, List.forall_mem_cons.2 ⟨ok25, List.forall_mem_cons.2 ⟨ok27, List.forall_mem_cons.2 ⟨ok28, List.forall_mem_cons.2 ⟨ok29, List.forall_mem_cons.2 ⟨ok30, List.forall_mem_cons.2 ⟨ok31, List.forall_mem_cons.2 ⟨ok33, List.forall_mem_cons.2 ⟨ok38, List.forall_mem_cons.2 ⟨ok41, List.forall_mem_cons.2 ⟨ok42, List.forall_mem_cons.2 ⟨ok43, List.forall_mem_cons.2 ⟨ok44, List.forall_mem_cons.2 ⟨ok45, List.forall_mem_cons.2 ⟨ok46, List.forall_mem_cons.2 ⟨ok55, List.forall_mem_cons.2 ⟨ok66, List.forall_mem_cons.2 ⟨ok70, List.forall_mem_cons.2 ⟨ok71, List.forall_mem_cons.2 ⟨ok72, List.forall_mem_cons.2 ⟨ok73, List.forall_mem_cons.2 ⟨ok74, List.forall_mem_cons.2 ⟨ok75, List.forall_mem_cons.2 ⟨ok76, List.forall_mem_cons.2 ⟨ok77, List.forall_mem_cons.2 ⟨ok78, List.forall_mem_cons.2 ⟨ok79, List.forall_mem_cons.2 ⟨ok80, List.forall_mem_cons.2 ⟨ok81, List.forall_mem_cons.2 ⟨ok82, List.forall_mem_cons.2 ⟨ok83, List.forall_mem_cons.2 ⟨ok84, List.forall_mem_cons.2 ⟨ok85, List.forall_mem_cons.2 ⟨ok86, List.forall_mem_cons.2 ⟨ok88, List.forall_mem_cons.2 ⟨ok89, List.forall_mem_cons.2 ⟨ok90, List.forall_mem_cons.2 ⟨ok91, List.forall_mem_cons.2 ⟨ok92, List.forall_mem_cons.2 ⟨ok93, List.forall_mem_cons.2 ⟨ok97, List.forall_mem_cons.2 ⟨ok98, List.forall_mem_cons.2 ⟨ok99, List.forall_mem_cons.2 ⟨ok100, List.forall_mem_cons.2 ⟨ok101, List.forall_mem_cons.2 ⟨ok102, List.forall_mem_cons.2 ⟨ok103, List.forall_mem_cons.2 ⟨ok114, List.forall_mem_cons.2 ⟨ok115, List.forall_mem_cons.2 ⟨ok116, List.forall_mem_cons.2 ⟨ok117, List.forall_mem_cons.2 ⟨ok119, List.forall_mem_cons.2 ⟨ok120, List.forall_mem_cons.2 ⟨ok121, List.forall_mem_cons.2 ⟨ok122, List.forall_mem_cons.2 ⟨ok123, List.forall_mem_cons.2 ⟨ok124, List.forall_mem_cons.2 ⟨ok125, List.forall_mem_cons.2 ⟨ok126, List.forall_mem_cons.2 ⟨ok127, List.forall_mem_cons.2 ⟨ok128, List.forall_mem_cons.2 ⟨ok129, List.forall_mem_cons.2 ⟨ok130, List.forall_mem_cons.2 ⟨ok132, List.forall_mem_cons.2 ⟨ok133, List.forall_mem_cons.2 ⟨ok134, List.forall_mem_cons.2 ⟨ok135, List.forall_mem_cons.2 ⟨ok136, List.forall_mem_cons.2 ⟨ok137, List.forall_mem_cons.2 ⟨ok138, List.forall_mem_cons.2 ⟨ok139, List.forall_mem_cons.2 ⟨ok140, List.forall_mem_cons.2 ⟨ok141, List.forall_mem_cons.2 ⟨ok142, List.forall_mem_cons.2 ⟨ok143, List.forall_mem_cons.2 ⟨ok144, List.forall_mem_cons.2 ⟨ok145, List.forall_mem_cons.2 ⟨ok146, List.forall_mem_cons.2 ⟨ok147, List.forall_mem_cons.2 ⟨ok148, List.forall_mem_cons.2 ⟨ok150, List.forall_mem_cons.2 ⟨ok151, List.forall_mem_cons.2 ⟨ok152, List.forall_mem_cons.2 ⟨ok153, List.forall_mem_cons.2 ⟨ok154, List.forall_mem_cons.2 ⟨ok155, List.forall_mem_cons.2 ⟨ok156, List.forall_mem_cons.2 ⟨ok164, List.forall_mem_cons.2 ⟨ok165, List.forall_mem_cons.2 ⟨ok166, List.forall_mem_cons.2 ⟨ok167, List.forall_mem_cons.2 ⟨ok168, List.forall_mem_cons.2 ⟨ok169, List.forall_mem_cons.2 ⟨ok170, List.forall_mem_cons.2 ⟨ok171, List.forall_mem_cons.2 ⟨ok172, List.forall_mem_cons.2 ⟨ok173, List.forall_mem_cons.2 ⟨ok174, List.forall_mem_cons.2 ⟨ok175, List.forall_mem_cons.2 ⟨ok176, List.forall_mem_cons.2 ⟨ok177, List.forall_mem_cons.2 ⟨ok178, List.forall_mem_cons.2 ⟨ok179, List.forall_mem_cons.2 ⟨ok180, List.forall_mem_cons.2 ⟨ok182, List.forall_mem_cons.2 ⟨ok183, List.forall_mem_cons.2 ⟨ok184, List.forall_mem_cons.2 ⟨ok185, List.forall_mem_cons.2 ⟨ok186, List.forall_mem_cons.2 ⟨ok187, List.forall_mem_cons.2 ⟨ok194, List.forall_mem_cons.2 ⟨ok195, List.forall_mem_cons.2 ⟨ok196, List.forall_mem_cons.2 ⟨ok200, List.forall_mem_cons.2 ⟨ok201, List.forall_mem_cons.2 ⟨ok202, List.forall_mem_cons.2 ⟨ok207, List.forall_mem_cons.2 ⟨ok208, fun _ h => absurd h List.not_mem_nil⟩⟩⟩⟩⟩⟩⟩⟩⟩⟩⟩⟩⟩⟩⟩⟩⟩⟩⟩⟩⟩⟩⟩⟩⟩⟩⟩⟩⟩⟩⟩⟩⟩⟩⟩⟩⟩⟩⟩⟩⟩⟩⟩⟩⟩⟩⟩⟩⟩⟩⟩⟩⟩⟩⟩⟩⟩⟩⟩⟩⟩⟩⟩⟩⟩⟩⟩⟩⟩⟩⟩⟩⟩⟩⟩⟩⟩⟩⟩⟩⟩⟩⟩⟩⟩⟩⟩⟩⟩⟩⟩⟩⟩⟩⟩⟩⟩⟩⟩⟩⟩⟩⟩⟩⟩⟩⟩⟩⟩⟩⟩⟩⟩⟩⟩⟩⟩⟩⟩⟩
end Go.Gn

namespace Go.Gn
open Go Go.RowKit Go.Proofs Go.Shelf
set_option linter.unusedVariables false
set_option linter.unusedSimpArgs false
theorem X.mixed : Tryz.prog.follows .mixedOrders = true := by kernel_rfl
set_option maxHeartbeats 2000000 in
set_option maxRecDepth 100000 in
theorem clone182_some (a : Addr) (n c : Nat) (news : List Value) (w : World) (hl : news.length = n * 2) (hnews : ∀ j u, news[j]? = some u → w.cell? (a.add j) = some u) (h1 : ∀ u ∈ news, u.oneCell' = true) (hbig : n * 24 ≤ 140737488355328) :
    Calls Tryz.prog 182 #[.slice (some a) n c] w fun e w' => ∃ v', e = .returned v' ∧ w'.ownsRow w.heap.size 134 2 v' n news ∧ v' ≠ .slice none 0 0 ∧ Below w.heap.size w w' := by
  have mixed := X.mixed
  have hin : (Tryz.prog.info? 134).map (fun i => (i.zero, i.size, i.bytes)) = some (some (.agg #[.string ⟨#[]⟩, .int .i64 0] : Value), 2, 24) := by kernel_rfl
  obtain ⟨i0, hi, hz⟩ := Option.map_eq_some_iff.1 hin
  have hz0 : i0.zero = some (.agg #[.string ⟨#[]⟩, .int .i64 0] : Value) := congrArg Prod.fst hz
  have hz1 : i0.size = 2 := congrArg (fun x => x.2.1) hz
  have hz2 : i0.bytes = 24 := congrArg (fun x => x.2.2) hz
  have ht := Tryz.underlying51
  have q : ∀ (w : World) (a : Option Addr) (n c n' c' : Nat), (binOp .eql 51 (.slice a n c) (.slice none n' c')).run Tryz.prog w = .ok (.bool a.isNone) w := fun w a n c n' c' => Lib.run_eql_slice_nil w _ _ a n c n' c' ht
  have A : True → (∀ j u, news[j]? = some u → w.cell? (a.add j) = some u) := fun _ => hnews
  clear hnews
  go_enter Tryz.func182, Tryz.ntmps182
  go_wp2_with (at_builtin; refine wpList_append_own _ rfl _ _ 51 rfl w.heap.size 134 i0 (.agg #[.string ⟨#[]⟩, .int .i64 0]) 2 24 ht hi hz0 hz1 hz2 rfl (by decide) _ _ _ rfl (World.ownsRow_made w #[] 0 (Nat.le_refl _) (Nat.zero_le _) rfl) a n c news rfl ?qc1 ?qc2 ?qc3 ?qc4 ?qc5 ?qc6 ?_)
  case qc1 => exact hl
  case qc2 =>
    intro j u hj
    exact Lib.cell?_alloc_some _ (A trivial j u hj)
  case qc3 => exact h1
  case qc4 => unfold maxLen; omega
  case qc5 => omega
  case qc6 => simp
  intro v' w1 hown hgrow hnil
  go_wp2
  go_ret
  refine ⟨v', rfl, by simpa using hown, ?_, ?_⟩
  · exact hnil
  · exact ((Below.refl _ w).alloc (Nat.le_refl _) _).grown hgrow (by simp) (by intro k hk; simp [Value.ownBlock] at hk; omega)
set_option maxHeartbeats 1000000 in
theorem clone182_nil (n c : Nat) (w : World) : Calls Tryz.prog 182 #[.slice none n c] w fun e w' => e = .returned (.slice none 0 0) ∧ w' = w := by
  have mixed := X.mixed
  have q : ∀ (w : World) (a : Option Addr) (n c n' c' : Nat), (binOp .eql 51 (.slice a n c) (.slice none n' c')).run Tryz.prog w = .ok (.bool a.isNone) w := fun w a n c n' c' => Lib.run_eql_slice_nil w _ _ a n c n' c' Tryz.underlying51
  go_enter Tryz.func182, Tryz.ntmps182
  go_wp2
  go_ret
  exact ⟨rfl, rfl⟩
set_option maxHeartbeats 2000000 in
set_option maxRecDepth 100000 in
theorem clone146_some (a : Addr) (n c : Nat) (news : List Value) (w : World) (hl : news.length = n * 1) (hnews : ∀ j u, news[j]? = some u → w.cell? (a.add j) = some u) (h1 : ∀ u ∈ news, u.oneCell' = true) (hbig : n * 8 ≤ 140737488355328) :
    Calls Tryz.prog 146 #[.slice (some a) n c] w fun e w' => ∃ v', e = .returned v' ∧ w'.ownsRow w.heap.size 3 1 v' n news ∧ v' ≠ .slice none 0 0 ∧ Below w.heap.size w w' := by
  have mixed := X.mixed
  have hin : (Tryz.prog.info? 3).map (fun i => (i.zero, i.size, i.bytes)) = some (some (.int .i64 0 : Value), 1, 8) := by kernel_rfl
  obtain ⟨i0, hi, hz⟩ := Option.map_eq_some_iff.1 hin
  have hz0 : i0.zero = some (.int .i64 0 : Value) := congrArg Prod.fst hz
  have hz1 : i0.size = 1 := congrArg (fun x => x.2.1) hz
  have hz2 : i0.bytes = 8 := congrArg (fun x => x.2.2) hz
  have ht := Tryz.underlying128
  have q : ∀ (w : World) (a : Option Addr) (n c n' c' : Nat), (binOp .eql 128 (.slice a n c) (.slice none n' c')).run Tryz.prog w = .ok (.bool a.isNone) w := fun w a n c n' c' => Lib.run_eql_slice_nil w _ _ a n c n' c' ht
  have A : True → (∀ j u, news[j]? = some u → w.cell? (a.add j) = some u) := fun _ => hnews
  clear hnews
  go_enter Tryz.func146, Tryz.ntmps146
  go_wp2_with (at_builtin; refine wpList_append_own _ rfl _ _ 128 rfl w.heap.size 3 i0 (.int .i64 0) 1 8 ht hi hz0 hz1 hz2 rfl (by decide) _ _ _ rfl (World.ownsRow_made w #[] 0 (Nat.le_refl _) (Nat.zero_le _) rfl) a n c news rfl ?qc1 ?qc2 ?qc3 ?qc4 ?qc5 ?qc6 ?_)
  case qc1 => exact hl
  case qc2 =>
    intro j u hj
    exact Lib.cell?_alloc_some _ (A trivial j u hj)
  case qc3 => exact h1
  case qc4 => unfold maxLen; omega
  case qc5 => omega
  case qc6 => simp
  intro v' w1 hown hgrow hnil
  go_wp2
  go_ret
  refine ⟨v', rfl, by simpa using hown, ?_, ?_⟩
  · exact hnil
  · exact ((Below.refl _ w).alloc (Nat.le_refl _) _).grown hgrow (by simp) (by intro k hk; simp [Value.ownBlock] at hk; omega)
set_option maxHeartbeats 1000000 in
theorem clone146_nil (n c : Nat) (w : World) : Calls Tryz.prog 146 #[.slice none n c] w fun e w' => e = .returned (.slice none 0 0) ∧ w' = w := by
  have mixed := X.mixed
  have q : ∀ (w : World) (a : Option Addr) (n c n' c' : Nat), (binOp .eql 128 (.slice a n c) (.slice none n' c')).run Tryz.prog w = .ok (.bool a.isNone) w := fun w a n c n' c' => Lib.run_eql_slice_nil w _ _ a n c n' c' Tryz.underlying128
  go_enter Tryz.func146, Tryz.ntmps146
  go_wp2
  go_ret
  exact ⟨rfl, rfl⟩
set_option maxHeartbeats 2000000 in
set_option maxRecDepth 100000 in
theorem clone99_some (a : Addr) (n c : Nat) (news : List Value) (w : World) (hl : news.length = n * 5) (hnews : ∀ j u, news[j]? = some u → w.cell? (a.add j) = some u) (h1 : ∀ u ∈ news, u.oneCell' = true) (hbig : n * 64 ≤ 140737488355328) :
    Calls Tryz.prog 99 #[.slice (some a) n c] w fun e w' => ∃ v', e = .returned v' ∧ w'.ownsRow w.heap.size 27 5 v' n news ∧ v' ≠ .slice none 0 0 ∧ Below w.heap.size w w' := by
  have mixed := X.mixed
  have hin : (Tryz.prog.info? 27).map (fun i => (i.zero, i.size, i.bytes)) = some (some (.agg #[.int .i64 0, .string ⟨#[]⟩, .string ⟨#[]⟩, .int .i64 0, .string ⟨#[]⟩] : Value), 5, 64) := by kernel_rfl
  obtain ⟨i0, hi, hz⟩ := Option.map_eq_some_iff.1 hin
  have hz0 : i0.zero = some (.agg #[.int .i64 0, .string ⟨#[]⟩, .string ⟨#[]⟩, .int .i64 0, .string ⟨#[]⟩] : Value) := congrArg Prod.fst hz
  have hz1 : i0.size = 5 := congrArg (fun x => x.2.1) hz
  have hz2 : i0.bytes = 64 := congrArg (fun x => x.2.2) hz
  have ht := Tryz.underlying23
  have q : ∀ (w : World) (a : Option Addr) (n c n' c' : Nat), (binOp .eql 23 (.slice a n c) (.slice none n' c')).run Tryz.prog w = .ok (.bool a.isNone) w := fun w a n c n' c' => Lib.run_eql_slice_nil w _ _ a n c n' c' ht
  have A : True → (∀ j u, news[j]? = some u → w.cell? (a.add j) = some u) := fun _ => hnews
  clear hnews
  go_enter Tryz.func99, Tryz.ntmps99
  go_wp2_with (at_builtin; refine wpList_append_own _ rfl _ _ 23 rfl w.heap.size 27 i0 (.agg #[.int .i64 0, .string ⟨#[]⟩, .string ⟨#[]⟩, .int .i64 0, .string ⟨#[]⟩]) 5 64 ht hi hz0 hz1 hz2 rfl (by decide) _ _ _ rfl (World.ownsRow_made w #[] 0 (Nat.le_refl _) (Nat.zero_le _) rfl) a n c news rfl ?qc1 ?qc2 ?qc3 ?qc4 ?qc5 ?qc6 ?_)
  case qc1 => exact hl
  case qc2 =>
    intro j u hj
    exact Lib.cell?_alloc_some _ (A trivial j u hj)
  case qc3 => exact h1
  case qc4 => unfold maxLen; omega
  case qc5 => omega
  case qc6 => simp
  intro v' w1 hown hgrow hnil
  go_wp2
  go_ret
  refine ⟨v', rfl, by simpa using hown, ?_, ?_⟩
  · exact hnil
  · exact ((Below.refl _ w).alloc (Nat.le_refl _) _).grown hgrow (by simp) (by intro k hk; simp [Value.ownBlock] at hk; omega)
set_option maxHeartbeats 1000000 in
theorem clone99_nil (n c : Nat) (w : World) : Calls Tryz.prog 99 #[.slice none n c] w fun e w' => e = .returned (.slice none 0 0) ∧ w' = w := by
  have mixed := X.mixed
  have q : ∀ (w : World) (a : Option Addr) (n c n' c' : Nat), (binOp .eql 23 (.slice a n c) (.slice none n' c')).run Tryz.prog w = .ok (.bool a.isNone) w := fun w a n c n' c' => Lib.run_eql_slice_nil w _ _ a n c n' c' Tryz.underlying23
  go_enter Tryz.func99, Tryz.ntmps99
  go_wp2
  go_ret
  exact ⟨rfl, rfl⟩
set_option maxHeartbeats 2000000 in
set_option maxRecDepth 100000 in
theorem clone183_some (a : Addr) (n c : Nat) (news : List Value) (w : World) (hl : news.length = n * 2) (hnews : ∀ j u, news[j]? = some u → w.cell? (a.add j) = some u) (h1 : ∀ u ∈ news, u.oneCell' = true) (hbig : n * 40 ≤ 140737488355328) :
    Calls Tryz.prog 183 #[.slice (some a) n c] w fun e w' => ∃ v', e = .returned v' ∧ w'.ownsRow w.heap.size 132 2 v' n news ∧ v' ≠ .slice none 0 0 ∧ Below w.heap.size w w' := by
  have mixed := X.mixed
  have hin : (Tryz.prog.info? 132).map (fun i => (i.zero, i.size, i.bytes)) = some (some (.agg #[.string ⟨#[]⟩, .slice none 0 0] : Value), 2, 40) := by kernel_rfl
  obtain ⟨i0, hi, hz⟩ := Option.map_eq_some_iff.1 hin
  have hz0 : i0.zero = some (.agg #[.string ⟨#[]⟩, .slice none 0 0] : Value) := congrArg Prod.fst hz
  have hz1 : i0.size = 2 := congrArg (fun x => x.2.1) hz
  have hz2 : i0.bytes = 40 := congrArg (fun x => x.2.2) hz
  have ht := Tryz.underlying52
  have q : ∀ (w : World) (a : Option Addr) (n c n' c' : Nat), (binOp .eql 52 (.slice a n c) (.slice none n' c')).run Tryz.prog w = .ok (.bool a.isNone) w := fun w a n c n' c' => Lib.run_eql_slice_nil w _ _ a n c n' c' ht
  have A : True → (∀ j u, news[j]? = some u → w.cell? (a.add j) = some u) := fun _ => hnews
  clear hnews
  go_enter Tryz.func183, Tryz.ntmps183
  go_wp2_with (at_builtin; refine wpList_append_own _ rfl _ _ 52 rfl w.heap.size 132 i0 (.agg #[.string ⟨#[]⟩, .slice none 0 0]) 2 40 ht hi hz0 hz1 hz2 rfl (by decide) _ _ _ rfl (World.ownsRow_made w #[] 0 (Nat.le_refl _) (Nat.zero_le _) rfl) a n c news rfl ?qc1 ?qc2 ?qc3 ?qc4 ?qc5 ?qc6 ?_)
  case qc1 => exact hl
  case qc2 =>
    intro j u hj
    exact Lib.cell?_alloc_some _ (A trivial j u hj)
  case qc3 => exact h1
  case qc4 => unfold maxLen; omega
  case qc5 => omega
  case qc6 => simp
  intro v' w1 hown hgrow hnil
  go_wp2
  go_ret
  refine ⟨v', rfl, by simpa using hown, ?_, ?_⟩
  · exact hnil
  · exact ((Below.refl _ w).alloc (Nat.le_refl _) _).grown hgrow (by simp) (by intro k hk; simp [Value.ownBlock] at hk; omega)
set_option maxHeartbeats 1000000 in
theorem clone183_nil (n c : Nat) (w : World) : Calls Tryz.prog 183 #[.slice none n c] w fun e w' => e = .returned (.slice none 0 0) ∧ w' = w := by
  have mixed := X.mixed
  have q : ∀ (w : World) (a : Option Addr) (n c n' c' : Nat), (binOp .eql 52 (.slice a n c) (.slice none n' c')).run Tryz.prog w = .ok (.bool a.isNone) w := fun w a n c n' c' => Lib.run_eql_slice_nil w _ _ a n c n' c' Tryz.underlying52
  go_enter Tryz.func183, Tryz.ntmps183
  go_wp2
  go_ret
  exact ⟨rfl, rfl⟩
end Go.Gn

namespace Go.Gn
open Go Go.RowKit Go.Proofs Go.Shelf
set_option linter.unusedVariables false
set_option linter.unusedSimpArgs false
theorem scrub_any {S S' : Nat → Prop} {w w' : World} {d : D} {v : Value} (h : RepD S w d v) : RepD S' w' d.scrub v := by
  cases h with
  | int k n => exact .int k n
  | bool b => exact .bool b
  | str s => exact .str s
  | nil A c => exact .top _ rfl
  | sl xs b off sz cap f hne hb hc hcell hrep => exact .top _ rfl
  | top v h => exact .top v h
theorem aft_row {c : Cx} {w w' : World} (hst : Store w c [] w) (hdom : ∀ q, c.μ q ≠ none → q < 0) (hB : Below w.heap.size w w') {blk : Option Nat} {sz n cap c0 : Nat} {ys : List (List D)}
    (hg : ∀ g, blk = some g → w.heap.size ≤ g ∧ g < w'.heap.size)
    (hrow : Ext c w { c with μ := fun q => if q = 0 then some ⟨blk, sz, n, cap, fun _ => none⟩ else none } w' → RepRow c.imm w' ⟨blk, sz, n, cap, fun _ => none⟩ sz 0 c0 ys) :
    ∃ c', Aft w c 0 (.hw 0) [.row sz 0 c0 ys] (.slice (blk.map mk0) n cap) w' c' := by
  have hmu : ∀ q, c.μ q = none := fun q => by
    cases h : c.μ q with
    | none => rfl
    | some m => exact absurd (hdom q (by rw [h]; simp)) (Nat.not_lt_zero _)
  let m0 : Meta := ⟨blk, sz, n, cap, fun _ => none⟩
  let c' : Cx := { c with μ := fun q => if q = 0 then some m0 else none }
  have own : ∀ o l b, Owns c'.μ [.row sz 0 c0 ys] o l b → o = 0 ∧ l = none ∧ blk = some b := by
    rintro o l b ⟨m, hm, ho⟩
    by_cases h0 : o = 0
    · subst h0
      simp only [c', if_true, Option.some.injEq] at hm
      subst hm
      cases l with
      | none => exact ⟨rfl, rfl, ho⟩
      | some j => exact absurd ho.1 (Nat.not_lt_zero _)
    · simp only [c', h0, if_false] at hm; cases hm
  obtain ⟨s1, s2⟩ := hst.step (c' := c') (os' := [.row sz 0 c0 ys]) (w' := w') (fun _ => False) ⟨rfl, rfl⟩ (fun _ h => h) (fun _ h => .inl h) (fun o m hm => by rw [hmu] at hm; cases hm)
    hB.size ⟨hB.os, hB.tape, hB.output⟩ (fun b hb _ => hB.block b hb) (fun _ h => h.elim)
    (fun e o x hx hne => by
      cases o with
      | zero =>
        have hx : Obj.row sz 0 c0 ys = x := hx
        subst hx
        exact .inl ⟨m0, by simp [c'], hrow e⟩
      | succ o => exact absurd hx.symm (by simpa using hne))
    (fun o l o' l' b h1 h2 => by
      obtain ⟨a1, a2, _⟩ := own _ _ _ h1
      obtain ⟨b1, b2, _⟩ := own _ _ _ h2
      exact ⟨a1.trans b1.symm, a2.trans b2.symm⟩)
    (fun o l b h1 => by
      obtain ⟨_, _, h2⟩ := own _ _ _ h1
      obtain ⟨g1, g2⟩ := hg b h2
      refine ⟨g2, fun h => ?_, fun h => ?_, fun h => ?_⟩
      · have := hst.immlt b h; omega
      · have := hst.fixlt b h; omega
      · have := hst.othlt b h; omega)
    (fun b hb => Nat.lt_of_lt_of_le (hst.immlt b hb) hB.size) hst.fixlt
  refine ⟨c', s1, rfl, rfl, fun _ h => h, fun o ho => absurd ho (Nat.not_lt_zero _), fun q hq => ?_, fun q hq => absurd hq (Nat.not_lt_zero _), s2.kf, s2.ki, s2.ko, Nat.zero_le _, ?_, rfl, fun q => ?_⟩
  · by_cases h0 : q = 0
    · subst h0; simp
    · simp only [c', h0, if_false] at hq; exact absurd rfl hq
  · exact .hw 0 m0 (by simp [c'])
  · cases q with
    | zero => rfl
    | succ q => simp [Obj.noBr]
theorem cloneD_get {m : Md} {xs : List (List D)} {j : Nat} {el : List D} (h : (cloneD m xs)[j]? = some el) : ∃ el0 : List D, xs[j]? = some el0 ∧ el.length = el0.length ∧ ∀ (i : Nat) (d : D), el[i]? = some d → ∃ d0 : D, el0[i]? = some d0 ∧ (m = .sh ∧ d = d0 ∨ m = .br ∧ d = d0.scrub) := by
  cases m with
  | sh => exact ⟨el, h, rfl, fun i d hd => ⟨d, hd, .inl ⟨rfl, rfl⟩⟩⟩
  | br =>
    simp only [cloneD, List.getElem?_map, Option.map_eq_some_iff] at h
    obtain ⟨el0, h0, rfl⟩ := h
    refine ⟨el0, h0, by simp, fun i d hd => ?_⟩
    simp only [List.getElem?_map, Option.map_eq_some_iff] at hd
    obtain ⟨d0, hd0, rfl⟩ := hd
    exact ⟨d0, hd0, .inr ⟨rfl, rfl⟩⟩
theorem cloneD_length (m : Md) (xs : List (List D)) : (cloneD m xs).length = xs.length := by cases m <;> simp [cloneD]
theorem good_clone {P : Program} {f sz bytes c0 e : Nat} (hsz : 0 < sz)
    (hsome : ∀ (a : Addr) (n c : Nat) (news : List Value) (w : World), news.length = n * sz → (∀ (j : Nat) (u : Value), news[j]? = some u → w.cell? (a.add j) = some u) → (∀ u ∈ news, u.oneCell' = true) → n * bytes ≤ 140737488355328 →
      Calls P f #[.slice (some a) n c] w fun en w' => ∃ v', en = .returned v' ∧ w'.ownsRow w.heap.size e sz v' n news ∧ v' ≠ .slice none 0 0 ∧ Below w.heap.size w w')
    (hnil : ∀ (n c : Nat) (w : World), Calls P f #[.slice none n c] w fun en w' => en = .returned (.slice none 0 0) ∧ w' = w) : Good P (fun _ => cloneX sz bytes c0) f false := by
  unfold Good
  rw [if_neg (by simp)]
  intro args os r os' h c w vals hst hdom hvals
  simp only [cloneX] at h
  split at h
  rotate_left
  · cases h
  rename_i m xs
  split at h
  rotate_left
  · cases h
  rename_i hc
  obtain ⟨hok, hbig⟩ := hc
  cases h
  cases hvals with
  | cons _ v _ vs hv hvs =>
  cases hvs
  have hv : RepD (c.set m) w (.sl xs) v := by cases hv with | sl _ _ _ h => exact h
  have fin : ∀ (a : Addr) (n cap : Nat) (news : List Value), n = xs.length → news.length = n * sz → (∀ (j : Nat) (u : Value), news[j]? = some u → w.cell? (a.add j) = some u) →
      (∀ (j : Nat) (el : List D) (i : Nat) (d : D), xs[j]? = some el → el[i]? = some d → ∃ u, news[j * sz + i]? = some u ∧ RepD (c.set m) w d u) → (∀ el ∈ xs, el.length = sz) → (∀ u ∈ news, u.oneCell' = true) →
      Calls P f #[.slice (some a) n cap] w (retB fun v w' => ∃ c', Aft w c 0 (.hw 0) [.row sz 0 c0 (cloneD m xs)] v w' c') := by
    intro a n cap news hn hl hcells hrep hlen h1
    refine (hsome a n cap news w hl hcells h1 (by rw [hn]; exact hbig)).mono ?_
    rintro en w' ⟨v', rfl, hown, hnn, hB⟩
    rcases hown.2 with ⟨h0, _⟩ | ⟨g, cap', cur, rfl, hbg, hh, hnc, hcm, hcs, htake⟩
    · exact absurd h0 hnn
    refine aft_row (blk := some g) hst hdom hB (fun g' hg' => by cases hg'; exact ⟨hbg, (Array.getElem?_eq_some_iff.1 hh).1⟩) fun ext => ?_
    refine ⟨rfl, by rw [cloneD_length]; exact hn, hnc, ⟨Nat.zero_le _, fun _ _ _ => rfl⟩, (fun h => by cases h), fun el hel => ?_, fun b hb => ?_⟩
    · obtain ⟨j, hj⟩ := List.getElem?_of_mem hel
      obtain ⟨el0, h0, hle, _⟩ := cloneD_get hj
      rw [hle]; exact hlen el0 (List.mem_of_getElem? h0)
    · cases hb
      refine ⟨cur, e, hh, hcs, fun j el i d hj hi => ?_⟩
      obtain ⟨el0, h0, hle, hd⟩ := cloneD_get hj
      obtain ⟨d0, hd0, hdd⟩ := hd i d hi
      obtain ⟨u, hu, hru⟩ := hrep j el0 i d0 h0 hd0
      refine ⟨u, ?_, ?_⟩
      · rw [← htake, List.getElem?_take] at hu
        split at hu
        · simpa using hu
        · cases hu
      · rw [if_neg (by omega)]
        rcases hdd with ⟨rfl, rfl⟩ | ⟨rfl, rfl⟩
        · exact hru.mono ext.ki (fun _ h => h)
        · exact scrub_any hru
  cases hv with
  | nil A cc =>
    cases A with
    | none =>
      refine (hnil 0 cc w).mono ?_
      rintro en w' ⟨rfl, rfl⟩
      refine aft_row (blk := none) hst hdom (Below.refl _ _) (fun g hg => by cases hg) fun ext => ?_
      refine ⟨rfl, by rw [cloneD_length]; rfl, Nat.le_refl _, ⟨Nat.zero_le _, fun _ _ _ => rfl⟩, fun _ => rfl, fun el hel => ?_, fun b hb => by cases hb⟩
      cases m <;> simp [cloneD] at hel
    | some a =>
      exact fin a 0 cc [] rfl (by simp) (fun j u hj => by simp at hj) (fun j el i d hj => by simp at hj) (fun el hel => by simp at hel) (fun u hu => by simp at hu)
  | sl _ b off sz' cap g hne hb hcap hcell hrep =>
    have hsz' : sz' = sz := by
      cases xs with
      | nil => exact absurd rfl hne
      | cons x xs =>
        have h1 := (hcell 0 x rfl).1
        rw [← h1]
        exact Nat.eq_of_beq_eq_true hok
    subst hsz'
    have hel : ∀ j, j < xs.length → ∃ el, xs[j]? = some el ∧ el.length = sz' := fun j hj => ⟨xs[j], List.getElem?_eq_getElem hj, (hcell j _ (List.getElem?_eq_getElem hj)).1⟩
    have hdm : ∀ j i, i < sz' → (j * sz' + i) / sz' = j ∧ (j * sz' + i) % sz' = i := fun j i hi => by
      rw [Nat.mul_comm, Nat.mul_add_div hsz, Nat.mul_add_mod, Nat.div_eq_of_lt hi, Nat.mod_eq_of_lt hi]
      exact ⟨rfl, rfl⟩
    refine fin _ xs.length cap ((List.range (xs.length * sz')).map fun q => g (q / sz') (q % sz')) rfl (by simp) (fun q u hq => ?_) (fun j el i d hj hi => ?_) (fun el hm => ?_) (fun u hu => ?_)
    · rw [List.getElem?_map, Option.map_eq_some_iff] at hq
      obtain ⟨q', hq', rfl⟩ := hq
      have hql : q < xs.length * sz' := by
        have := (List.getElem?_eq_some_iff.1 hq').1
        rwa [List.length_range] at this
      rw [List.getElem?_range hql] at hq'
      cases hq'
      have hdiv : q / sz' < xs.length := (Nat.div_lt_iff_lt_mul hsz).2 hql
      obtain ⟨el, he, hle⟩ := hel (q / sz') hdiv
      have hmod := Nat.mod_lt q hsz
      have := (hcell _ _ he).2 (q % sz') _ (List.getElem?_eq_getElem (by omega))
      have e1 : off + q / sz' * sz' + q % sz' = off + q := by
        have := Nat.div_add_mod q sz'
        rw [Nat.mul_comm] at this; omega
      rw [e1] at this
      rw [Addr.add_lit]
      exact this
    · have hil : i < sz' := by rw [← (hcell j el hj).1]; exact (List.getElem?_eq_some_iff.1 hi).1
      have hjl := (List.getElem?_eq_some_iff.1 hj).1
      have hq : j * sz' + i < xs.length * sz' := by
        have : (j + 1) * sz' ≤ xs.length * sz' := Nat.mul_le_mul_right _ hjl
        rw [Nat.add_mul] at this; omega
      refine ⟨g j i, ?_, hrep j el i d hj hi⟩
      rw [List.getElem?_map, List.getElem?_range hq]
      obtain ⟨h1, h2⟩ := hdm j i hil
      simp [h1, h2]
    · obtain ⟨j, hj⟩ := List.getElem?_of_mem hm
      exact (hcell j el hj).1
    · obtain ⟨q, hq, rfl⟩ := List.mem_map.1 hu
      have hql : q < xs.length * sz' := by simpa using hq
      have hdiv : q / sz' < xs.length := (Nat.div_lt_iff_lt_mul hsz).2 hql
      obtain ⟨el, he, hle⟩ := hel (q / sz') hdiv
      have hmod := Nat.mod_lt q hsz
      exact (hrep _ _ _ _ he (List.getElem?_eq_getElem (show q % sz' < el.length by omega))).one
end Go.Gn

namespace Go.Gn
open Go Go.RowKit Go.Proofs Go.Shelf
set_option linter.unusedVariables false
set_option linter.unusedSimpArgs false
set_option maxHeartbeats 1000000 in
set_option maxRecDepth 100000 in
theorem compareString_call (a b : ByteArray) (w : World) :
    Calls Tryz.prog 197 #[.string a, .string b] w fun e w' => e = .returned (.int .i64 (Lib.compareBytes a.data.toList b.data.toList)) ∧ w' = w := by
  have mixed := X.mixed
  go_enter Tryz.func197, Tryz.ntmps197
  go_wp2
  rw [run_callFunc_extern Tryz.func205 (by kernel_rfl) (by kernel_rfl) (by kernel_rfl) (e := Extern.BytealgCompare.compare) (by kernel_rfl), Lib.run_compareString]
  simp only [Result.andThen]
  rw [Oper.upon_value]
  go_wp2
  go_ret
  exact ⟨rfl, rfl⟩
set_option maxHeartbeats 1000000 in
theorem compare_call (a b : ByteArray) (w : World) :
    Calls Tryz.prog 176 #[.string a, .string b] w fun e w' => e = .returned (.int .i64 (Lib.compareBytes a.data.toList b.data.toList)) ∧ w' = w := by
  have mixed := X.mixed
  have e213 : ∀ args w, (callFunc 197 args).run Tryz.prog w = .ok (.enter 197 args) w := enters_of Tryz.func197 (by kernel_rfl) rfl
  go_enter Tryz.func176, Tryz.ntmps176
  go_wp2_with (go_at_fn 197; refine (compareString_call _ _ _).mono ?_; rintro e w' ⟨rfl, rfl⟩)
  go_ret
  exact ⟨rfl, rfl⟩
theorem bl_eq : ∀ (a b : List UInt8), Lib.compareBytes a b = if Op.bytesLess a b then -1 else if Op.bytesLess b a then 1 else 0
  | [], [] => by simp [Lib.compareBytes, Op.bytesLess]
  | [], _ :: _ => by simp [Lib.compareBytes, Op.bytesLess]
  | _ :: _, [] => by simp [Lib.compareBytes, Op.bytesLess]
  | x :: a, y :: b => by
    have ih := bl_eq a b
    unfold Lib.compareBytes Op.bytesLess
    by_cases h : x < y
    · simp [h, UInt8.lt_asymm h]
    · by_cases h2 : y < x
      · have hne : ¬ x = y := fun e => h (by rw [e] at h2; exact absurd h2 (UInt8.lt_irrefl _))
        simp [h, h2, hne]
      · have e : x = y := UInt8.le_antisymm (UInt8.not_lt.1 h2) (UInt8.not_lt.1 h)
        subst e
        simp [UInt8.lt_irrefl, ih]
theorem good_compare : Good Tryz.prog (fun _ => compareX) 176 false := by
  unfold Good
  rw [if_neg (by simp)]
  intro args os r os' h c w vals hst hdom hvals
  simp only [compareX] at h
  split at h
  rotate_left
  · cases h
  rename_i a b
  cases h
  cases hvals with
  | cons _ v _ vs hv hvs =>
  cases hvs with
  | cons _ v2 _ vs2 hv2 hvs2 =>
  cases hvs2
  cases hv
  cases hv2
  refine (compare_call a b w).mono ?_
  rintro e w' ⟨rfl, rfl⟩
  have e1 : Lib.compareBytes a.data.toList b.data.toList = cmpStr a b := by
    rw [bl_eq, cmpStr, ByteArray.toList_eq, ByteArray.toList_eq]
  show ∃ c', Aft _ c 0 _ [] _ _ c'
  rw [e1]
  exact ⟨c, hst, rfl, rfl, fun _ h => h, fun _ _ m hm => ⟨m, hm, m.le_refl⟩, hdom, fun _ _ h => h, Keep.refl _ _, Keep.refl _ _, Keep.refl _ _, Nat.le_refl _, .int _ _, rfl, fun q => by simp [Obj.noBr]⟩
end Go.Gn

namespace Go.Gn
open Go Go.RowKit Go.Proofs Go.Shelf Go.Lib
set_option linter.unusedVariables false
set_option linter.unusedSimpArgs false
theorem heap_setCell (w : World) (b o : Nat) (v : Value) {cur : Array Value} {e : TypeId} {fz : Nat × Nat} (h : w.heap[b]? = some (.cells cur e fz)) : (w.setCell ⟨b, o, none⟩ v).heap[b]? = some (.cells (cur.setIfInBounds o v) e fz) := by
  simp only [World.setCell, Array.getElem?_modify]
  simp [h]
theorem heap_setCells (b : Nat) {e : TypeId} {fz : Nat × Nat} : ∀ (vs : List Value) (o : Nat) (w : World) (cur : Array Value), w.heap[b]? = some (.cells cur e fz) → o + vs.length ≤ cur.size →
    ∃ cur', (w.setCells b o vs).heap[b]? = some (.cells cur' e fz) ∧ cur'.size = cur.size ∧ ∀ k : Nat, cur'[k]? = if o ≤ k ∧ k < o + vs.length then vs[k - o]? else cur[k]?
  | [], o, w, cur, h, _ => ⟨cur, h, rfl, fun k => by rw [if_neg (by rintro ⟨h1, h2⟩; simp at h2; omega)]⟩
  | v :: vs, o, w, cur, h, hl => by
    obtain ⟨cur', h1, h2, h3⟩ := heap_setCells b vs (o + 1) (w.setCell ⟨b, o, none⟩ v) _ (heap_setCell w b o v h) (by simp only [List.length_cons] at hl; rw [Array.size_setIfInBounds]; omega)
    refine ⟨cur', h1, by rw [h2, Array.size_setIfInBounds], fun k => ?_⟩
    rw [h3 k]
    simp only [List.length_cons] at hl ⊢
    by_cases hk : o + 1 ≤ k ∧ k < o + 1 + vs.length
    · rw [if_pos hk, if_pos (by omega), show k - o = (k - (o + 1)) + 1 by omega, List.getElem?_cons_succ]
    · rw [if_neg hk, Array.getElem?_setIfInBounds]
      by_cases hk2 : o = k
      · subst hk2
        rw [if_pos rfl, if_pos (by omega), if_pos (by omega), Nat.sub_self, List.getElem?_cons_zero]
      · rw [if_neg hk2, if_neg (by omega)]
theorem run_copy_cellsN {P : Program} (w : World) (dT sT ty elem : TypeId) (sz : Nat) (b o dLen dCap : Nat) (a : Addr) (sLen sCap : Nat) (cs : List Value)
    (hu : P.underlying dT = some (.slice elem)) (hs : (P.info? elem).map (·.size) = some sz) (hn : cs.length = Nat.min sLen dLen * sz)
    (hsrc : ∀ j v, cs[j]? = some v → w.cell? (a.add j) = some v) (hc : ∀ j, j < cs.length → (w.cell? ⟨b, o + j, none⟩).isSome = true) (hf : ∀ j, j < cs.length → w.frozen? ⟨b, o + j, none⟩ = false) (h1 : ∀ v ∈ cs, v.oneCell' = true) :
    (Builtin.copy_ #[dT, sT] ty #[.slice (some ⟨b, o, none⟩) dLen dCap, .slice (some a) sLen sCap]).run P w = .ok (goInt (Nat.min sLen dLen)) (w.setCells b o cs) := by
  have hl := run_loadCells_list (P := P) w a cs hsrc
  have hst := run_storeCells_cells (P := P) b o cs 0 w (by simpa using hc) (by simpa using hf) h1
  cases hq : P.info? elem with
  | none => simp [hq] at hs
  | some i =>
    have hi : i.size = sz := by simpa [hq] using hs
    rw [hn] at hl
    simp [Builtin.copy_, run_underlying hu, Builtin.lenOf, Builtin.firstCells, sizeOf, typeInfo, hq, hi, hl, hst]
theorem X.vol : ∃ i, Tryz.prog.info? 132 = some i ∧ i.zero = some (.agg #[.string ⟨#[]⟩, .slice none 0 0] : Value) ∧ i.size = 2 ∧ i.bytes = 40 := by
  have hin : (Tryz.prog.info? 132).map (fun i => (i.zero, i.size, i.bytes)) = some (some (.agg #[.string ⟨#[]⟩, .slice none 0 0] : Value), 2, 40) := by kernel_rfl
  obtain ⟨i0, hi, hz⟩ := Option.map_eq_some_iff.1 hin
  exact ⟨i0, hi, congrArg Prod.fst hz, congrArg (fun x => x.2.1) hz, congrArg (fun x => x.2.2) hz⟩
theorem X.szof (w : World) : Sem.run Tryz.prog (Go.sizeOf 132) w = .ok 2 w := by
  obtain ⟨i0, hi, _, h1, _⟩ := X.vol
  simp [sizeOf, typeInfo, hi, h1]
set_option maxHeartbeats 4000000 in
set_option maxRecDepth 100000 in
theorem insert_shift (b n c i vb vc : Nat) (cs vs : List Value) (w : World) (hi : i < n) (hroom : n + 1 ≤ c) (hc63 : n ≤ 140737488355328) (hvb : vb ≠ b)
    (hcl : cs.length = n * 2) (hvl : vs.length = 2)
    (hcs : ∀ j v, cs[j]? = some v → w.cell? ⟨b, j, none⟩ = some v) (hsp : ∀ j, j < (n + 1) * 2 → (w.cell? ⟨b, j, none⟩).isSome = true) (hfz : ∀ j, w.frozen? ⟨b, j, none⟩ = false)
    (hvs : ∀ j v, vs[j]? = some v → w.cell? ⟨vb, j, none⟩ = some v) (h1c : ∀ v ∈ cs, v.oneCell' = true) (h1v : ∀ v ∈ vs, v.oneCell' = true)
    (tA tB : TypeId) (kA kB : Nat) (hsa : w.shape? vb = some (tA, kA)) (hsb : w.shape? b = some (tB, kB)) (hkB : kB ≠ 0) (hfa : ∀ j, w.frozen? ⟨vb, j, none⟩ = false) :
    Calls Tryz.prog 177 #[.slice (some ⟨b, 0, none⟩) n c, .int .i64 i, .slice (some ⟨vb, 0, none⟩) 1 vc] w fun e w' =>
      e = .returned (.slice (some ⟨b, 0, none⟩) (n + 1) c) ∧ w' = (w.drew.setCells b ((i + 1) * 2) (cs.drop (i * 2))).setCells b (i * 2) vs := by
  have mixed := X.mixed
  have t52 := Tryz.underlying52
  obtain ⟨i0, hi0, hz0, hzs, hzb⟩ := X.vol
  have hsz : (Tryz.prog.info? 132).map (·.size) = some 2 := by rw [hi0]; simp [hzs]
  have hz2 : ¬ ((i : Int) = (n : Int)) := by omega
  have hov : ∀ lb cb, (callFunc 198 #[.slice (some ⟨vb, 0, none⟩) 1 vc, .slice (some ⟨b, (i + 1) * 2, none⟩) lb cb]).run Tryz.prog w = .ok (.value (.bool false)) w := fun lb cb => by
    rw [run_callFunc_extern Tryz.func198 (by kernel_rfl) (by kernel_rfl) (by kernel_rfl) (e := Extern.SlicesOverlaps.overlaps #[52, 52] #[4]) (by kernel_rfl),
      Lib.run_overlaps_apart w 52 4 132 t52 2 X.szof ⟨vb, 0, none⟩ ⟨b, (i + 1) * 2, none⟩ 1 vc lb cb hvb tA tB kA kB hsa hsb hkB (hfa 0) (hfa kA)]
    rfl
  have hdl : (cs.drop (i * 2)).length = (n - i) * 2 := by rw [List.length_drop, hcl]; omega
  have hw1 : IntKind.i64.wrap ((i : Int) + 1) = (i : Int) + 1 := by rw [IntKind.wrap_i64]; omega
  have hb1 : (0 : Int) ≤ (i : Int) + 1 := by omega
  have hin : i ≤ n := by omega
  have htn : ((i : Int) + 1).toNat = i + 1 := by omega
  have hb2 : ¬ (c = i + 1) := by omega
  have hb3 : (i : Int) ≤ (n : Int) + 1 := by omega
  have hb4 : ¬ (c = i) := by omega
  have hcp1 : ∀ ty dc sc, (Builtin.copy_ #[52, 52] ty #[.slice (some ⟨b, (i + 1) * 2, none⟩) (n - i) dc, .slice (some ⟨b, i * 2, none⟩) (n + 1 - i) sc]).run Tryz.prog w.drew = .ok (goInt (Nat.min (n + 1 - i) (n - i))) (w.drew.setCells b ((i + 1) * 2) (cs.drop (i * 2))) := fun ty dc sc =>
    run_copy_cellsN w.drew _ _ ty 132 2 b ((i + 1) * 2) (n - i) dc ⟨b, i * 2, none⟩ (n + 1 - i) sc (cs.drop (i * 2)) t52 hsz (by rw [hdl]; simp only [Nat.min_def]; split <;> omega)
      (fun j v hj => by rw [Addr.add_lit]; exact hcs (i * 2 + j) v (by rwa [List.getElem?_drop] at hj))
      (fun j hj => hsp _ (by omega)) (fun j hj => hfz _) (fun v hv => h1c v (List.mem_of_mem_drop hv))
  obtain ⟨W1, hW1⟩ : ∃ W1, W1 = w.drew.setCells b ((i + 1) * 2) (cs.drop (i * 2)) := ⟨_, rfl⟩
  have hsp1 : ∀ k, k < (n + 1) * 2 → (W1.cell? ⟨b, k, none⟩).isSome = true := fun k hk => by
    rw [hW1]
    exact isSome_setCells b (cs.drop (i * 2)) ((i + 1) * 2) w.drew (fun j hj => hsp _ (by rw [hdl] at hj; omega)) _ (hsp k hk)
  have hcp2 : ∀ (W : World), (∀ x, W.cell? x = W1.cell? x) → (∀ x, W.frozen? x = W1.frozen? x) → ∀ ty dc, (Builtin.copy_ #[52, 52] ty #[.slice (some ⟨b, i * 2, none⟩) (n + 1 - i) dc, .slice (some ⟨vb, 0, none⟩) 1 vc]).run Tryz.prog W = .ok (goInt (Nat.min 1 (n + 1 - i))) (W.setCells b (i * 2) vs) := fun W hWc hWf ty dc =>
    run_copy_cellsN W _ _ ty 132 2 b (i * 2) (n + 1 - i) dc ⟨vb, 0, none⟩ 1 vc vs t52 hsz (by rw [hvl]; simp only [Nat.min_def]; split <;> omega)
      (fun j v hj => by
        rw [Addr.add_lit, hWc, hW1, World.cell?_setCells_out b _ _ _ _ (fun h _ => absurd h hvb), Nat.zero_add]
        exact hvs j v hj)
      (fun j hj => by rw [hWc]; exact hsp1 _ (by omega)) (fun j hj => by rw [hWf, hW1, World.frozen?_setCells]; exact hfz _) h1v
  rw [← hW1] at hcp1
  go_enter Tryz.func177, Tryz.ntmps177
  go_wp2_with (simp only [hov])
  go_region_law_o (refine step_copy_runI rfl _ _ 52 52 rfl _ _ (by simp [Act.eval, Act.put]) (by simp [Act.eval, Act.put]) (hcp1 _ _ _) ?_)
  go_wp2_with (at_builtin; refine wpList_copy_runI _ rfl _ _ 52 52 rfl _ _ rfl rfl (hcp2 _ (fun _ => rfl) (fun _ => rfl) _ _) ?_)
  go_ret
  first | exact ⟨rfl, rfl⟩ | exact ⟨rfl, by rw [hW1]⟩
end Go.Gn

namespace Go.Gn
open Go Go.RowKit Go.Proofs Go.Shelf Go.Lib
set_option linter.unusedVariables false
set_option linter.unusedSimpArgs false
set_option maxHeartbeats 4000000 in
set_option maxRecDepth 100000 in
theorem insert_end_room (b n c vb vc : Nat) (vs : List Value) (w : World) (hroom : n + 1 ≤ c) (hc63 : n ≤ 140737488355328)
    (hvl : vs.length = 2) (hsp : ∀ j, j < 2 → (w.cell? ⟨b, n * 2 + j, none⟩).isSome = true) (hfz : ∀ j, w.frozen? ⟨b, j, none⟩ = false)
    (hvs : ∀ j v, vs[j]? = some v → w.cell? ⟨vb, j, none⟩ = some v) (h1v : ∀ v ∈ vs, v.oneCell' = true) :
    Calls Tryz.prog 177 #[.slice (some ⟨b, 0, none⟩) n c, .int .i64 n, .slice (some ⟨vb, 0, none⟩) 1 vc] w fun e w' =>
      e = .returned (.slice (some ⟨b, 0, none⟩) (n + 1) c) ∧ w' = w.setCells b (n * 2) vs := by
  have mixed := X.mixed
  have t52 := Tryz.underlying52
  obtain ⟨i0, hi0, hz0, hzs, hzb⟩ := X.vol
  have hrun : ∀ ty, (Builtin.append_ #[52, 52] ty #[.slice (some ⟨b, 0, none⟩) n c, .slice (some ⟨vb, 0, none⟩) 1 vc]).run Tryz.prog w = .ok (.slice (some ⟨b, 0, none⟩) (n + 1) c) (w.setCells b (n * 2) vs) := fun ty => by
    have h := run_append_room_cells (P := Tryz.prog) w 52 ty 132 i0 t52 hi0 b 0 n c ⟨vb, 0, none⟩ 1 vc vs (by rw [hvl, hzs]) (fun j u hj => by rw [Addr.add_lit, Nat.zero_add]; exact hvs j u hj) h1v hroom
      (fun j hj => by rw [hzs, Nat.zero_add]; exact hsp j (by omega)) (fun j hj => hfz _)
    rw [hzs, Nat.zero_add] at h
    exact h
  go_enter Tryz.func177, Tryz.ntmps177
  go_wp2_with (at_builtin; refine Lib.wpList_append_run _ rfl _ _ _ _ rfl _ _ rfl rfl _ _ (hrun _) ?_)
  go_ret
  exact ⟨rfl, rfl⟩
set_option maxHeartbeats 4000000 in
set_option maxRecDepth 100000 in
theorem insert_end_grow (base : Option Addr) (n c vb vc : Nat) (cs vs : List Value) (w : World) (hnc : n ≤ c) (hroom : c < n + 1) (hbig : (n + 1) * 40 ≤ 140737488355328)
    (hcl : cs.length = n * 2) (hvl : vs.length = 2) (hnil : base = none → n = 0)
    (hcs : ∀ a, base = some a → ∀ j v, cs[j]? = some v → w.cell? (a.add j) = some v)
    (hvs : ∀ j v, vs[j]? = some v → w.cell? ⟨vb, j, none⟩ = some v) (h1v : ∀ v ∈ vs, v.oneCell' = true) :
    Calls Tryz.prog 177 #[.slice base n c, .int .i64 n, .slice (some ⟨vb, 0, none⟩) 1 vc] w fun e w' =>
      e = .returned (.slice (some ⟨w.heap.size, 0, none⟩) (n + 1) (grownCap w (n + 1) c 132)) ∧
      w' = w.drew.alloc (.cells ((cs ++ vs).toArray ++ Builtin.zeroCells (Value.agg #[.string ⟨#[]⟩, .slice none 0 0]).cells (grownCap w (n + 1) c 132 - (n + 1))) 132) := by
  have mixed := X.mixed
  have t52 := Tryz.underlying52
  obtain ⟨i0, hi0, hz0, hzs, hzb⟩ := X.vol
  have hsrc : Src Tryz.prog i0.size 52 (.slice (some ⟨vb, 0, none⟩) 1 vc) 1 vs w := by
    rw [hzs]
    exact Src.ofSlice w t52 ⟨vb, 0, none⟩ 1 vc vs (by omega) (fun j u hj => by rw [Addr.add_lit, Nat.zero_add]; exact hvs j u hj) h1v
  have hold : (Builtin.firstCells i0.size n (.slice base n c)).run Tryz.prog w.drew = .ok cs.toArray w.drew := by
    rw [hzs]
    cases base with
    | none =>
      have h0 := hnil rfl
      subst h0
      rw [List.length_eq_zero_iff.1 hcl]
      exact run_firstCells_none w.drew 2 0 0 c
    | some a => exact run_firstCells_some w.drew 2 n a n c cs (by omega) (fun j v hj => hcs a rfl j v hj)
  have hrun : ∀ ty, (Builtin.append_ #[52, 52] ty #[.slice base n c, .slice (some ⟨vb, 0, none⟩) 1 vc]).run Tryz.prog w = _ := fun ty =>
    run_append_grow_src w 52 52 ty 132 i0 _ t52 hi0 hz0 base n c cs hold _ 1 vs hsrc hroom (by omega) (by rw [hzb]; exact growslice_fits hroom hbig)
  go_enter Tryz.func177, Tryz.ntmps177
  cases base with
  | none =>
    have h0 := hnil rfl
    subst h0
    go_wp2_with (at_builtin; refine Lib.wpList_append_run _ rfl _ _ _ _ rfl _ _ rfl rfl _ _ (hrun _) ?_)
    go_ret
    exact ⟨rfl, rfl⟩
  | some a =>
    obtain ⟨ab, ao, asp⟩ := a
    go_wp2_with (at_builtin; refine Lib.wpList_append_run _ rfl _ _ _ _ rfl _ _ rfl rfl _ _ (hrun _) ?_)
    all_goals (go_ret; exact ⟨rfl, rfl⟩)
set_option maxHeartbeats 4000000 in
set_option maxRecDepth 100000 in
theorem insert_grow (b n c i vb vc : Nat) (cs vs : List Value) (w : World) (hi : i < n) (hnc : n ≤ c) (hroom : c < n + 1) (hbig : (n + 1) * 40 ≤ 140737488355328)
    (hcl : cs.length = n * 2) (hvl : vs.length = 2)
    (hcs : ∀ j v, cs[j]? = some v → w.cell? ⟨b, j, none⟩ = some v)
    (hvs : ∀ j v, vs[j]? = some v → w.cell? ⟨vb, j, none⟩ = some v) (h1c : ∀ v ∈ cs, v.oneCell' = true) (h1v : ∀ v ∈ vs, v.oneCell' = true) :
    Calls Tryz.prog 177 #[.slice (some ⟨b, 0, none⟩) n c, .int .i64 i, .slice (some ⟨vb, 0, none⟩) 1 vc] w fun e w' =>
      ∃ ROW : Array Value, e = .returned (.slice (some ⟨w.heap.size, 0, none⟩) (n + 1) (grownCap w (n + 1) c 132)) ∧ ROW.size = grownCap w (n + 1) c 132 * 2 ∧ (∀ k, k < i * 2 → ROW[k]? = cs[k]?) ∧
      w' = (((w.alloc (.cells ROW 132)).drew.setCells w.heap.size (i * 2) vs).drew).setCells w.heap.size ((i + 1) * 2) (cs.drop (i * 2)) := by
  have mixed := X.mixed
  have t52 := Tryz.underlying52
  have t3 := Tryz.underlying3
  obtain ⟨i0, hi0, hz0, hzs, hzb⟩ := X.vol
  have hz2 : ¬ ((i : Int) = (n : Int)) := by omega
  have hz3 : (c : Int) < (n : Int) + 1 := by omega
  have hsz : (Tryz.prog.info? 132).map (·.size) = some 2 := by rw [hi0]; simp [hzs]
  have hbw : b < w.heap.size := block_lt_of_cell (hcs 0 _ (List.getElem?_eq_getElem (by omega)))
  have hvw : vb < w.heap.size := block_lt_of_cell (hvs 0 _ (List.getElem?_eq_getElem (by omega)))
  have hkk : (n : Int) + 1 - (i : Int) = ((n + 1 - i : Nat) : Int) := by omega
  have hik : i + (n + 1 - i) = n + 1 := by omega
  have hold : (Builtin.firstCells i0.size i (.slice (some ⟨b, 0, none⟩) i c)).run Tryz.prog w.drew = .ok (cs.take (i * 2)).toArray w.drew := by
    rw [hzs]
    exact run_firstCells_some w.drew 2 i ⟨b, 0, none⟩ i c (cs.take (i * 2)) (by rw [List.length_take]; omega) (fun j v hj => by
      rw [Addr.add_lit, Nat.zero_add]
      rw [List.getElem?_take] at hj
      split at hj
      · exact hcs j v hj
      · cases hj)
  have hrz : ∀ ty, (Builtin.append_ #[52, 3] ty #[.slice (some ⟨b, 0, none⟩) i c, .int .i64 ((n : Int) + 1 - (i : Int))]).run Tryz.prog w =
      .ok (.slice (some ⟨w.heap.size, 0, none⟩) (n + 1) (grownCap w (n + 1) c 132)) (w.drew.alloc (.cells ((cs.take (i * 2)).toArray ++ Builtin.zeroCells (Value.agg #[.string ⟨#[]⟩, .slice none 0 0]).cells (n + 1 - i) ++ Builtin.zeroCells (Value.agg #[.string ⟨#[]⟩, .slice none 0 0]).cells (grownCap w (n + 1) c 132 - (n + 1))) 132)) := fun ty => by
    have h := Lib.run_append_grow_zeros w 52 3 ty 132 i0 _ .i64 .i64 t52 t3 hi0 hz0 (some ⟨b, 0, none⟩) i c (cs.take (i * 2)) hold (n + 1 - i) (by omega) (by omega) (by omega) (by omega) (by rw [hzb]; omega) (by rw [hzb, hik]; exact growslice_fits hroom hbig)
    rw [hik] at h
    rw [hkk]
    exact h
  obtain ⟨G, hG⟩ : ∃ G, G = grownCap w (n + 1) c 132 := ⟨_, rfl⟩
  obtain ⟨ROW, hROW⟩ : ∃ ROW : Array Value, ROW = (cs.take (i * 2)).toArray ++ Builtin.zeroCells (Value.agg #[.string ⟨#[]⟩, .slice none 0 0]).cells (n + 1 - i) ++ Builtin.zeroCells (Value.agg #[.string ⟨#[]⟩, .slice none 0 0]).cells (G - (n + 1)) := ⟨_, rfl⟩
  rw [← hG] at hrz ⊢
  rw [← hROW] at hrz
  have hGn : n + 1 ≤ G := by rw [hG]; exact grownCap_ge w _ _ _
  have hRs : ROW.size = G * 2 := by
    rw [hROW]
    simp [Builtin.zeroCells, Value.cells]
    omega
  have hRt : ∀ k, k < i * 2 → ROW[k]? = cs[k]? := fun k hk => by
    rw [hROW, Array.getElem?_append_left (by simp [Builtin.zeroCells, Value.cells]; omega), Array.getElem?_append_left (by simp; omega)]
    simp [List.getElem?_take, hk]
  have hRl : (n + 1) * 2 ≤ ROW.size := by omega
  obtain ⟨W1, hW1⟩ : ∃ W1, W1 = w.drew.alloc (.cells ROW 132) := ⟨_, rfl⟩
  rw [← hW1] at hrz
  have hN : ∀ j, j < (n + 1) * 2 → (W1.cell? ⟨w.heap.size, j, none⟩).isSome = true := fun j hj => by
    rw [hW1, World.cell?_alloc_at (w := w.drew) ROW _ w.heap.size j rfl, Array.getElem?_eq_getElem (by omega)]; rfl
  have hNf : ∀ j, W1.frozen? ⟨w.heap.size, j, none⟩ = false := fun j => by rw [hW1]; exact World.frozen?_alloc_at (w := w.drew) ROW _ w.heap.size j rfl
  have hOb : ∀ j v, w.cell? ⟨b, j, none⟩ = some v → W1.cell? ⟨b, j, none⟩ = some v := fun j v h => by rw [hW1, World.cell?_alloc_past (w := w.drew) _ b j hbw]; exact h
  have hOv : ∀ j v, w.cell? ⟨vb, j, none⟩ = some v → W1.cell? ⟨vb, j, none⟩ = some v := fun j v h => by rw [hW1, World.cell?_alloc_past (w := w.drew) _ vb j hvw]; exact h
  have hcpA : ∀ (W : World), (∀ x, W.cell? x = W1.cell? x) → (∀ x, W.frozen? x = W1.frozen? x) → ∀ ty dc, (Builtin.copy_ #[52, 52] ty #[.slice (some ⟨w.heap.size, i * 2, none⟩) (n + 1 - i) dc, .slice (some ⟨vb, 0, none⟩) 1 vc]).run Tryz.prog W = .ok (goInt (Nat.min 1 (n + 1 - i))) (W.setCells w.heap.size (i * 2) vs) := fun W hWc hWf ty dc =>
    run_copy_cellsN W _ _ ty 132 2 w.heap.size (i * 2) (n + 1 - i) dc ⟨vb, 0, none⟩ 1 vc vs t52 hsz (by rw [hvl]; simp only [Nat.min_def]; split <;> omega)
      (fun j v hj => by rw [Addr.add_lit, hWc, Nat.zero_add]; exact hOv _ v (hvs j v hj))
      (fun j hj => by rw [hWc]; exact hN _ (by omega)) (fun j hj => by rw [hWf]; exact hNf _) h1v
  have hG63 : G ≤ 9223372036854775807 := by
    have := grownCap_le_maxLen w (n + 1) c 132 (by unfold maxLen; omega)
    rw [← hG] at this
    unfold maxLen at this
    omega
  have hGi : ¬ (G = i) := by omega
  have hGim : ¬ (G = i + 1) := by omega
  have hci : ¬ (c = i) := by omega
  have hbN : b ≠ w.heap.size := by omega
  have hdl : (cs.drop (i * 2)).length = (n - i) * 2 := by rw [List.length_drop, hcl]; omega
  have hcpB : ∀ (W : World), (∀ x, W.cell? x = (W1.setCells w.heap.size (i * 2) vs).cell? x) → (∀ x, W.frozen? x = (W1.setCells w.heap.size (i * 2) vs).frozen? x) → ∀ ty dc sc, (Builtin.copy_ #[52, 52] ty #[.slice (some ⟨w.heap.size, (i + 1) * 2, none⟩) (n - i) dc, .slice (some ⟨b, i * 2, none⟩) (n - i) sc]).run Tryz.prog W = .ok (goInt (Nat.min (n - i) (n - i))) (W.setCells w.heap.size ((i + 1) * 2) (cs.drop (i * 2))) := fun W hWc hWf ty dc sc =>
    run_copy_cellsN W _ _ ty 132 2 w.heap.size ((i + 1) * 2) (n - i) dc ⟨b, i * 2, none⟩ (n - i) sc (cs.drop (i * 2)) t52 hsz (by rw [hdl]; simp only [Nat.min_def]; split <;> rfl)
      (fun j v hj => by
        rw [Addr.add_lit, hWc, World.cell?_setCells_out _ _ _ _ _ (fun h _ => absurd h hbN)]
        exact hOb _ v (hcs (i * 2 + j) v (by rwa [List.getElem?_drop] at hj)))
      (fun j hj => by rw [hWc]; exact isSome_setCells _ _ _ _ (fun t ht => hN _ (by omega)) _ (hN _ (by omega)))
      (fun j hj => by rw [hWf, World.frozen?_setCells]; exact hNf _) (fun v hv => h1c v (List.mem_of_mem_drop hv))
  subst hW1
  have hE1 : ∀ x, ((w.alloc (.cells ROW 132)).drew).cell? x = (w.drew.alloc (.cells ROW 132)).cell? x := fun x => rfl
  have hE2 : ∀ x, ((w.alloc (.cells ROW 132)).drew).frozen? x = (w.drew.alloc (.cells ROW 132)).frozen? x := fun x => rfl
  have hF1 : ∀ x, (((w.alloc (.cells ROW 132)).drew.setCells w.heap.size (i * 2) vs).drew).cell? x = ((w.drew.alloc (.cells ROW 132)).setCells w.heap.size (i * 2) vs).cell? x := fun x => rfl
  have hF2 : ∀ x, (((w.alloc (.cells ROW 132)).drew.setCells w.heap.size (i * 2) vs).drew).frozen? x = ((w.drew.alloc (.cells ROW 132)).setCells w.heap.size (i * 2) vs).frozen? x := fun x => rfl
  have hw1 : IntKind.i64.wrap ((i : Int) + 1) = (i : Int) + 1 := by rw [IntKind.wrap_i64]; omega
  have hb1 : (0 : Int) ≤ (i : Int) + 1 := by omega
  have hin : i ≤ n := by omega
  have htn : ((i : Int) + 1).toNat = i + 1 := by omega
  have hb3 : (i : Int) ≤ (n : Int) := by omega
  clear hkk hik hold hROW hG hRl
  go_enter Tryz.func177, Tryz.ntmps177
  go_wp2_with (first
    | (at_builtin; refine Lib.wpList_append_run _ rfl _ _ _ _ rfl _ _ rfl rfl _ _ (hrz _) ?_)
    | (at_builtin; refine wpList_copy_runI _ rfl _ _ 52 52 rfl _ _ rfl rfl (hcpA _ hE1 hE2 _ _) ?_)
    | (at_builtin; refine wpList_copy_runI _ rfl _ _ 52 52 rfl _ _ rfl rfl (hcpB _ (fun _ => rfl) (fun _ => rfl) _ _ _) ?_))
  go_region_law_o (refine step_copy_runI rfl _ _ 52 52 rfl (.slice (some ⟨w.heap.size, (i + 1) * 2, none⟩) (n - i) (G - (i + 1))) (.slice (some ⟨b, i * 2, none⟩) (n - i) (c - i)) (by simp [Act.eval, Act.put]) (by simp [Act.eval, Act.put]) (hcpB _ hF1 hF2 3 (G - (i + 1)) (c - i)) ?_)
  go_wp2
  go_ret
  exact ⟨ROW, rfl, hRs, hRt, rfl⟩
end Go.Gn

namespace Go.Gn
open Go Go.RowKit Go.Proofs Go.Shelf Go.Lib
set_option linter.unusedVariables false
set_option linter.unusedSimpArgs false
theorem drew_heap (w : World) : w.drew.heap = w.heap := rfl
structure InsR (w w' : World) (blk : Option Nat) (n i : Nat) (cs vs : List Value) (v : Value) : Prop where
  ex : ∃ g cap arr e, v = .slice (some ⟨g, 0, none⟩) (n + 1) cap ∧ n + 1 ≤ cap ∧ w'.heap[g]? = some (.cells arr e (0, 0)) ∧ arr.size = cap * 2 ∧ (∀ j, j < i * 2 → arr[j]? = cs[j]?) ∧ (∀ j, j < 2 → arr[i * 2 + j]? = vs[j]?) ∧ (∀ j, i * 2 ≤ j → j < n * 2 → arr[j + 2]? = cs[j]?) ∧ (blk = some g ∨ w.heap.size ≤ g)
  size : w.heap.size ≤ w'.heap.size
  same : w'.os = w.os ∧ w'.tape = w.tape ∧ w'.output = w.output
  other : ∀ k, k < w.heap.size → blk ≠ some k → w'.heap[k]? = w.heap[k]?
theorem tape_setCells (b : Nat) : ∀ (vs : List Value) (o : Nat) (w : World), (w.setCells b o vs).tape = w.tape
  | [], _, _ => rfl
  | v :: vs, o, w => by rw [World.setCells, tape_setCells b vs]; rfl
theorem os_setCells' (b : Nat) : ∀ (vs : List Value) (o : Nat) (w : World), (w.setCells b o vs).os = w.os
  | [], _, _ => rfl
  | v :: vs, o, w => by rw [World.setCells, os_setCells' b vs]; rfl
theorem output_setCells' (b : Nat) : ∀ (vs : List Value) (o : Nat) (w : World), (w.setCells b o vs).output = w.output
  | [], _, _ => rfl
  | v :: vs, o, w => by rw [World.setCells, output_setCells' b vs]; rfl
theorem alloc_heap (w : World) (o : Go.Obj) : (w.alloc o).heap = w.heap.push o := rfl
theorem size_setCells' (b : Nat) : ∀ (vs : List Value) (o : Nat) (w : World), (w.setCells b o vs).heap.size = w.heap.size
  | [], _, _ => rfl
  | v :: vs, o, w => by rw [World.setCells, size_setCells' b vs]; simp [World.setCell]
theorem other_setCells (b : Nat) {k : Nat} (hk : k ≠ b) : ∀ (vs : List Value) (o : Nat) (w : World), (w.setCells b o vs).heap[k]? = w.heap[k]?
  | [], _, _ => rfl
  | v :: vs, o, w => by
    rw [World.setCells, other_setCells b hk vs]
    simp only [World.setCell, Array.getElem?_modify]
    rw [if_neg (fun e => hk e.symm)]
theorem insert_all {w : World} {blk : Option Nat} {n c i vb vc : Nat} {cs vs : List Value} {cur va : Array Value} {e ev : TypeId} (hi : i ≤ n) (hnc : n ≤ c) (hc0 : blk = none → c = 0) (hc63 : n ≤ 140737488355328) (hbig : (n + 1) * 40 ≤ 140737488355328)
    (hcur : ∀ b : Nat, blk = some b → w.heap[b]? = some (.cells cur e (0, 0)) ∧ cur.size = c * 2) (hcl : cs.length = n * 2) (hcs : ∀ (j : Nat) (v : Value), cs[j]? = some v → blk ≠ none → cur[j]? = some v) (h1c : ∀ v ∈ cs, v.oneCell' = true)
    (hva : w.heap[vb]? = some (.cells va ev (0, 0))) (hvb : blk ≠ some vb) (hvl : vs.length = 2) (hvs : ∀ (j : Nat) (v : Value), vs[j]? = some v → va[j]? = some v) (h1v : ∀ v ∈ vs, v.oneCell' = true) :
    Calls Tryz.prog 177 #[.slice (blk.map mk0) n c, .int .i64 i, .slice (some ⟨vb, 0, none⟩) 1 vc] w fun en w' => ∃ v, en = .returned v ∧ InsR w w' blk n i cs vs v := by
  have hvs' : ∀ j v, vs[j]? = some v → w.cell? ⟨vb, j, none⟩ = some v := fun j v hj => by simp [World.cell?, hva, hvs j v hj]
  have hfz : ∀ {b : Nat} {a : Array Value} {t : TypeId}, w.heap[b]? = some (.cells a t (0, 0)) → ∀ j, w.frozen? ⟨b, j, none⟩ = false := fun h j => by simp [World.frozen?, h]
  have fin_new : ∀ (cap : Nat) (arr : Array Value) (w' : World), n + 1 ≤ cap → w'.heap[w.heap.size]? = some (.cells arr 132 (0, 0)) → arr.size = cap * 2 → (∀ j, j < i * 2 → arr[j]? = cs[j]?) → (∀ j, j < 2 → arr[i * 2 + j]? = vs[j]?) → (∀ j, i * 2 ≤ j → j < n * 2 → arr[j + 2]? = cs[j]?) →
      w.heap.size ≤ w'.heap.size → (w'.os = w.os ∧ w'.tape = w.tape ∧ w'.output = w.output) → (∀ k, k < w.heap.size → w'.heap[k]? = w.heap[k]?) → InsR w w' blk n i cs vs (.slice (some ⟨w.heap.size, 0, none⟩) (n + 1) cap) :=
    fun cap arr w' h1 h2 h3 h4 h5 h6 h7 h8 h9 => ⟨⟨_, cap, arr, 132, rfl, h1, h2, h3, h4, h5, h6, .inr (Nat.le_refl _)⟩, h7, h8, fun k hk _ => h9 k hk⟩
  have grow_fin : ∀ (base : Option Addr), (base = none → n = 0) → (∀ a, base = some a → ∀ j v, cs[j]? = some v → w.cell? (a.add j) = some v) → i = n → c < n + 1 →
      Calls Tryz.prog 177 #[.slice base n c, .int .i64 n, .slice (some ⟨vb, 0, none⟩) 1 vc] w fun en w' => ∃ v, en = .returned v ∧ InsR w w' blk n i cs vs v := by
    intro base hnil hbc hin hroom
    refine (insert_end_grow base n c vb vc cs vs w hnc hroom hbig hcl hvl hnil hbc hvs' h1v).mono ?_
    rintro en w' ⟨rfl, rfl⟩
    refine ⟨_, rfl, ?_⟩
    have hge := grownCap_ge w (n + 1) c 132
    refine fin_new _ ((cs ++ vs).toArray ++ Builtin.zeroCells (Value.agg #[.string ⟨#[]⟩, .slice none 0 0]).cells (grownCap w (n + 1) c 132 - (n + 1))) _ hge (by simp [alloc_heap, drew_heap]) ?_ ?_ ?_ ?_ (by simp [alloc_heap, drew_heap]) ⟨rfl, rfl, rfl⟩ (fun k hk => ?_)
    · simp [Builtin.zeroCells, Value.cells]; omega
    · intro j hj
      rw [Array.getElem?_append_left (by simp; omega)]
      simp only [List.getElem?_toArray]
      rw [List.getElem?_append_left (by omega)]
    · intro j hj
      rw [Array.getElem?_append_left (by simp; omega)]
      simp only [List.getElem?_toArray]
      rw [List.getElem?_append_right (by omega)]
      congr 1; omega
    · intro j hj hj2; omega
    · simp only [alloc_heap, drew_heap]
      rw [Array.getElem?_push_lt hk, Array.getElem?_eq_getElem hk]
  cases blk with
  | none =>
    have h0 := hc0 rfl
    have hn0 : n = 0 := by omega
    have hi0 : i = 0 := by omega
    subst hn0
    subst hi0
    exact grow_fin none (fun _ => rfl) (fun a ha => by cases ha) rfl (by omega)
  | some b =>
    obtain ⟨hb, hbs⟩ := hcur b rfl
    have hcs' : ∀ j v, cs[j]? = some v → w.cell? ⟨b, j, none⟩ = some v := fun j v hj => by simp [World.cell?, hb, hcs j v hj (by simp)]
    have hne : vb ≠ b := fun e => hvb (by rw [e])
    have hbl : b < w.heap.size := (Array.getElem?_eq_some_iff.1 hb).1
    have hsp : ∀ j, j < c * 2 → (w.cell? ⟨b, j, none⟩).isSome = true := fun j hj => by simp [World.cell?, hb]; omega
    have hcc : ∀ j, j < n * 2 → cur[j]? = cs[j]? := fun j hj => by
      rw [List.getElem?_eq_getElem (by omega)]
      exact hcs j _ (List.getElem?_eq_getElem (by omega)) (by simp)
    show Calls Tryz.prog 177 #[.slice (some ⟨b, 0, none⟩) n c, .int .i64 i, .slice (some ⟨vb, 0, none⟩) 1 vc] w _
    by_cases hin : i = n
    · by_cases hroom : n + 1 ≤ c
      · subst hin
        refine (insert_end_room b i c vb vc vs w hroom hc63 hvl (fun j hj => hsp _ (by omega)) (hfz hb) hvs' h1v).mono ?_
        rintro en w' ⟨rfl, rfl⟩
        refine ⟨_, rfl, ?_⟩
        obtain ⟨cur', g1, g2, g3⟩ := heap_setCells b vs (i * 2) w cur hb (by omega)
        refine ⟨⟨b, c, cur', e, rfl, hroom, g1, by rw [g2, hbs], fun j hj => ?_, fun j hj => ?_, fun j hj hj2 => by omega, .inl rfl⟩, Nat.le_of_eq (size_setCells' ..).symm, ⟨os_setCells' .., tape_setCells .., output_setCells' ..⟩, fun k hk hkb => other_setCells b (fun e => hkb (by rw [e])) _ _ _⟩
        · rw [g3, if_neg (by omega)]; exact hcc j (by omega)
        · rw [g3, if_pos (by omega)]; congr 1; omega
      · subst hin
        exact grow_fin (some ⟨b, 0, none⟩) (fun h => by cases h) (fun a ha j v hj => by cases ha; rw [Addr.add_lit, Nat.zero_add]; exact hcs' j v hj) rfl (by omega)
    · by_cases hroom : n + 1 ≤ c
      · refine (insert_shift b n c i vb vc cs vs w (by omega) hroom hc63 hne hcl hvl hcs' (fun j hj => hsp _ (by omega)) (hfz hb) hvs' h1c h1v ev e va.size cur.size (by simp [World.shape?, hva]) (by simp [World.shape?, hb]) (by omega) (hfz hva)).mono ?_
        rintro en w' ⟨rfl, rfl⟩
        refine ⟨_, rfl, ?_⟩
        have hdl : (cs.drop (i * 2)).length = (n - i) * 2 := by rw [List.length_drop, hcl]; omega
        obtain ⟨cur1, g1, g2, g3⟩ := heap_setCells b (cs.drop (i * 2)) ((i + 1) * 2) w.drew cur hb (by omega)
        obtain ⟨cur2, f1, f2, f3⟩ := heap_setCells b vs (i * 2) _ cur1 g1 (by omega)
        refine ⟨⟨b, c, cur2, e, rfl, hroom, f1, by rw [f2, g2, hbs], fun j hj => ?_, fun j hj => ?_, fun j hj hj2 => ?_, .inl rfl⟩, ?_, ⟨?_, ?_, ?_⟩, fun k hk hkb => ?_⟩
        · rw [f3, if_neg (by omega), g3, if_neg (by omega)]; exact hcc j (by omega)
        · rw [f3, if_pos (by omega)]; congr 1; omega
        · rw [f3, if_neg (by omega), g3, if_pos (by omega), List.getElem?_drop]; congr 1; omega
        · rw [size_setCells', size_setCells']; exact Nat.le_refl _
        · rw [os_setCells', os_setCells']; rfl
        · rw [tape_setCells, tape_setCells]; rfl
        · rw [output_setCells', output_setCells']; rfl
        · rw [other_setCells b (fun e => hkb (by rw [e])), other_setCells b (fun e => hkb (by rw [e]))]; rfl
      · refine (insert_grow b n c i vb vc cs vs w (by omega) hnc (by omega) hbig hcl hvl hcs' hvs' h1c h1v).mono ?_
        rintro en w' ⟨ROW, rfl, hRs, hRt, rfl⟩
        refine ⟨_, rfl, ?_⟩
        have hge := grownCap_ge w (n + 1) c 132
        have hdl : (cs.drop (i * 2)).length = (n - i) * 2 := by rw [List.length_drop, hcl]; omega
        have hal : ((w.alloc (.cells ROW 132)).drew).heap[w.heap.size]? = some (.cells ROW 132 (0, 0)) := by simp [alloc_heap, drew_heap]
        obtain ⟨cur1, g1, g2, g3⟩ := heap_setCells w.heap.size vs (i * 2) _ ROW hal (by omega)
        obtain ⟨cur2, f1, f2, f3⟩ := heap_setCells w.heap.size (cs.drop (i * 2)) ((i + 1) * 2) ((World.setCells _ _ _ _).drew) cur1 g1 (by omega)
        refine fin_new _ cur2 _ hge f1 (by rw [f2, g2, hRs]) (fun j hj => ?_) (fun j hj => ?_) (fun j hj hj2 => ?_) ?_ ⟨?_, ?_, ?_⟩ (fun k hk => ?_)
        · rw [f3, if_neg (by omega), g3, if_neg (by omega)]; exact hRt j hj
        · rw [f3, if_neg (by omega), g3, if_pos (by omega)]; congr 1; omega
        · rw [f3, if_pos (by omega), List.getElem?_drop]; congr 1; omega
        · rw [size_setCells', drew_heap, size_setCells']; simp [alloc_heap, drew_heap]
        · rw [os_setCells']; exact os_setCells' ..
        · rw [tape_setCells]; exact tape_setCells ..
        · rw [output_setCells']; exact output_setCells' ..
        · rw [other_setCells _ (by omega), drew_heap, other_setCells _ (by omega)]
          simp only [alloc_heap, drew_heap]
          rw [Array.getElem?_push_lt hk, Array.getElem?_eq_getElem hk]
end Go.Gn

namespace Go.Gn
open Go Go.RowKit Go.Proofs Go.Shelf Go.Lib
set_option linter.unusedVariables false
set_option linter.unusedSimpArgs false
theorem RepN.at {imm : Nat → Prop} {w : World} {m m' : Meta} {j j' : Nat} {d : D} {v : Value} (h : RepN imm w m j d v) (hn : m'.nest j' = m.nest j) : RepN imm w m' j' d v := by
  unfold RepN at h ⊢
  rw [hn]; exact h
theorem nest_of {imm imm' : Nat → Prop} {w w' : World} {mo m' : Meta} {c0 j : Nat} {ys : List (List D)} (h : RepRow imm w mo 1 0 c0 ys) (hn : m'.nest j = mo.blk) (hk : Keep imm w w') (hs : ∀ b, imm b → imm' b)
    (hb : ∀ b, mo.blk = some b → w'.heap[b]? = w.heap[b]?) : RepN imm' w' m' j (.sl ys) (.slice (mo.blk.map mk0) mo.len mo.cap) := by
  obtain ⟨o1, o2, o3, o4, o5, o6, o7⟩ := h
  refine ⟨ys, rfl, ?_⟩
  cases hmb : mo.blk with
  | some b' =>
    obtain ⟨vs1, e1, hh1, hs1, hr1⟩ := o7 b' hmb
    refine .inr ⟨b', mo.cap, vs1, e1, by rw [hn, hmb], by rw [o2]; rfl, (hb b' hmb).trans hh1, by omega, by omega, fun i2 el2 hi2 => ?_⟩
    have hl2 := o6 el2 (List.mem_of_getElem? hi2)
    obtain ⟨d2, rfl⟩ := List.length_eq_one_iff.1 hl2
    obtain ⟨v2, hv2, hd2⟩ := hr1 i2 _ 0 d2 hi2 rfl
    rw [if_neg (by omega)] at hd2
    exact ⟨d2, v2, rfl, by simpa using hv2, hd2.mono hk hs⟩
  | none =>
    have := o5 hmb
    have hy0 : ys = [] := List.eq_nil_of_length_eq_zero (by omega)
    exact .inl ⟨by rw [hn, hmb], hy0, none, mo.cap, by rw [show mo.len = 0 by omega]; rfl⟩
theorem good_insert : Good Tryz.prog (fun _ => insertX 40) 177 false := by
  unfold Good
  rw [if_neg (by simp)]
  intro args os r os' h c w vals hst hdom hvals
  simp only [insertX] at h
  split at h
  rotate_left
  · cases h
  rename_i i k c0 xs s c2 ys
  split at h
  rotate_left
  · cases h
  rename_i hc
  obtain ⟨hi0, hil, hk, hc0, hbig⟩ := hc
  subst hk
  cases h
  obtain ⟨i, rfl⟩ : ∃ i' : Nat, i = (i' : Int) := ⟨i.toNat, by omega⟩
  have hil : i ≤ xs.length := by omega
  rw [Int.toNat_natCast]
  cases hvals with
  | cons _ v0 _ vs hv0 hvs =>
  cases hvs with
  | cons _ v1 _ vs hv1 hvs =>
  cases hvs with
  | cons _ v2 _ vs hv2 hvs =>
  cases hvs
  cases hv1
  obtain ⟨m0, hm0, rfl⟩ : ∃ m0, c.μ 0 = some m0 ∧ v0 = .slice (m0.blk.map mk0) m0.len m0.cap := by
    cases hv0 with | hw _ m hm => exact ⟨m, hm, rfl⟩
  obtain ⟨m1, hm1, A, cap2, rfl, hc2, hA⟩ : ∃ m1, c.μ 1 = some m1 ∧ ∃ A cap2, v2 = .slice A 1 cap2 ∧ 1 ≤ cap2 ∧ ∃ b, m1.blk = some b ∧ A = some ⟨b, 0 * m1.sz, none⟩ := by
    cases hv2 with | hs _ _ _ A cap m hm hc h => exact ⟨m, hm, A, cap, rfl, hc, h (by omega)⟩
  obtain ⟨vb, hvb, rfl⟩ := hA
  have hrow : RepRow c.imm w m0 2 xs.length c0 xs := by
    obtain ⟨m, hm, hr⟩ := hst.obj 0 _ rfl (by simp)
    rw [hm0] at hm; cases hm; exact hr
  obtain ⟨vb', bvs, be, hvb', hbh, hbr⟩ : ∃ b vs e, m1.blk = some b ∧ w.heap[b]? = some (.cells vs.toArray e (0, 0)) ∧ RepAVs c w [.str s, .hw 2] vs := by
    obtain ⟨m, hm, hr⟩ := hst.obj 1 _ rfl (by simp)
    rw [hm1] at hm; cases hm; exact hr
  rw [hvb] at hvb'; cases hvb'
  obtain ⟨m2, hm2, rfl⟩ : ∃ m2, c.μ 2 = some m2 ∧ bvs = [.string s, .slice (m2.blk.map mk0) m2.len m2.cap] := by
    cases hbr with
    | cons _ v _ vs h1 h2 =>
    cases h2 with
    | cons _ v' _ vs' h3 h4 =>
    cases h4
    cases h1
    cases h3 with | hw _ m hm => exact ⟨m, hm, rfl⟩
  have hrow2 : RepRow c.imm w m2 1 0 c2 ys := by
    obtain ⟨m, hm, hr⟩ := hst.obj 2 _ rfl (by simp)
    rw [hm2] at hm; cases hm; exact hr
  obtain ⟨r1, r2, r3, r4, r5, r6, r7⟩ := hrow
  have own0 : ∀ b, m0.blk = some b → Owns c.μ [.row 2 xs.length c0 xs, .box [.str s, .hw 2], .row 1 0 c2 ys] 0 none b := fun b hb => ⟨m0, hm0, hb⟩
  have own0n : ∀ p b, p < xs.length → m0.nest p = some b → Owns c.μ [.row 2 xs.length c0 xs, .box [.str s, .hw 2], .row 1 0 c2 ys] 0 (some p) b := fun p b hp hb => ⟨m0, hm0, hp, hb⟩
  have own1 : Owns c.μ [.row 2 xs.length c0 xs, .box [.str s, .hw 2], .row 1 0 c2 ys] 1 none vb := ⟨m1, hm1, hvb⟩
  have own2 : ∀ b, m2.blk = some b → Owns c.μ [.row 2 xs.length c0 xs, .box [.str s, .hw 2], .row 1 0 c2 ys] 2 none b := fun b hb => ⟨m2, hm2, hb⟩
  have hcur : ∃ (cur : Array Value) (e : TypeId), ∀ b, m0.blk = some b → w.heap[b]? = some (.cells cur e (0, 0)) ∧ cur.size = m0.cap * 2 ∧
      ∀ (j : Nat) (el : List D) (i : Nat) (d : D), xs[j]? = some el → el[i]? = some d → ∃ v, cur[j * 2 + i]? = some v ∧ (if j < xs.length ∧ i = c0 then RepN c.imm w m0 j d v else RepD c.imm w d v) := by
    cases hb : m0.blk with
    | none => exact ⟨#[], 0, fun b h => by cases h⟩
    | some b =>
      obtain ⟨vs, e, h1, h2, h3⟩ := r7 b hb
      exact ⟨vs, e, fun b' hb' => by cases hb'; exact ⟨h1, h2, h3⟩⟩
  obtain ⟨cur, e, hcur⟩ := hcur
  have hnone : m0.blk = none → xs = [] := fun h => List.eq_nil_of_length_eq_zero (by have := r5 h; omega)
  have hcl : (cur.toList.take (xs.length * 2)).length = xs.length * 2 := by
    cases hb : m0.blk with
    | none => rw [hnone hb]; simp
    | some b =>
      obtain ⟨h1, h2, _⟩ := hcur b hb
      simp; omega
  have cget : ∀ j v, (cur.toList.take (xs.length * 2))[j]? = some v → cur[j]? = some v := fun j v hj => by
    rw [List.getElem?_take] at hj
    split at hj
    · simpa using hj
    · cases hj
  have cget2 : ∀ j, j < xs.length * 2 → (cur.toList.take (xs.length * 2))[j]? = cur[j]? := fun j hj => by
    rw [List.getElem?_take, if_pos hj]; simp
  have hone : ∀ v ∈ cur.toList.take (xs.length * 2), v.oneCell' = true := fun v hv => by
    obtain ⟨q, hq⟩ := List.getElem?_of_mem hv
    have hql : q < xs.length * 2 := by rw [← hcl]; exact (List.getElem?_eq_some_iff.1 hq).1
    cases hb : m0.blk with
    | none => rw [hnone hb] at hql; simp at hql
    | some b =>
      obtain ⟨h1, h2, h3⟩ := hcur b hb
      have hjl : q / 2 < xs.length := by omega
      obtain ⟨el, hel⟩ : ∃ el, xs[q / 2]? = some el := ⟨_, List.getElem?_eq_getElem hjl⟩
      have hell := r6 el (List.mem_of_getElem? hel)
      obtain ⟨d, hd⟩ : ∃ d, el[q % 2]? = some d := ⟨_, List.getElem?_eq_getElem (by omega)⟩
      obtain ⟨v', hv', hr⟩ := h3 _ _ _ _ hel hd
      rw [show q / 2 * 2 + q % 2 = q by omega, cget q v hq] at hv'
      cases hv'
      split at hr
      · obtain ⟨ys', _, hr | hr⟩ := hr
        · obtain ⟨_, _, A, cap, rfl⟩ := hr; rfl
        · obtain ⟨_, _, _, _, _, rfl, _⟩ := hr; rfl
      · exact hr.one
  have hvbn : m0.blk ≠ some vb := fun e => by
    have := (hst.uniq _ _ _ _ _ (own0 _ e) own1).1
    omega
  rw [show (0 : Nat) * m1.sz = 0 by simp, r2]
  refine (insert_all (cur := cur) (va := #[.string s, .slice (m2.blk.map mk0) m2.len m2.cap]) (cs := cur.toList.take (xs.length * 2)) (vs := [.string s, .slice (m2.blk.map mk0) m2.len m2.cap]) hil (by omega) r5 (by omega) (by omega) (fun b hb => ⟨(hcur b hb).1, (hcur b hb).2.1⟩) hcl (fun j v hj _ => cget j v hj) hone hbh hvbn rfl (fun j v hj => by simpa using hj) (fun v hv => by
    simp only [List.mem_cons, List.not_mem_nil, or_false] at hv
    rcases hv with rfl | rfl <;> rfl)).mono ?_
  rintro en w' ⟨v, rfl, hR⟩
  obtain ⟨⟨g, cap, arr, e', rfl, hcap, hg, hsz, hA, hB, hC, hgo⟩, hsize, hsame, hother⟩ := hR
  generalize hos : [Obj.row 2 xs.length c0 xs, .box [.str s, .hw 2], .row 1 0 c2 ys] = os at hst own0 own0n own1 own2
  have hol : os.length = 3 := by rw [← hos]; rfl
  have hgl : g < w'.heap.size := (Array.getElem?_eq_some_iff.1 hg).1
  have hgown : ∀ p l, Owns c.μ os p l g → p = 0 ∧ l = none := fun p l ho => by
    rcases hgo with h | h
    · have := hst.uniq _ _ _ _ _ ho (own0 g h); exact this
    · have := (hst.lt _ _ _ ho).1; omega
  have hkeep : ∀ p l b', Owns c.μ os p l b' → ¬ (p = 0 ∧ l = none) → w'.heap[b']? = w.heap[b']? := fun p l b' ho hn =>
    hother b' (hst.lt _ _ _ ho).1 (fun e => hn (hst.uniq _ _ _ _ _ ho (own0 b' e)))
  let m3 : Meta := ⟨some g, 2, xs.length + 1, cap, fun p => if p < i then m0.nest p else if p = i then m2.blk else if p < xs.length + 1 then m0.nest (p - 1) else none⟩
  let c' : Cx := { c with μ := fun p => if p = 3 then some m3 else c.μ p }
  have key : ∀ p l b', Owns c'.μ [.dead, .box [.str s, .hw 2], .dead, .row 2 (xs.length + 1) 1 (xs.take i ++ [[.str s, .sl ys]] ++ xs.drop i)] p l b' →
      (p = 1 ∧ l = none ∧ Owns c.μ os 1 none b') ∨ (p = 3 ∧ l = none ∧ b' = g) ∨ (p = 3 ∧ ∃ q, l = some q ∧ ((q < i ∧ Owns c.μ os 0 (some q) b') ∨ (q = i ∧ Owns c.μ os 2 none b') ∨ (i < q ∧ Owns c.μ os 0 (some (q - 1)) b'))) := by
    rintro p l b' ⟨m, hm, ho⟩
    match p with
    | 0 => cases l <;> exact ho.elim
    | 1 =>
      have hm : c.μ 1 = some m := hm
      rw [hm1] at hm; cases hm
      cases l with
      | none =>
        have ho : m1.blk = some b' := ho
        rw [hvb] at ho; cases ho
        exact .inl ⟨rfl, rfl, own1⟩
      | some q => exact ho.elim
    | 2 => cases l <;> exact ho.elim
    | 3 =>
      have hm : some m3 = some m := hm
      cases hm
      cases l with
      | none => exact .inr (.inl ⟨rfl, rfl, by have ho : some g = some b' := ho; cases ho; rfl⟩)
      | some q =>
        obtain ⟨hq, hn⟩ : q < xs.length + 1 ∧ m3.nest q = some b' := ho
        refine .inr (.inr ⟨rfl, q, rfl, ?_⟩)
        simp only [m3] at hn
        by_cases h1 : q < i
        · rw [if_pos h1] at hn; exact .inl ⟨h1, own0n q b' (by omega) hn⟩
        · rw [if_neg h1] at hn
          by_cases h2 : q = i
          · rw [if_pos h2] at hn; exact .inr (.inl ⟨h2, own2 b' hn⟩)
          · rw [if_neg h2, if_pos hq] at hn
            exact .inr (.inr ⟨by omega, own0n (q - 1) b' (by omega) hn⟩)
    | p + 4 => cases l <;> exact ho.elim
  have hchg : ∀ b', m0.blk = some b' → ∃ o l, Owns c.μ os o l b' := fun b' h => ⟨0, none, own0 b' h⟩
  obtain ⟨s1, s2⟩ := hst.step (c' := c') (os' := [.dead, .box [.str s, .hw 2], .dead, .row 2 (xs.length + 1) 1 (xs.take i ++ [[.str s, .sl ys]] ++ xs.drop i)]) (w' := w') (fun b' => m0.blk = some b') ⟨rfl, rfl⟩ (fun _ h => h) (fun _ h => .inl h)
    (fun o m hm => by
      by_cases h3 : o = 3
      · subst h3; exact absurd (hdom 3 (by rw [hm]; simp)) (by simp)
      · exact ⟨m, by simp [c', h3, hm], m.le_refl⟩) hsize hsame (fun b' hb' hn => hother b' hb' hn) hchg
    (fun ext o x hx hxd => by
      match o with
      | 0 => exact absurd hx.symm hxd
      | 1 =>
        right
        refine ⟨by rw [← hos]; exact hx, rfl, fun l b' ho hb' => ?_⟩
        have := (hst.uniq _ _ _ _ _ ho (own0 b' hb')).1
        omega
      | 2 => exact absurd hx.symm hxd
      | 3 =>
        left
        have hx : Obj.row 2 (xs.length + 1) 1 (xs.take i ++ [[.str s, .sl ys]] ++ xs.drop i) = x := hx
        subst hx
        refine ⟨m3, by simp [c'], ?_⟩
        have hlen : (xs.take i ++ [[D.str s, .sl ys]] ++ xs.drop i).length = xs.length + 1 := by simp; omega
        refine ⟨rfl, hlen.symm, hcap, ⟨by omega, fun _ j hj => ?_⟩, (fun h => by cases h), fun el hel => ?_, fun b hb => ?_⟩
        · simp only [m3]
          rw [if_neg (by omega), if_neg (by omega), if_neg (by omega)]
        · rcases List.mem_append.1 hel with hel | hel
          · rcases List.mem_append.1 hel with hel | hel
            · exact r6 el (List.mem_of_mem_take hel)
            · simp at hel; subst hel; rfl
          · exact r6 el (List.mem_of_mem_drop hel)
        · cases hb
          refine ⟨arr, e', hg, hsz, fun j el t d hj ht => ?_⟩
          have old : ∀ j0, j0 < xs.length → xs[j0]? = some el → (∀ t, t < 2 → arr[j * 2 + t]? = cur[j0 * 2 + t]?) → m3.nest j = m0.nest j0 → ∃ v, arr[j * 2 + t]? = some v ∧ (if j < xs.length + 1 ∧ t = 1 then RepN c.imm w' m3 j d v else RepD c.imm w' d v) := by
            intro j0 hj0 hx0 harr hnest
            have ht2 : t < 2 := by rw [← r6 el (List.mem_of_getElem? hx0)]; exact (List.getElem?_eq_some_iff.1 ht).1
            have hc1 : c0 = 1 := by
              rcases hc0 with h | h
              · omega
              · exact h
            cases hb : m0.blk with
            | none => rw [hnone hb] at hj0; simp at hj0
            | some b =>
              obtain ⟨v, hv, hr⟩ := (hcur b hb).2.2 j0 el t d hx0 ht
              refine ⟨v, by rw [harr t ht2]; exact hv, ?_⟩
              have hjl : j < xs.length + 1 := by rw [← hlen]; exact (List.getElem?_eq_some_iff.1 hj).1
              by_cases ht1 : t = 1
              · rw [if_pos ⟨hj0, by omega⟩] at hr
                rw [if_pos ⟨hjl, ht1⟩]
                exact (hr.mono ext.ki (fun _ h => h) (fun b' hb' => hkeep 0 (some j0) b' (own0n j0 b' hj0 hb') (fun h => by cases h.2))).at hnest
              · rw [if_neg (by omega)] at hr
                rw [if_neg (fun h => ht1 h.2)]
                exact hr.mono ext.ki (fun _ h => h)
          have hti : (xs.take i).length = i := by simp; omega
          by_cases h1 : j < i
          · have hx0 : xs[j]? = some el := by
              rw [List.append_assoc, List.getElem?_append_left (by omega), List.getElem?_take, if_pos h1] at hj; exact hj
            exact old j (by omega) hx0 (fun t ht => by rw [hA _ (by omega), cget2 _ (by omega)]) (by simp only [m3]; rw [if_pos h1])
          · by_cases h2 : j = i
            · subst h2
              rw [List.append_assoc, List.getElem?_append_right (by omega), hti, Nat.sub_self] at hj
              have hj : some [D.str s, .sl ys] = some el := hj
              cases hj
              match t with
              | 0 =>
                cases ht
                exact ⟨.string s, by rw [hB 0 (by omega)]; rfl, by rw [if_neg (by omega)]; exact .str s⟩
              | 1 =>
                cases ht
                refine ⟨.slice (m2.blk.map mk0) m2.len m2.cap, by rw [hB 1 (by omega)]; rfl, ?_⟩
                rw [if_pos ⟨by omega, rfl⟩]
                exact nest_of hrow2 (by simp [m3]) ext.ki (fun _ h => h) (fun b hb => hkeep 2 none b (own2 b hb) (fun h => by cases h.1))
              | t + 2 => simp at ht
            · have hx0 : xs[j - 1]? = some el := by
                rw [List.getElem?_append_right (by simp; omega)] at hj
                rw [List.getElem?_drop] at hj
                rw [← hj]; congr 1; simp; omega
              have hjl : j < xs.length + 1 := by rw [← hlen]; exact (List.getElem?_eq_some_iff.1 hj).1
              exact old (j - 1) (by omega) hx0 (fun t ht => by
                rw [show j * 2 + t = ((j - 1) * 2 + t) + 2 by omega, hC _ (by omega) (by omega), cget2 _ (by omega)]) (by simp only [m3]; rw [if_neg h1, if_neg h2, if_pos hjl])
      | o + 4 => exact absurd hx.symm hxd)
    (fun p l p' l' b' h1 h2 => by
      rcases key _ _ _ h1 with ⟨a1, a2, k1⟩ | ⟨a1, a2, k1⟩ | ⟨a1, q1, a2, k1⟩ <;> rcases key _ _ _ h2 with ⟨b1, b2, k2⟩ | ⟨b1, b2, k2⟩ | ⟨b1, q2, b2, k2⟩
      · exact ⟨by omega, by rw [a2, b2]⟩
      · rw [k2] at k1; have := (hgown _ _ k1).1; omega
      · exfalso; rcases k2 with ⟨_, k2⟩ | ⟨_, k2⟩ | ⟨_, k2⟩ <;> (have := (hst.uniq _ _ _ _ _ k1 k2).1; omega)
      · rw [k1] at k2; have := (hgown _ _ k2).1; omega
      · exact ⟨by omega, by rw [a2, b2]⟩
      · exfalso; rw [k1] at k2; rcases k2 with ⟨_, k2⟩ | ⟨_, k2⟩ | ⟨_, k2⟩ <;> (obtain ⟨z1, z2⟩ := hgown _ _ k2; first | exact absurd z1 (by omega) | cases z2)
      · exfalso; rcases k1 with ⟨_, k1⟩ | ⟨_, k1⟩ | ⟨_, k1⟩ <;> (have := (hst.uniq _ _ _ _ _ k1 k2).1; omega)
      · exfalso; rw [k2] at k1; rcases k1 with ⟨_, k1⟩ | ⟨_, k1⟩ | ⟨_, k1⟩ <;> (obtain ⟨z1, z2⟩ := hgown _ _ k1; first | exact absurd z1 (by omega) | cases z2)
      · refine ⟨by omega, ?_⟩
        rw [a2, b2]
        congr 1
        rcases k1 with ⟨e1, k1⟩ | ⟨e1, k1⟩ | ⟨e1, k1⟩ <;> rcases k2 with ⟨e2, k2⟩ | ⟨e2, k2⟩ | ⟨e2, k2⟩ <;> (obtain ⟨z1, z2⟩ := hst.uniq _ _ _ _ _ k1 k2; first | omega | (simp only [Option.some.injEq] at z2; omega)))
    (fun p l b' h1 => by
      have fromOld : ∀ p l, Owns c.μ os p l b' → b' < w'.heap.size ∧ ¬ c.imm b' ∧ ¬ c.fix b' ∧ ¬ c.oth b' := fun p l ho => by
        obtain ⟨a1, a2⟩ := hst.lt _ _ _ ho
        exact ⟨by omega, a2⟩
      rcases key _ _ _ h1 with ⟨_, _, h1⟩ | ⟨_, _, h1⟩ | ⟨_, q1, _, h1⟩
      · exact fromOld _ _ h1
      · subst h1
        rcases hgo with h | h
        · exact fromOld _ _ (own0 _ h)
        · refine ⟨hgl, fun hh => ?_, fun hh => ?_, fun hh => ?_⟩
          · have := hst.immlt _ hh; omega
          · have := hst.fixlt _ hh; omega
          · have := hst.othlt _ hh; omega
      · rcases h1 with ⟨_, h1⟩ | ⟨_, h1⟩ | ⟨_, h1⟩ <;> exact fromOld _ _ h1)
    (fun b hb => Nat.lt_of_lt_of_le (hst.immlt b hb) hsize) hst.fixlt
  refine ⟨c', s1, rfl, rfl, fun _ h => h, fun o ho m hm => ⟨m, ?_, m.le_refl⟩, fun q hq => ?_, fun q hq hn => ?_, s2.kf, s2.ki, s2.ko, by rw [hol]; simp, ?_, rfl, fun q => ?_⟩
  · have : o ≠ 3 := by omega
    simp [c', this, hm]
  · by_cases h3 : q = 3
    · subst h3; simp
    · have := hdom q (by simpa [c', h3] using hq)
      simp at this ⊢; omega
  · have : q ≠ 3 := by omega
    simp [c', this, hn]
  · exact .hw 3 m3 (by simp [c'])
  · match q with
    | 0 => rfl
    | 1 => rfl
    | 2 => rfl
    | 3 => rfl
    | q + 4 => simp [Obj.noBr]
end Go.Gn

namespace Go.Gn
open Go Go.RowKit Go.Proofs Go.Shelf Go.Lib
set_option linter.unusedVariables false
set_option linter.unusedSimpArgs false
theorem run_clear_sliceN {P : Program} (w : World) (t e ty : TypeId) (z : Value) (ht : P.underlying t = some (.slice e)) (hv : ∀ w, (zeroValue e).run P w = .ok z w) (h1 : ∀ v ∈ z.cells.toList, v.oneCell' = true) (b o n c : Nat) (hn : 0 < n)
    (hc : ∀ j, j < (Builtin.zeroCells z.cells n).toList.length → (w.cell? ⟨b, o + j, none⟩).isSome = true) (hf : ∀ j, w.frozen? ⟨b, j, none⟩ = false) (h1' : ∀ v ∈ (Builtin.zeroCells z.cells n).toList, v.oneCell' = true) :
    (Builtin.clear_ #[t] ty #[.slice (some ⟨b, o, none⟩) n c]).run P w = .ok (.tuple #[]) (w.setCells b o (Builtin.zeroCells z.cells n).toList) := by
  have hst := run_storeCells_cells (P := P) b o (Builtin.zeroCells z.cells n).toList 0 w (by simpa using hc) (by intro j hj; exact hf _) h1'
  simp only [Nat.add_zero] at hst
  obtain ⟨m, rfl⟩ : ∃ m, n = m + 1 := ⟨n - 1, by omega⟩
  simp [Builtin.clear_, run_underlying ht, hv, hst]
set_option maxHeartbeats 4000000 in
set_option maxRecDepth 1000000 in
theorem delete_none (b n c i : Nat) (hi : i ≤ n) (hnc : n ≤ c) (w : World) :
    Calls Tryz.prog 148 #[.slice (some ⟨b, 0, none⟩) n c, .int .i64 i, .int .i64 i] w fun e w' => e = .returned (.slice (some ⟨b, 0, none⟩) n c) ∧ w' = w := by
  have mixed := X.mixed
  have t52 := Tryz.underlying52
  go_enter Tryz.func148, Tryz.ntmps148
  go_wp2
  all_goals (go_ret; exact ⟨rfl, rfl⟩)
set_option maxHeartbeats 4000000 in
set_option maxRecDepth 1000000 in
theorem delete_nil (w : World) :
    Calls Tryz.prog 148 #[.slice none 0 0, .int .i64 0, .int .i64 0] w fun e w' => e = .returned (.slice none 0 0) ∧ w' = w := by
  have mixed := X.mixed
  have t52 := Tryz.underlying52
  go_enter Tryz.func148, Tryz.ntmps148
  go_wp2
  all_goals (go_ret; exact ⟨rfl, rfl⟩)
set_option maxHeartbeats 4000000 in
set_option maxRecDepth 1000000 in
theorem delete_some (b n c i j : Nat) (cs : List Value) (w : World) (hij : i < j) (hj : j ≤ n) (hnc : n ≤ c)
    (hcl : cs.length = n * 2) (hcs : ∀ j v, cs[j]? = some v → w.cell? ⟨b, j, none⟩ = some v) (hfz : ∀ j, w.frozen? ⟨b, j, none⟩ = false) (h1c : ∀ v ∈ cs, v.oneCell' = true) :
    Calls Tryz.prog 148 #[.slice (some ⟨b, 0, none⟩) n c, .int .i64 i, .int .i64 j] w fun e w' => ∃ zs : List Value, zs.length = (j - i) * 2 ∧ e = .returned (.slice (some ⟨b, 0, none⟩) (n - (j - i)) c) ∧
      w' = (w.drew.setCells b (i * 2) (cs.drop (j * 2))).setCells b ((n - (j - i)) * 2) zs := by
  have mixed := X.mixed
  have t52 := Tryz.underlying52
  obtain ⟨i0, hi0, hz0, hzs, hzb⟩ := X.vol
  have hzv : ∀ w, (zeroValue 132).run Tryz.prog w = .ok (Value.agg #[.string ⟨#[]⟩, .slice none 0 0]) w := fun w => by simp [zeroValue, typeInfo, hi0, hz0]
  have hdl : (cs.drop (j * 2)).length = (n - j) * 2 := by rw [List.length_drop, hcl]; omega
  have hsp : ∀ k, k < n * 2 → (w.cell? ⟨b, k, none⟩).isSome = true := fun k hk => by
    rw [hcs k _ (List.getElem?_eq_getElem (by omega))]; rfl
  have hap : ∀ ty A, (n - j = 0 ∨ A = (⟨b, j * 2, none⟩ : Addr)) → (Builtin.append_ #[52, 52] ty #[.slice (some ⟨b, 0, none⟩) i c, .slice (some A) (n - j) (c - j)]).run Tryz.prog w.drew = .ok (.slice (some ⟨b, 0, none⟩) (i + (n - j)) c) (w.drew.setCells b (i * 2) (cs.drop (j * 2))) := fun ty A hA => by
    have h := run_append_room_cells (P := Tryz.prog) w.drew 52 ty 132 i0 t52 hi0 b 0 i c A (n - j) (c - j) (cs.drop (j * 2)) (by rw [hdl, hzs]) (fun k u hk => by
      rcases hA with h0 | rfl
      · have := (List.getElem?_eq_some_iff.1 hk).1; omega
      · rw [Addr.add_lit]; exact hcs (j * 2 + k) u (by rwa [List.getElem?_drop] at hk)) (fun v hv => h1c v (List.mem_of_mem_drop hv)) (by omega)
      (fun k hk => by rw [hzs, Nat.zero_add]; exact hsp _ (by omega)) (fun k hk => hfz _)
    rw [hzs, Nat.zero_add] at h
    exact h
  obtain ⟨W1, hW1⟩ : ∃ W1, W1 = w.drew.setCells b (i * 2) (cs.drop (j * 2)) := ⟨_, rfl⟩
  have hzl : (Builtin.zeroCells (Value.agg #[.string ⟨#[]⟩, .slice none 0 0]).cells (j - i)).toList.length = (j - i) * 2 := by simp [Builtin.zeroCells, Value.cells]
  have hcl2 : ∀ ty, (Builtin.clear_ #[52] ty #[.slice (some ⟨b, (i + (n - j)) * 2, none⟩) (n - (i + (n - j))) (c - (i + (n - j)))]).run Tryz.prog W1 = .ok (.tuple #[]) (W1.setCells b ((i + (n - j)) * 2) (Builtin.zeroCells (Value.agg #[.string ⟨#[]⟩, .slice none 0 0]).cells (n - (i + (n - j)))).toList) := fun ty =>
    run_clear_sliceN W1 52 132 ty _ t52 hzv (by simp [Value.cells, Value.oneCell']) b ((i + (n - j)) * 2) (n - (i + (n - j))) _ (by omega)
      (fun k hk => by
        rw [hW1]
        refine isSome_setCells b (cs.drop (j * 2)) (i * 2) w.drew (fun t ht => hsp _ (by rw [hdl] at ht; omega)) _ (hsp _ ?_)
        simp [Builtin.zeroCells, Value.cells] at hk
        omega)
      (fun k => by rw [hW1, World.frozen?_setCells]; exact hfz _) (fun v hv => by
        simp only [Builtin.zeroCells, Value.cells, Array.toList_map, List.mem_map] at hv
        obtain ⟨q, _, rfl⟩ := hv
        have : q % 2 = 0 ∨ q % 2 = 1 := by omega
        rcases this with h | h <;> simp [h, Value.oneCell'])
  have hic : i ≤ c := by omega
  have hjc : j ≤ c := by omega
  have hjn : ¬ (i : Int) = (j : Int) := by omega
  obtain ⟨A, hA, hA2⟩ : ∃ A : Addr, (if c = j then some (⟨b, 0, none⟩ : Addr) else some ⟨b, j * 2, none⟩) = some A ∧ (n - j = 0 ∨ A = (⟨b, j * 2, none⟩ : Addr)) := by
    by_cases h : c = j
    · exact ⟨⟨b, 0, none⟩, by simp [h], .inl (by omega)⟩
    · exact ⟨⟨b, j * 2, none⟩, by simp [h], .inr rfl⟩
  have s3 : ∀ t, t < (cs.drop (j * 2)).length → (w.drew.cell? ⟨b, 0 + i * 2 + t, none⟩).isSome = true ∧ w.drew.frozen? ⟨b, 0 + i * 2 + t, none⟩ = false := fun t ht => by
    rw [Nat.zero_add]; exact ⟨hsp _ (by omega), hfz _⟩
  have hsrc : ∀ t u, (cs.drop (j * 2))[t]? = some u → w.drew.cell? (A.add t) = some u := fun k u hk => by
    rcases hA2 with h0 | rfl
    · have := (List.getElem?_eq_some_iff.1 hk).1; omega
    · rw [Addr.add_lit]; exact hcs (j * 2 + k) u (by rwa [List.getElem?_drop] at hk)
  have h1d : ∀ v ∈ cs.drop (j * 2), v.oneCell' = true := fun v hv => h1c v (List.mem_of_mem_drop hv)
  have hlen : (cs.drop (j * 2)).length = (n - j) * 2 := hdl
  have hW : W1 = w.drew.setCells b (0 + i * 2) (cs.drop (j * 2)) := by rw [Nat.zero_add]; exact hW1
  have hcl3 := hcl2
  rw [hW1] at hcl3
  clear hcs hfz hsp hap hdl hcl h1c hcl2 hW
  go_enter Tryz.func148, Tryz.ntmps148
  go_wp2_with fail
  go_region_law_o (refine step_append_room rfl (.tmp 22) (.tmp 25) 52 rfl 132 i0 2 t52 hi0 hzs b 0 i c (by simp [Act.eval, Act.put]) A (n - j) (c - j) (cs.drop (j * 2)) (by simp [Act.eval, Act.put, hA]) hlen hsrc h1d (by omega) s3 ?_; rw [Nat.zero_add])
  go_wp2_with (simp only [hcl3])
  go_ret
  refine ⟨(Builtin.zeroCells #[Value.string { data := #[] }, Value.slice none 0 0] (n - (i + (n - j)))).toList, ?_, ?_, ?_⟩
  · simp [Builtin.zeroCells]; omega
  · rw [show n - (j - i) = i + (n - j) by omega]; rfl
  · rw [show n - (j - i) = i + (n - j) by omega]
end Go.Gn

namespace Go.Gn
open Go Go.RowKit Go.Proofs Go.Shelf Go.Lib
set_option linter.unusedVariables false
set_option linter.unusedSimpArgs false
structure DelR (w w' : World) (blk : Option Nat) (n c i j : Nat) (cur : Array Value) (v : Value) : Prop where
  val : v = .slice (blk.map mk0) (n - (j - i)) c
  row : ∀ b, blk = some b → ∃ arr e, w'.heap[b]? = some (.cells arr e (0, 0)) ∧ arr.size = c * 2 ∧ (∀ t, t < i * 2 → arr[t]? = cur[t]?) ∧ (∀ t, i * 2 ≤ t → t < (n - (j - i)) * 2 → arr[t]? = cur[t + (j - i) * 2]?)
  size : w'.heap.size = w.heap.size
  same : w'.os = w.os ∧ w'.tape = w.tape ∧ w'.output = w.output
  other : ∀ k, blk ≠ some k → w'.heap[k]? = w.heap[k]?
theorem delete_all {w : World} {blk : Option Nat} {n c i j : Nat} {cur : Array Value} {e : TypeId} (hij : i ≤ j) (hj : j ≤ n) (hnc : n ≤ c) (hc0 : blk = none → c = 0)
    (hcur : ∀ b : Nat, blk = some b → w.heap[b]? = some (.cells cur e (0, 0)) ∧ cur.size = c * 2) (h1c : ∀ v ∈ cur.toList.take (n * 2), v.oneCell' = true) :
    Calls Tryz.prog 148 #[.slice (blk.map mk0) n c, .int .i64 i, .int .i64 j] w fun en w' => ∃ v, en = .returned v ∧ DelR w w' blk n c i j cur v := by
  cases blk with
  | none =>
    have h0 := hc0 rfl
    have hn : n = 0 := by omega
    have hi : i = 0 := by omega
    have hj0 : j = 0 := by omega
    subst hn; subst hi; subst hj0; subst h0
    refine (delete_nil w).mono ?_
    rintro en w' ⟨rfl, rfl⟩
    exact ⟨_, rfl, rfl, fun b hb => (by cases hb), rfl, ⟨rfl, rfl, rfl⟩, fun _ _ => rfl⟩
  | some b =>
    obtain ⟨hb, hbs⟩ := hcur b rfl
    show Calls Tryz.prog 148 #[.slice (some ⟨b, 0, none⟩) n c, .int .i64 i, .int .i64 j] w _
    by_cases he : i = j
    · subst he
      refine (delete_none b n c i (by omega) hnc w).mono ?_
      rintro en w' ⟨rfl, rfl⟩
      exact ⟨_, rfl, by simp [mk0], fun b' hb' => (by cases hb'; exact ⟨cur, e, hb, hbs, fun _ _ => rfl, fun t _ _ => by simp⟩), rfl, ⟨rfl, rfl, rfl⟩, fun _ _ => rfl⟩
    · have hcl : (cur.toList.take (n * 2)).length = n * 2 := by simp; omega
      refine (delete_some b n c i j (cur.toList.take (n * 2)) w (by omega) hj hnc hcl (fun t v ht => by
        rw [List.getElem?_take] at ht
        split at ht
        · have : cur[t]? = some v := by simpa using ht
          simp [World.cell?, hb, this]
        · cases ht) (fun t => by simp [World.frozen?, hb]) h1c).mono ?_
      rintro en w' ⟨zs, hzl, rfl, rfl⟩
      have hdl : ((cur.toList.take (n * 2)).drop (j * 2)).length = (n - j) * 2 := by rw [List.length_drop, hcl]; omega
      obtain ⟨cur1, g1, g2, g3⟩ := heap_setCells b ((cur.toList.take (n * 2)).drop (j * 2)) (i * 2) w.drew cur hb (by omega)
      obtain ⟨cur2, f1, f2, f3⟩ := heap_setCells b zs ((n - (j - i)) * 2) _ cur1 g1 (by omega)
      refine ⟨_, rfl, rfl, fun b' hb' => by
        cases hb'
        refine ⟨cur2, e, f1, by rw [f2, g2, hbs], fun t ht => ?_, fun t ht ht2 => ?_⟩
        · rw [f3, if_neg (by omega), g3, if_neg (by omega)]
        · rw [f3, if_neg (by omega), g3, if_pos (by omega), List.getElem?_drop, List.getElem?_take, if_pos (by omega), show j * 2 + (t - i * 2) = t + (j - i) * 2 by omega]
          simp, ?_, ⟨?_, ?_, ?_⟩, fun k hk => ?_⟩
      · rw [size_setCells', size_setCells', drew_heap]
      · rw [os_setCells', os_setCells']; rfl
      · rw [tape_setCells, tape_setCells]; rfl
      · rw [output_setCells', output_setCells']; rfl
      · rw [other_setCells b (fun e => hk (by rw [e])), other_setCells b (fun e => hk (by rw [e]))]; rfl
theorem good_delete : Good Tryz.prog (fun _ => deleteX 2) 148 false := by
  unfold Good
  rw [if_neg (by simp)]
  intro args os r os' h c w vals hst hdom hvals
  simp only [deleteX] at h
  split at h
  rotate_left
  · cases h
  rename_i i j s' k c0 xs
  split at h
  rotate_left
  · cases h
  rename_i hc
  obtain ⟨rfl, hi0, hij, hjl, hk⟩ := hc
  cases h
  obtain ⟨i, rfl⟩ : ∃ i' : Nat, i = (i' : Int) := ⟨i.toNat, by omega⟩
  obtain ⟨j, rfl⟩ : ∃ j' : Nat, j = (j' : Int) := ⟨j.toNat, by omega⟩
  have hij : i ≤ j := by omega
  have hjl : j ≤ xs.length := by omega
  rw [Int.toNat_natCast, Int.toNat_natCast]
  cases hvals with
  | cons _ v0 _ vs hv0 hvs =>
  cases hvs with
  | cons _ v1 _ vs hv1 hvs =>
  cases hvs with
  | cons _ v2 _ vs hv2 hvs =>
  cases hvs
  cases hv1
  cases hv2
  obtain ⟨m0, hm0, rfl⟩ : ∃ m0, c.μ 0 = some m0 ∧ v0 = .slice (m0.blk.map mk0) m0.len m0.cap := by
    cases hv0 with | hw _ m hm => exact ⟨m, hm, rfl⟩
  have hrow : RepRow c.imm w m0 2 k c0 xs := by
    obtain ⟨m, hm, hr⟩ := hst.obj 0 _ rfl (by simp)
    rw [hm0] at hm; cases hm; exact hr
  obtain ⟨r1, r2, r3, r4, r5, r6, r7⟩ := hrow
  have own0 : ∀ b, m0.blk = some b → Owns c.μ [.row 2 k c0 xs] 0 none b := fun b hb => ⟨m0, hm0, hb⟩
  have own0n : ∀ p b, p < k → m0.nest p = some b → Owns c.μ [.row 2 k c0 xs] 0 (some p) b := fun p b hp hb => ⟨m0, hm0, hp, hb⟩
  have hcur : ∃ (cur : Array Value) (e : TypeId), ∀ b, m0.blk = some b → w.heap[b]? = some (.cells cur e (0, 0)) ∧ cur.size = m0.cap * 2 ∧
      ∀ (j : Nat) (el : List D) (i : Nat) (d : D), xs[j]? = some el → el[i]? = some d → ∃ v, cur[j * 2 + i]? = some v ∧ (if j < k ∧ i = c0 then RepN c.imm w m0 j d v else RepD c.imm w d v) := by
    cases hb : m0.blk with
    | none => exact ⟨#[], 0, fun b h => by cases h⟩
    | some b =>
      obtain ⟨vs, e, h1, h2, h3⟩ := r7 b hb
      exact ⟨vs, e, fun b' hb' => by cases hb'; exact ⟨h1, h2, h3⟩⟩
  obtain ⟨cur, e, hcur⟩ := hcur
  have hnone : m0.blk = none → xs = [] := fun h => List.eq_nil_of_length_eq_zero (by have := r5 h; omega)
  have hone : ∀ v ∈ cur.toList.take (xs.length * 2), v.oneCell' = true := fun v hv => by
    obtain ⟨q, hq⟩ := List.getElem?_of_mem hv
    rw [List.getElem?_take] at hq
    split at hq
    rotate_left
    · cases hq
    rename_i hql
    have hq : cur[q]? = some v := by simpa using hq
    cases hb : m0.blk with
    | none => rw [hnone hb] at hql; simp at hql
    | some b =>
      obtain ⟨h1, h2, h3⟩ := hcur b hb
      have hjl : q / 2 < xs.length := by omega
      obtain ⟨el, hel⟩ : ∃ el, xs[q / 2]? = some el := ⟨_, List.getElem?_eq_getElem hjl⟩
      have hell := r6 el (List.mem_of_getElem? hel)
      obtain ⟨d, hd⟩ : ∃ d, el[q % 2]? = some d := ⟨_, List.getElem?_eq_getElem (by omega)⟩
      obtain ⟨v', hv', hr⟩ := h3 _ _ _ _ hel hd
      rw [show q / 2 * 2 + q % 2 = q by omega, hq] at hv'
      cases hv'
      split at hr
      · obtain ⟨ys', _, hr | hr⟩ := hr
        · obtain ⟨_, _, A, cap, rfl⟩ := hr; rfl
        · obtain ⟨_, _, _, _, _, rfl, _⟩ := hr; rfl
      · exact hr.one
  rw [r2]
  refine (delete_all (cur := cur) hij hjl (by omega) r5 (fun b hb => ⟨(hcur b hb).1, (hcur b hb).2.1⟩) hone).mono ?_
  rintro en w' ⟨v, rfl, hval, hrw, hsize, hsame, hother⟩
  generalize hos : [Obj.row 2 k c0 xs] = os at hst own0 own0n
  have hol : os.length = 1 := by rw [← hos]; rfl
  have hkeep : ∀ p l b', Owns c.μ os p l b' → ¬ (p = 0 ∧ l = none) → w'.heap[b']? = w.heap[b']? := fun p l b' ho hn =>
    hother b' (fun e => hn (hst.uniq _ _ _ _ _ ho (own0 b' e)))
  let ix : Nat → Nat := fun p => if p < i then p else p + (j - i)
  let m1 : Meta := ⟨m0.blk, 2, xs.length - (j - i), m0.cap, fun p => if p < k - (j - i) then m0.nest (ix p) else none⟩
  let c' : Cx := { c with μ := fun p => if p = 1 then some m1 else c.μ p }
  have hkx : ∀ q, q < k - (j - i) → ix q < k ∧ ix q < xs.length := fun q hq => by simp only [ix]; split <;> omega
  have ixinj : ∀ p q, ix p = ix q → p = q := fun p q h => by simp only [ix] at h; split at h <;> split at h <;> omega
  have key : ∀ p l b', Owns c'.μ [.dead, .row 2 (k - (j - i)) c0 (xs.take i ++ xs.drop j)] p l b' → (p = 1 ∧ l = none ∧ Owns c.μ os 0 none b') ∨ (p = 1 ∧ ∃ q, l = some q ∧ Owns c.μ os 0 (some (ix q)) b') := by
    rintro p l b' ⟨m, hm, ho⟩
    match p with
    | 0 => cases l <;> exact ho.elim
    | 1 =>
      have hm : some m1 = some m := hm
      cases hm
      cases l with
      | none => exact .inl ⟨rfl, rfl, own0 b' ho⟩
      | some q =>
        obtain ⟨hq, hn⟩ : q < k - (j - i) ∧ m1.nest q = some b' := ho
        simp only [m1] at hn
        rw [if_pos hq] at hn
        exact .inr ⟨rfl, q, rfl, own0n _ b' (hkx q hq).1 hn⟩
    | p + 2 => cases l <;> exact ho.elim
  have hlen : (xs.take i ++ xs.drop j).length = xs.length - (j - i) := by simp; omega
  obtain ⟨s1, s2⟩ := hst.step (c' := c') (os' := [.dead, .row 2 (k - (j - i)) c0 (xs.take i ++ xs.drop j)]) (w' := w') (fun b' => m0.blk = some b') ⟨rfl, rfl⟩ (fun _ h => h) (fun _ h => .inl h)
    (fun o m hm => by
      by_cases h3 : o = 1
      · subst h3; exact absurd (hdom 1 (by rw [hm]; simp)) (by simp)
      · exact ⟨m, by simp [c', h3, hm], m.le_refl⟩) (by omega) hsame (fun b' hb' hn => hother b' hn) (fun b' h => ⟨0, none, own0 b' h⟩)
    (fun ext o x hx hxd => by
      match o with
      | 0 => exact absurd hx.symm hxd
      | 1 =>
        left
        have hx : Obj.row 2 (k - (j - i)) c0 (xs.take i ++ xs.drop j) = x := hx
        subst hx
        refine ⟨m1, by simp [c'], ?_⟩
        refine ⟨rfl, hlen.symm, by simp only [m1]; omega, ⟨by omega, fun _ p hp => ?_⟩, r5, fun el hel => ?_, fun b hb => ?_⟩
        · simp only [m1]; rw [if_neg (by omega)]
        · rcases List.mem_append.1 hel with hel | hel
          · exact r6 el (List.mem_of_mem_take hel)
          · exact r6 el (List.mem_of_mem_drop hel)
        · have hb : m0.blk = some b := hb
          obtain ⟨arr, e', g1, g2, g3, g4⟩ := hrw b hb
          refine ⟨arr, e', g1, g2, fun p el t d hp ht => ?_⟩
          have hpl : p < xs.length - (j - i) := by rw [← hlen]; exact (List.getElem?_eq_some_iff.1 hp).1
          have hti : (xs.take i).length = i := by simp; omega
          have hx0 : xs[ix p]? = some el := by
            simp only [ix]
            by_cases h1 : p < i
            · rw [List.getElem?_append_left (by omega), List.getElem?_take, if_pos h1] at hp
              rw [if_pos h1]; exact hp
            · rw [List.getElem?_append_right (by omega), List.getElem?_drop, hti] at hp
              rw [if_neg h1, ← hp]; congr 1; omega
          have ht2 : t < 2 := by rw [← r6 el (List.mem_of_getElem? hx0)]; exact (List.getElem?_eq_some_iff.1 ht).1
          obtain ⟨v, hv, hr⟩ := (hcur b hb).2.2 _ el t d hx0 ht
          refine ⟨v, ?_, ?_⟩
          · rw [← hv]
            simp only [ix]
            by_cases h1 : p < i
            · rw [if_pos h1, g3 _ (by omega)]
            · rw [if_neg h1, g4 _ (by omega) (by omega)]; congr 1; rw [Nat.add_mul]; omega
          · by_cases hpk : p < k - (j - i)
            · by_cases htc : t = c0
              · rw [if_pos ⟨(hkx p hpk).1, htc⟩] at hr
                rw [if_pos ⟨hpk, htc⟩]
                exact (hr.mono ext.ki (fun _ h => h) (fun b' hb' => hkeep 0 _ b' (own0n _ b' (hkx p hpk).1 hb') (fun h => by cases h.2))).at (by simp only [m1]; rw [if_pos hpk])
              · rw [if_neg (fun h => htc h.2)] at hr
                rw [if_neg (fun h => htc h.2)]
                exact hr.mono ext.ki (fun _ h => h)
            · have hk0 : k = 0 := by omega
              rw [if_neg (by omega)] at hr
              rw [if_neg (fun h => hpk h.1)]
              exact hr.mono ext.ki (fun _ h => h)
      | o + 2 => exact absurd hx.symm hxd)
    (fun p l p' l' b' h1 h2 => by
      rcases key _ _ _ h1 with ⟨a1, a2, k1⟩ | ⟨a1, q1, a2, k1⟩ <;> rcases key _ _ _ h2 with ⟨b1, b2, k2⟩ | ⟨b1, q2, b2, k2⟩
      · exact ⟨by omega, by rw [a2, b2]⟩
      · have := (hst.uniq _ _ _ _ _ k1 k2).2; cases this
      · have := (hst.uniq _ _ _ _ _ k1 k2).2; cases this
      · refine ⟨by omega, ?_⟩
        have := (hst.uniq _ _ _ _ _ k1 k2).2
        simp only [Option.some.injEq] at this
        rw [a2, b2, ixinj _ _ this])
    (fun p l b' h1 => by
      have fromOld : ∀ p l, Owns c.μ os p l b' → b' < w'.heap.size ∧ ¬ c.imm b' ∧ ¬ c.fix b' ∧ ¬ c.oth b' := fun p l ho => by
        obtain ⟨a1, a2⟩ := hst.lt _ _ _ ho
        exact ⟨by omega, a2⟩
      rcases key _ _ _ h1 with ⟨_, _, h1⟩ | ⟨_, q1, _, h1⟩ <;> exact fromOld _ _ h1)
    (fun b hb => Nat.lt_of_lt_of_le (hst.immlt b hb) (by omega)) hst.fixlt
  refine ⟨c', s1, rfl, rfl, fun _ h => h, fun o ho m hm => ⟨m, ?_, m.le_refl⟩, fun q hq => ?_, fun q hq hn => ?_, s2.kf, s2.ki, s2.ko, by rw [hol]; simp, ?_, rfl, fun q => ?_⟩
  · have : o ≠ 1 := by omega
    simp [c', this, hm]
  · by_cases h3 : q = 1
    · subst h3; simp
    · have := hdom q (by simpa [c', h3] using hq)
      simp at this ⊢; omega
  · have : q ≠ 1 := by omega
    simp [c', this, hn]
  · rw [hval]; exact .hw 1 m1 (by simp [c'])
  · match q with
    | 0 => rfl
    | 1 => rfl
    | q + 2 => simp [Obj.noBr]
end Go.Gn

namespace Go.Gn
open Go Go.RowKit Go.Proofs
set_option linter.unusedVariables false
theorem ext_ok {f : Nat} {cf : CF} {fn : Func} {g : List AV → List Obj → Option (AV × List Obj)} (he : cf.ext = some g) (h1 : Tryz.prog.funcs[f]? = some fn) (h2 : fn.name ≠ "runtime.NumGoroutine") (h3 : fn.body ≠ none) (hg : Good Tryz.prog (fun _ => g) f false) : RowOK Tryz.prog f cf := by
  unfold RowOK
  rw [he]
  exact ⟨⟨fn, h1, h2, h3⟩, fun _ => hg⟩
theorem ok99 : RowOK Tryz.prog 99 cf99 := ext_ok rfl Tryz.func99 (of_decide_eq_true (by kernel_rfl)) (by simp [Tryz.f99]) (good_clone (by decide) clone99_some clone99_nil)
theorem ok146 : RowOK Tryz.prog 146 cf146 := ext_ok rfl Tryz.func146 (of_decide_eq_true (by kernel_rfl)) (by simp [Tryz.f146]) (good_clone (by decide) clone146_some clone146_nil)
theorem ok182 : RowOK Tryz.prog 182 cf182 := ext_ok rfl Tryz.func182 (of_decide_eq_true (by kernel_rfl)) (by simp [Tryz.f182]) (good_clone (by decide) clone182_some clone182_nil)
theorem ok183 : RowOK Tryz.prog 183 cf183 := ext_ok rfl Tryz.func183 (of_decide_eq_true (by kernel_rfl)) (by simp [Tryz.f183]) (good_clone (by decide) clone183_some clone183_nil)
theorem ok148 : RowOK Tryz.prog 148 cf148 := ext_ok rfl Tryz.func148 (of_decide_eq_true (by kernel_rfl)) (by simp [Tryz.f148]) good_delete
theorem ok177 : RowOK Tryz.prog 177 cf177 := ext_ok rfl Tryz.func177 (of_decide_eq_true (by kernel_rfl)) (by simp [Tryz.f177]) good_insert
theorem ok176 : RowOK Tryz.prog 176 cf176 := ext_ok rfl Tryz.func176 (of_decide_eq_true (by kernel_rfl)) (by simp [Tryz.f176]) good_compare
theorem all_ok : ∀ f cf, G f = some cf → RowOK Tryz.prog f cf := fun f cf h => tab_ok ok99 ok146 ok148 ok176 ok177 ok182 ok183 _ (look_mem h)
theorem said {W : CallF} {L : LoopF} {E : EqF} {T : Prop → Bool} (h : IsK G W L E T) {f : Nat} {cf : CF} (hG : G f = some cf) (hi : cf.inl = false) {args : List AV} {r : AV} {os' : List Obj} (he : W f args [] = some (r, os'))
    {w : World} {vals : List Value} (hv : RepAVs ⟨fun b => b < w.heap.size, fun _ => False, fun _ => False, fun _ => none⟩ w args vals) :
    Calls Tryz.prog f vals.toArray w fun e w' => ∃ v c', e = .returned v ∧ RepAV c' w' r v ∧ Below w.heap.size w w' := by
  obtain ⟨n, hn⟩ := h.w.sound _ _ _ _ he
  have hg := (tbl_sound all_ok n f cf hG).2
  rw [hi] at hg
  unfold Good at hg
  rw [if_neg (by simp)] at hg
  have hst : Store w ⟨fun b => b < w.heap.size, fun _ => False, fun _ => False, fun _ => none⟩ [] w :=
    ⟨fun o x hx hne => absurd (by simpa using hx.symm) hne, fun o l o' l' b ⟨m, hm, _⟩ => (by cases hm), fun o l b ⟨m, hm, _⟩ => (by cases hm), fun b hb => hb.elim, fun b hb => hb, fun b hb => hb.elim, fun b hb => hb.elim, Keep.refl _ _, Nat.le_refl _, rfl, rfl, rfl⟩
  refine (hg args [] r os' hn _ w vals hst (fun q hq => absurd rfl hq) hv).mono ?_
  intro e w' hq
  cases e with
  | returned v =>
    obtain ⟨c', ha⟩ := hq
    have hs := ha.st.same
    exact ⟨v, c', rfl, ha.val, ⟨hs.1, hs.2.1, hs.2.2, ha.st.grow, fun k hk => ha.kf k hk⟩⟩
  | _ => exact hq.elim
end Go.Gn

namespace Go.Gn
open Go Go.RowKit Go.Proofs Go.Deep
set_option linter.unusedVariables false
def logDD (g : LogM) : List D := [.sl (g.base.slots.map slotD), .sl (g.base.vols.map volD), .sl (g.ops.map opD), .int .i64 g.safe]
theorem rd_log : RdT 49 logDD LogSm := fun {_ _ _ _ _ _ _ _} h => by
  obtain ⟨hl, hf⟩ := rd_field Tryz.underlying49 h
  obtain ⟨p, h1, q1, q2⟩ := hf 0 _ rfl rd_pool
  obtain ⟨o, h2, q3⟩ := hf 1 _ rfl rd_ops
  obtain ⟨s, h3, _⟩ := hf 2 _ rfl (rd_int Tryz.underlying3)
  refine ⟨⟨p, o, s⟩, hl.trans (by kernel_rfl), Rd.app (d1 := poolDD p) h1 (Rd.app (d1 := slD opD o) h2 h3), ⟨⟨q1.1, q1.2, q2.1, fun v hv => ⟨(q2.2 v hv).1, (q2.2 v hv).2⟩⟩, q3.1, fun x hx => ⟨(q3.2 x hx).1, (q3.2 x hx).2.1, (q3.2 x hx).2.2⟩⟩⟩
abbrev c0 (w : World) : Cx := ⟨fun b => b < w.heap.size, fun _ => False, fun _ => False, fun _ => none⟩
theorem rep_int {w : World} {k : IntKind} {n : Int} {u : Value} (h : RepD (SW w) w (.int k n) u) : RepAV (c0 w) w (.int k n) u := by cases h; exact .int k n
theorem rep_str {w : World} {s : Str} {u : Value} (h : RepD (SW w) w (.str s) u) : RepAV (c0 w) w (.str s) u := by cases h; exact .str s
theorem rep_sl {w : World} {xs : List (List D)} {u : Value} (h : RepD (SW w) w (.sl xs) u) : RepAV (c0 w) w (.sl .br xs) u := .sl .br xs u h
theorem rep_agg {w : World} {cs : Array Value} {ds : List D} {avs : List AV} (h : Rd w ds cs.toList 0) (hl : cs.toList.length = ds.length) (hl2 : avs.length = ds.length)
    (hav : ∀ (i : Nat) (d : D), ds[i]? = some d → ∀ u, RepD (SW w) w d u → ∃ a, avs[i]? = some a ∧ RepAV (c0 w) w a u) : RepAV (c0 w) w (.agg avs) (.agg cs) := by
  have := RepAV.agg avs cs.toList (avs_of (c := c0 w) rfl h hl hl2 hav)
  simpa using this
theorem rep_log {w : World} {cs : Array Value} {g : LogM} (h : Rd w (logDD g) cs.toList 0) (hl : cs.toList.length = (logDD g).length) : RepAV (c0 w) w (logA g) (.agg cs) := by
  refine rep_agg h hl rfl fun i d hi u hu => ?_
  match i with
  | 0 => cases hi; exact ⟨_, rfl, rep_sl hu⟩
  | 1 => cases hi; exact ⟨_, rfl, rep_sl hu⟩
  | 2 => cases hi; exact ⟨_, rfl, rep_sl hu⟩
  | 3 => cases hi; exact ⟨_, rfl, rep_int hu⟩
  | i + 4 => cases hi
theorem rep_op {w : World} {cs : Array Value} {o : OpM} (h : Rd w (opD o) cs.toList 0) (hl : cs.toList.length = (opD o).length) : RepAV (c0 w) w (.agg (opC o)) (.agg cs) := by
  refine rep_agg h hl rfl fun i d hi u hu => ?_
  match i with
  | 0 => cases hi; exact ⟨_, rfl, rep_int hu⟩
  | 1 => cases hi; exact ⟨_, rfl, rep_str hu⟩
  | 2 => cases hi; exact ⟨_, rfl, rep_str hu⟩
  | 3 => cases hi; exact ⟨_, rfl, rep_int hu⟩
  | 4 => cases hi; exact ⟨_, rfl, rep_str hu⟩
  | i + 5 => cases hi
theorem rep_true {c : Cx} {w : World} {v : Value} (h : RepAV c w (.bool true) v) : v = .bool true := by cases h; rfl
end Go.Gn

