/- Part 33 of a proof: an evaluator of the program, proved sound, and what it answers. -/
import Derived.Test.YtkgpnfeabojhcaaGreatA1
import Derived.Test.YtkgpnfeabojhcaaGreatA6
import Derived.Test.YtkgpnfeabojhcaaGreatA8
import Derived.Test.YtkgpnfeabojhcaaGreatA9
import Derived.Test.YtkgpnfeabojhcaaGreatRows
import Derived.ProofKit
import Derived.Deep.Slices
import Derived.WalkKit
import Derived.WalkSpells
import Derived.WalkLawsBesides
import Derived.Lib.SliceRun
import Derived.Shelf.RegionOpenPlain
import Derived.JoinedOf
import Derived.KernelRfl
import Derived.Lib.Bytealg
import Derived.Shelf.Abstract
import Derived.Shelf.Spec.SlicesInsert
import Derived.Lib.AppendZerosOnto
import Derived.Laws.NewBlocks
import Derived.Deep.RegionLaw
set_option linter.all false
namespace Go.Gn
open Go Go.RowKit Go.Proofs Go.Deep
abbrev SW (w : World) : Nat → Prop := fun b => b < w.heap.size
def Rd (w : World) (ds : List D) (cs : List Value) (o : Nat) : Prop := ∀ (i : Nat) (d : D), ds[i]? = some d → ∃ u, cs[o + i]? = some u ∧ RepD (SW w) w d u
theorem Rd.app {w : World} {d1 d2 : List D} {cs : List Value} {o : Nat} (h1 : Rd w d1 cs o) (h2 : Rd w d2 cs (o + d1.length)) : Rd w (d1 ++ d2) cs o := fun i d hi => by
 by_cases h : i < d1.length
 ·rw [List.getElem?_append_left h] at hi; exact h1 i d hi
 ·rw [List.getElem?_append_right (by omega)] at hi
  obtain ⟨u, hu, hr⟩ := h2 _ d hi
  exact ⟨u, by rw [← hu]; congr 1; omega, hr⟩
theorem Rd.sub {w : World} {ds : List D} {cs : List Value} {o n : Nat} (h : Rd w ds ((cs.drop o).take n) 0) : Rd w ds cs o := fun i d hi => by
 obtain ⟨u, hu, hr⟩ := h i d hi
 rw [Nat.zero_add, List.getElem?_take] at hu
 split at hu
 ·rw [List.getElem?_drop] at hu; exact ⟨u, hu, hr⟩
 ·cases hu
def RdT (t : TypeId) {α : Type} (f : α → List D) (Q : α → Prop) : Prop := ∀ {H : Type} {enc : TypeId × Value → H} {w : World} {sp : Nat → Bool} {held : Bool} {n : Nat} {cs : List Value} {y : DataW H × List MemPlace},
 DataW.trod enc Tryz.prog w 0 sp held n t cs = some y → ∃ x : α, cs.length = (f x).length ∧ Rd w (f x) cs 0 ∧ Q x
def slD {α : Type} (f : α → List D) (xs : List α) : List D := [.sl (xs.map f)]
theorem rd_slice {t e : TypeId} {α : Type} {f : α → List D} {Q : α → Prop} {sz : Nat} (ht : Tryz.prog.underlying t = some (.slice e)) (hc : Tryz.prog.cellsOf e = sz) (hs : 0 < sz) (he : RdT e f Q) : RdT t (slD f) (fun xs => xs.length < 9223372036854775808 ∧ ∀ x ∈ xs, Q x) := fun {H enc w sp held n cs y} h => by
 rcases open_slice ht h with ⟨rfl, _⟩ | ⟨a, len, cap, m, n', D', Pl, rfl, _, hl, hm, hmm, _, hx⟩
 ·refine ⟨[], rfl, fun i d hi => ?_, by simp, fun x hx => by simp at hx⟩
  match i with
  | 0 => cases hi; exact ⟨_, rfl, .nil _ _⟩
  | i + 1 => cases hi
 ·have hlm : len ≤ m := by rw [hmm]; split <;> omega
  have hel : ∀ i, i < len → ∃ x : α, ∃ cs', w.cells? 0 (a.add (i * sz)) sz = some cs' ∧ cs'.length = (f x).length ∧ Rd w (f x) cs' 0 ∧ Q x := fun i hi => by
   obtain ⟨cs', h1, h2⟩ := hx i (by omega)
   obtain ⟨x, h3, h4, h5⟩ := he h2
   rw [hc] at h1
   exact ⟨x, cs', h1, h3, h4, h5⟩
  obtain ⟨X, hX⟩ : ∃ X : List α, X.length = len ∧ ∀ (i : Nat) (x : α), X[i]? = some x → ∃ cs', w.cells? 0 (a.add (i * sz)) sz = some cs' ∧ cs'.length = (f x).length ∧ Rd w (f x) cs' 0 ∧ Q x := by
   rename_i hyy
   clear hx hmm hl hlm hyy h
   induction len with
   | zero => exact ⟨[], rfl, fun i x hi => by simp at hi⟩
   | succ len ih =>
    obtain ⟨X, h1, h2⟩ := ih (fun i hi => hel i (by omega))
    obtain ⟨x, hx⟩ := hel len (by omega)
    refine ⟨X ++ [x], by simp [h1], fun i x' hi => ?_⟩
    by_cases h : i < X.length
    ·rw [List.getElem?_append_left h] at hi; exact h2 i x' hi
    ·rw [List.getElem?_append_right (by omega)] at hi
     have : i = len := by
      have := (List.getElem?_eq_some_iff.mp hi).1
      simp at this; omega
     subst this
     rw [← h1, Nat.sub_self] at hi
     cases hi
     exact hx
  obtain ⟨hXl, hX⟩ := hX
  refine ⟨X, rfl, fun i d hi => ?_, by rw [hXl]; unfold maxLen at hm; omega, fun x hx => ?_⟩
  ·match i with
   | i + 1 => cases hi
   | 0 =>
    cases hi
    refine ⟨_, rfl, ?_⟩
    cases hXe : X with
    | nil =>
     rw [hXe] at hXl
     rw [← hXl]
     exact .nil _ _
    | cons x0 X0 =>
     have h0 := hX 0 x0 (by rw [hXe]; rfl)
     obtain ⟨cs0, g1, g2, g3, _⟩ := h0
     have hsp : a.spot = none := by
      obtain ⟨_, hl0, hget⟩ := World.cells?_some g1
      have := hget 0 hs
      rw [List.getElem?_eq_getElem (by omega)] at this
      simp only [World.cell?] at this
      split at this
      ·cases hq : a.spot with
       | none => rfl
       | some q =>
        exfalso
        revert this
        simp only [Addr.add]
        repeat' split
        all_goals simp_all
      ·cases this
     obtain ⟨b, off, sp0⟩ := a
     have hsp : sp0 = none := hsp
     subst hsp
     have hcell : ∀ j x, X[j]? = some x → (f x).length = sz ∧ ∀ i d, (f x)[i]? = some d → ∃ u, cellAt w b (off + j * sz + i) = some u ∧ RepD (SW w) w d u := fun j x hj => by
      obtain ⟨cs', q1, q2, q3, _⟩ := hX j x hj
      obtain ⟨_, hl', hget⟩ := World.cells?_some q1
      refine ⟨by omega, fun i d hd => ?_⟩
      obtain ⟨u, hu, hr⟩ := q3 i d hd
      rw [Nat.zero_add] at hu
      have hil := (List.getElem?_eq_some_iff.mp hu).1
      have := hget i (by omega)
      rw [Addr.add_lit, Addr.add_lit, hu] at this
      exact ⟨u, this, hr⟩
     have hbl : b < w.heap.size := by
      obtain ⟨hl1, hc1⟩ := hcell 0 x0 (by rw [hXe]; rfl)
      obtain ⟨u, hu, _⟩ := hc1 0 _ (List.getElem?_eq_getElem (by omega))
      simp only [cellAt, World.cell?] at hu
      split at hu
      ·rename_i hh
       exact (Array.getElem?_eq_some_iff.1 hh).1
      ·cases hu
     have hmapl : (X.map f).length = len := by simp [hXl]
     rw [← hXe, ← hmapl]
     refine .sl (X.map f) b off sz cap (fun j i => (cellAt w b (off + j * sz + i)).getD undef) (by rw [hXe]; simp) hbl (by rw [hmapl]; exact hl) (fun j el hj => ?_) (fun j el i d hj hi => ?_)
     ·rw [List.getElem?_map, Option.map_eq_some_iff] at hj
      obtain ⟨x, hx, rfl⟩ := hj
      obtain ⟨h1, h2⟩ := hcell j x hx
      refine ⟨h1, fun i d hd => ?_⟩
      obtain ⟨u, hu, _⟩ := h2 i d hd
      rw [hu]; rfl
     ·rw [List.getElem?_map, Option.map_eq_some_iff] at hj
      obtain ⟨x, hx, rfl⟩ := hj
      obtain ⟨h1, h2⟩ := hcell j x hx
      obtain ⟨u, hu, hr⟩ := h2 i d hi
      rw [hu]; exact hr
  ·obtain ⟨i, hi⟩ := List.getElem?_of_mem hx
   obtain ⟨_, _, _, _, hq⟩ := hX i x hi
   exact hq
end Go.Gn

namespace Go.Gn
open Go Go.Proofs
set_option maxRecDepth 100000
set_option maxHeartbeats 4000000
theorem look_mem : ∀ {l : List (Nat × CF)} {f : Nat} {c : CF}, look l f = some c → (f, c) ∈ l
 | [], f, c, h => by cases h
 | (k, d) :: l, f, c, h => by
  simp only [look] at h
  split at h
  ·rename_i hb
   cases h
   rw [Nat.eq_of_beq_eq_true hb]
   exact List.mem_cons_self
  ·exact List.mem_cons_of_mem _ (look_mem h)
theorem okF {P : Program} {f : Nat} {cf : CF} (fn : Func) (hc : cC P (bodyOf fn) = some cf.body) (h1 : P.funcs[f]? = some fn := by kernel_rfl) (h2 : decide (fn.name ≠ "runtime.NumGoroutine") = true := by kernel_rfl) (h3 : fn.body = some (bodyOf fn) := by kernel_rfl)
  (h5 : fn.ntmps = cf.nt := by kernel_rfl) (h6 : cRes P fn.results.toList = some cf.res := by kernel_rfl) (h7 : regOk cf.nt cf.body = true := by kernel_rfl) (h8 : P.follows .mixedOrders = true := by kernel_rfl) : FnOK P f cf :=
 ⟨fn, bodyOf fn, h1, of_decide_eq_true h2, h3, hc, h5, h6, h7, h8⟩
theorem ok4 : FnOK Tryz.prog 4 cf4 := okF Tryz.f4 c4_ok
theorem ok5 : FnOK Tryz.prog 5 cf5 := okF Tryz.f5 c5_ok
theorem ok8 : FnOK Tryz.prog 8 cf8 := okF Tryz.f8 c8_ok
theorem ok9 : FnOK Tryz.prog 9 cf9 := okF Tryz.f9 x9.ok
theorem ok13 : FnOK Tryz.prog 13 cf13 := okF Tryz.f13 x13.ok
theorem ok15 : FnOK Tryz.prog 15 cf15 := okF Tryz.f15 c15_ok
theorem ok16 : FnOK Tryz.prog 16 cf16 := okF Tryz.f16 c16_ok
theorem ok17 : FnOK Tryz.prog 17 cf17 := okF Tryz.f17 c17_ok
theorem ok18 : FnOK Tryz.prog 18 cf18 := okF Tryz.f18 x18.ok
theorem ok19 : FnOK Tryz.prog 19 cf19 := okF Tryz.f19 x19.ok
theorem ok20 : FnOK Tryz.prog 20 cf20 := okF Tryz.f20 x20.ok
theorem ok21 : FnOK Tryz.prog 21 cf21 := okF Tryz.f21 x21.ok
theorem ok33 : FnOK Tryz.prog 33 cf33 := okF Tryz.f33 c33_ok
theorem ok34 : FnOK Tryz.prog 34 cf34 := okF Tryz.f34 c34_ok
theorem ok35 : FnOK Tryz.prog 35 cf35 := okF Tryz.f35 c35_ok
theorem ok36 : FnOK Tryz.prog 36 cf36 := okF Tryz.f36 c36_ok
theorem ok37 : FnOK Tryz.prog 37 cf37 := okF Tryz.f37 c37_ok
theorem ok38 : FnOK Tryz.prog 38 cf38 := okF Tryz.f38 x38.ok
theorem ok39 : FnOK Tryz.prog 39 cf39 := okF Tryz.f39 x39.ok
theorem ok43 : FnOK Tryz.prog 43 cf43 := okF Tryz.f43 x43.ok
theorem ok45 : FnOK Tryz.prog 45 cf45 := okF Tryz.f45 x45.ok
theorem ok48 : FnOK Tryz.prog 48 cf48 := okF Tryz.f48 x48.ok
theorem ok49 : FnOK Tryz.prog 49 cf49 := okF Tryz.f49 x49.ok
theorem ok50 : FnOK Tryz.prog 50 cf50 := okF Tryz.f50 x50.ok
theorem ok51 : FnOK Tryz.prog 51 cf51 := okF Tryz.f51 c51_ok
theorem ok55 : FnOK Tryz.prog 55 cf55 := okF Tryz.f55 x55.ok
theorem ok58 : FnOK Tryz.prog 58 cf58 := okF Tryz.f58 x58.ok
theorem ok59 : FnOK Tryz.prog 59 cf59 := okF Tryz.f59 c59_ok
theorem ok60 : FnOK Tryz.prog 60 cf60 := okF Tryz.f60 x60.ok
theorem ok72 : FnOK Tryz.prog 72 cf72 := okF Tryz.f72 x72.ok
theorem ok73 : FnOK Tryz.prog 73 cf73 := okF Tryz.f73 c73_ok
theorem ok74 : FnOK Tryz.prog 74 cf74 := okF Tryz.f74 x74.ok
theorem ok75 : FnOK Tryz.prog 75 cf75 := okF Tryz.f75 x75.ok
theorem ok76 : FnOK Tryz.prog 76 cf76 := okF Tryz.f76 x76.ok
theorem ok77 : FnOK Tryz.prog 77 cf77 := okF Tryz.f77 x77.ok
theorem ok78 : FnOK Tryz.prog 78 cf78 := okF Tryz.f78 x78.ok
theorem ok79 : FnOK Tryz.prog 79 cf79 := okF Tryz.f79 c79_ok
theorem ok80 : FnOK Tryz.prog 80 cf80 := okF Tryz.f80 x80.ok
theorem ok81 : FnOK Tryz.prog 81 cf81 := okF Tryz.f81 x81.ok
theorem ok82 : FnOK Tryz.prog 82 cf82 := okF Tryz.f82 c82_ok
theorem ok83 : FnOK Tryz.prog 83 cf83 := okF Tryz.f83 x83.ok
theorem ok84 : FnOK Tryz.prog 84 cf84 := okF Tryz.f84 x84.ok
theorem ok86 : FnOK Tryz.prog 86 cf86 := okF Tryz.f86 x86.ok
theorem ok89 : FnOK Tryz.prog 89 cf89 := okF Tryz.f89 c89_ok
theorem ok90 : FnOK Tryz.prog 90 cf90 := okF Tryz.f90 x90.ok
theorem ok91 : FnOK Tryz.prog 91 cf91 := okF Tryz.f91 x91.ok
theorem ok92 : FnOK Tryz.prog 92 cf92 := okF Tryz.f92 x92.ok
theorem ok93 : FnOK Tryz.prog 93 cf93 := okF Tryz.f93 x93.ok
theorem ok94 : FnOK Tryz.prog 94 cf94 := okF Tryz.f94 x94.ok
theorem ok95 : FnOK Tryz.prog 95 cf95 := okF Tryz.f95 c95_ok
theorem ok96 : FnOK Tryz.prog 96 cf96 := okF Tryz.f96 x96.ok
theorem ok97 : FnOK Tryz.prog 97 cf97 := okF Tryz.f97 c97_ok
theorem ok98 : FnOK Tryz.prog 98 cf98 := okF Tryz.f98 c98_ok
theorem ok100 : FnOK Tryz.prog 100 cf100 := okF Tryz.f100 x100.ok
theorem ok106 : FnOK Tryz.prog 106 cf106 := okF Tryz.f106 c106_ok
theorem ok107 : FnOK Tryz.prog 107 cf107 := okF Tryz.f107 x107.ok
theorem ok108 : FnOK Tryz.prog 108 cf108 := okF Tryz.f108 x108.ok
theorem ok109 : FnOK Tryz.prog 109 cf109 := okF Tryz.f109 x109.ok
theorem ok110 : FnOK Tryz.prog 110 cf110 := okF Tryz.f110 x110.ok
theorem ok111 : FnOK Tryz.prog 111 cf111 := okF Tryz.f111 x111.ok
theorem ok112 : FnOK Tryz.prog 112 cf112 := okF Tryz.f112 x112.ok
theorem ok113 : FnOK Tryz.prog 113 cf113 := okF Tryz.f113 x113.ok
theorem ok114 : FnOK Tryz.prog 114 cf114 := okF Tryz.f114 c114_ok
theorem ok115 : FnOK Tryz.prog 115 cf115 := okF Tryz.f115 x115.ok
theorem ok135 : FnOK Tryz.prog 135 cf135 := okF Tryz.f135 x135.ok
theorem ok136 : FnOK Tryz.prog 136 cf136 := okF Tryz.f136 x136.ok
theorem ok137 : FnOK Tryz.prog 137 cf137 := okF Tryz.f137 x137.ok
theorem ok138 : FnOK Tryz.prog 138 cf138 := okF Tryz.f138 x138.ok
theorem ok139 : FnOK Tryz.prog 139 cf139 := okF Tryz.f139 x139.ok
theorem ok140 : FnOK Tryz.prog 140 cf140 := okF Tryz.f140 x140.ok
theorem ok141 : FnOK Tryz.prog 141 cf141 := okF Tryz.f141 x141.ok
theorem ok142 : FnOK Tryz.prog 142 cf142 := okF Tryz.f142 x142.ok
theorem ok143 : FnOK Tryz.prog 143 cf143 := okF Tryz.f143 x143.ok
theorem ok144 : FnOK Tryz.prog 144 cf144 := okF Tryz.f144 x144.ok
theorem ok145 : FnOK Tryz.prog 145 cf145 := okF Tryz.f145 x145.ok
theorem ok146 : FnOK Tryz.prog 146 cf146 := okF Tryz.f146 x146.ok
theorem ok147 : FnOK Tryz.prog 147 cf147 := okF Tryz.f147 x147.ok
theorem ok148 : FnOK Tryz.prog 148 cf148 := okF Tryz.f148 c148_ok
theorem ok149 : FnOK Tryz.prog 149 cf149 := okF Tryz.f149 c149_ok
theorem ok150 : FnOK Tryz.prog 150 cf150 := okF Tryz.f150 c150_ok
theorem ok152 : FnOK Tryz.prog 152 cf152 := okF Tryz.f152 c152_ok
theorem ok153 : FnOK Tryz.prog 153 cf153 := okF Tryz.f153 x153.ok
theorem ok154 : FnOK Tryz.prog 154 cf154 := okF Tryz.f154 c154_ok
theorem ok155 : FnOK Tryz.prog 155 cf155 := okF Tryz.f155 c155_ok
theorem ok157 : FnOK Tryz.prog 157 cf157 := okF Tryz.f157 x157.ok
theorem ok158 : FnOK Tryz.prog 158 cf158 := okF Tryz.f158 c158_ok
theorem ok159 : FnOK Tryz.prog 159 cf159 := okF Tryz.f159 c159_ok
theorem ok160 : FnOK Tryz.prog 160 cf160 := okF Tryz.f160 x160.ok
theorem ok161 : FnOK Tryz.prog 161 cf161 := okF Tryz.f161 x161.ok
theorem ok162 : FnOK Tryz.prog 162 cf162 := okF Tryz.f162 c162_ok
theorem ok163 : FnOK Tryz.prog 163 cf163 := okF Tryz.f163 c163_ok
theorem ok164 : FnOK Tryz.prog 164 cf164 := okF Tryz.f164 x164.ok
theorem ok165 : FnOK Tryz.prog 165 cf165 := okF Tryz.f165 x165.ok
theorem ok166 : FnOK Tryz.prog 166 cf166 := okF Tryz.f166 x166.ok
theorem ok167 : FnOK Tryz.prog 167 cf167 := okF Tryz.f167 x167.ok
theorem ok168 : FnOK Tryz.prog 168 cf168 := okF Tryz.f168 x168.ok
theorem ok169 : FnOK Tryz.prog 169 cf169 := okF Tryz.f169 c169_ok
theorem ok170 : FnOK Tryz.prog 170 cf170 := okF Tryz.f170 c170_ok
theorem ok172 : FnOK Tryz.prog 172 cf172 := okF Tryz.f172 c172_ok
theorem ok174 : FnOK Tryz.prog 174 cf174 := okF Tryz.f174 c174_ok
theorem ok182 : FnOK Tryz.prog 182 cf182 := okF Tryz.f182 x182.ok
theorem ok183 : FnOK Tryz.prog 183 cf183 := okF Tryz.f183 x183.ok
theorem ok185 : FnOK Tryz.prog 185 cf185 := okF Tryz.f185 x185.ok
theorem ok186 : FnOK Tryz.prog 186 cf186 := okF Tryz.f186 x186.ok
theorem ok187 : FnOK Tryz.prog 187 cf187 := okF Tryz.f187 x187.ok
theorem ok188 : FnOK Tryz.prog 188 cf188 := okF Tryz.f188 x188.ok
theorem ok189 : FnOK Tryz.prog 189 cf189 := okF Tryz.f189 c189_ok
theorem ok190 : FnOK Tryz.prog 190 cf190 := okF Tryz.f190 x190.ok
theorem ok191 : FnOK Tryz.prog 191 cf191 := okF Tryz.f191 x191.ok
theorem ok192 : FnOK Tryz.prog 192 cf192 := okF Tryz.f192 x192.ok
theorem ok195 : FnOK Tryz.prog 195 cf195 := okF Tryz.f195 c195_ok
theorem ok196 : FnOK Tryz.prog 196 cf196 := okF Tryz.f196 x196.ok
theorem ok197 : FnOK Tryz.prog 197 cf197 := okF Tryz.f197 c197_ok
theorem ok198 : FnOK Tryz.prog 198 cf198 := okF Tryz.f198 x198.ok
theorem ok199 : FnOK Tryz.prog 199 cf199 := okF Tryz.f199 x199.ok
theorem ok200 : FnOK Tryz.prog 200 cf200 := okF Tryz.f200 x200.ok
theorem ok201 : FnOK Tryz.prog 201 cf201 := okF Tryz.f201 c201_ok
theorem ok202 : FnOK Tryz.prog 202 cf202 := okF Tryz.f202 c202_ok
theorem ok203 : FnOK Tryz.prog 203 cf203 := okF Tryz.f203 x203.ok
theorem ok206 : FnOK Tryz.prog 206 cf206 := okF Tryz.f206 x206.ok
theorem ok207 : FnOK Tryz.prog 207 cf207 := okF Tryz.f207 c207_ok
theorem ok208 : FnOK Tryz.prog 208 cf208 := okF Tryz.f208 x208.ok
theorem ok209 : FnOK Tryz.prog 209 cf209 := okF Tryz.f209 c209_ok
theorem ok210 : FnOK Tryz.prog 210 cf210 := okF Tryz.f210 x210.ok
theorem ok211 : FnOK Tryz.prog 211 cf211 := okF Tryz.f211 x211.ok
theorem ok212 : FnOK Tryz.prog 212 cf212 := okF Tryz.f212 c212_ok
theorem ok213 : FnOK Tryz.prog 213 cf213 := okF Tryz.f213 x213.ok
theorem ok214 : FnOK Tryz.prog 214 cf214 := okF Tryz.f214 x214.ok
theorem ok215 : FnOK Tryz.prog 215 cf215 := okF Tryz.f215 c215_ok
theorem ok216 : FnOK Tryz.prog 216 cf216 := okF Tryz.f216 c216_ok
theorem ok220 : FnOK Tryz.prog 220 cf220 := okF Tryz.f220 x220.ok
theorem ok221 : FnOK Tryz.prog 221 cf221 := okF Tryz.f221 x221.ok
theorem ok222 : FnOK Tryz.prog 222 cf222 := okF Tryz.f222 x222.ok
theorem ok223 : FnOK Tryz.prog 223 cf223 := okF Tryz.f223 x223.ok
theorem ok224 : FnOK Tryz.prog 224 cf224 := okF Tryz.f224 c224_ok
theorem ok225 : FnOK Tryz.prog 225 cf225 := okF Tryz.f225 c225_ok
theorem ok226 : FnOK Tryz.prog 226 cf226 := okF Tryz.f226 c226_ok
theorem ok227 : FnOK Tryz.prog 227 cf227 := okF Tryz.f227 x227.ok
theorem ok228 : FnOK Tryz.prog 228 cf228 := okF Tryz.f228 x228.ok
theorem ok231 : FnOK Tryz.prog 231 cf231 := okF Tryz.f231 c231_ok
theorem ok233 : FnOK Tryz.prog 233 cf233 := okF Tryz.f233 c233_ok
theorem ok234 : FnOK Tryz.prog 234 cf234 := okF Tryz.f234 x234.ok
theorem tab_ok (ok156 : RowOK Tryz.prog 156 cf156) (ok171 : RowOK Tryz.prog 171 cf171) (ok173 : RowOK Tryz.prog 173 cf173) (ok184 : RowOK Tryz.prog 184 cf184) (ok193 : RowOK Tryz.prog 193 cf193) (ok194 : RowOK Tryz.prog 194 cf194) (ok204 : RowOK Tryz.prog 204 cf204) (ok205 : RowOK Tryz.prog 205 cf205) : ∀ p, p ∈ tab → RowOK Tryz.prog p.1 p.2 := by
 unfold tab
 refine List.forall_mem_cons.2 ⟨ok4, List.forall_mem_cons.2 ⟨ok5, List.forall_mem_cons.2 ⟨ok8, List.forall_mem_cons.2 ⟨ok9, List.forall_mem_cons.2 ⟨ok13, List.forall_mem_cons.2 ⟨ok15, List.forall_mem_cons.2 ⟨ok16, List.forall_mem_cons.2 ⟨ok17, List.forall_mem_cons.2 ⟨ok18, List.forall_mem_cons.2 ⟨ok19, List.forall_mem_cons.2 ⟨ok20, List.forall_mem_cons.2 ⟨ok21, List.forall_mem_cons.2 ⟨ok33, List.forall_mem_cons.2 ⟨ok34, List.forall_mem_cons.2 ⟨ok35, List.forall_mem_cons.2 ⟨ok36, List.forall_mem_cons.2 ⟨ok37, List.forall_mem_cons.2 ⟨ok38, List.forall_mem_cons.2 ⟨ok39, List.forall_mem_cons.2 ⟨ok43, List.forall_mem_cons.2 ⟨ok45, List.forall_mem_cons.2 ⟨ok48, List.forall_mem_cons.2 ⟨ok49, List.forall_mem_cons.2 ⟨ok50, List.forall_mem_cons.2 ⟨ok51, List.forall_mem_cons.2 ⟨ok55, List.forall_mem_cons.2 ⟨ok58, List.forall_mem_cons.2 ⟨ok59, List.forall_mem_cons.2 ⟨ok60, List.forall_mem_cons.2 ⟨ok72, List.forall_mem_cons.2 ⟨ok73, List.forall_mem_cons.2 ⟨ok74, List.forall_mem_cons.2 ⟨ok75, List.forall_mem_cons.2 ⟨ok76, List.forall_mem_cons.2 ⟨ok77, List.forall_mem_cons.2 ⟨ok78, List.forall_mem_cons.2 ⟨ok79, List.forall_mem_cons.2 ⟨ok80, List.forall_mem_cons.2 ⟨ok81, List.forall_mem_cons.2 ⟨ok82, List.forall_mem_cons.2 ⟨ok83, List.forall_mem_cons.2 ⟨ok84, List.forall_mem_cons.2 ⟨ok86, List.forall_mem_cons.2 ⟨ok89, List.forall_mem_cons.2 ⟨ok90, List.forall_mem_cons.2 ⟨ok91, List.forall_mem_cons.2 ⟨ok92, List.forall_mem_cons.2 ⟨ok93, List.forall_mem_cons.2 ⟨ok94, List.forall_mem_cons.2 ⟨ok95, List.forall_mem_cons.2 ⟨ok96, List.forall_mem_cons.2 ⟨ok97, List.forall_mem_cons.2 ⟨ok98, List.forall_mem_cons.2 ⟨ok100, List.forall_mem_cons.2 ⟨ok106, List.forall_mem_cons.2 ⟨ok107, List.forall_mem_cons.2 ⟨ok108, List.forall_mem_cons.2 ⟨ok109, List.forall_mem_cons.2 ⟨ok110, List.forall_mem_cons.2 ⟨ok111, List.forall_mem_cons.2 ⟨ok112, List.forall_mem_cons.2 ⟨ok113, List.forall_mem_cons.2 ⟨ok114, List.forall_mem_cons.2 ⟨ok115, List.forall_mem_cons.2 ⟨ok135, List.forall_mem_cons.2 ⟨ok136, List.forall_mem_cons.2 ⟨ok137, List.forall_mem_cons.2 ⟨ok138, List.forall_mem_cons.2 ⟨ok139, List.forall_mem_cons.2 ⟨ok140, List.forall_mem_cons.2 ⟨ok141, List.forall_mem_cons.2 ⟨ok142, List.forall_mem_cons.2 ⟨ok143, List.forall_mem_cons.2 ⟨ok144, List.forall_mem_cons.2 ⟨ok145, List.forall_mem_cons.2 ⟨ok146, List.forall_mem_cons.2 ⟨ok147, List.forall_mem_cons.2 ⟨ok148, List.forall_mem_cons.2 ⟨ok149, List.forall_mem_cons.2 ⟨ok150, List.forall_mem_cons.2 ⟨ok152, List.forall_mem_cons.2 ⟨ok153, List.forall_mem_cons.2 ⟨ok154, List.forall_mem_cons.2 ⟨ok155, List.forall_mem_cons.2 ⟨ok156, List.forall_mem_cons.2 ⟨ok157, List.forall_mem_cons.2 ⟨ok158, List.forall_mem_cons.2 ⟨ok159, List.forall_mem_cons.2 ⟨ok160, List.forall_mem_cons.2 ⟨ok161, List.forall_mem_cons.2 ⟨ok162, List.forall_mem_cons.2 ⟨ok163, List.forall_mem_cons.2 ⟨ok164, List.forall_mem_cons.2 ⟨ok165, List.forall_mem_cons.2 ⟨ok166, List.forall_mem_cons.2 ⟨ok167, List.forall_mem_cons.2 ⟨ok168, List.forall_mem_cons.2 ⟨ok169, List.forall_mem_cons.2 ⟨ok170, List.forall_mem_cons.2 ⟨ok171, List.forall_mem_cons.2 ⟨ok172, List.forall_mem_cons.2 ⟨ok173, List.forall_mem_cons.2 ⟨ok174, List.forall_mem_cons.2 ⟨ok182, List.forall_mem_cons.2 ⟨ok183, List.forall_mem_cons.2 ⟨ok184, List.forall_mem_cons.2 ⟨ok185, List.forall_mem_cons.2 ⟨ok186, List.forall_mem_cons.2 ⟨ok187, List.forall_mem_cons.2 ⟨ok188, List.forall_mem_cons.2 ⟨ok189, List.forall_mem_cons.2 ⟨ok190, List.forall_mem_cons.2 ⟨ok191, List.forall_mem_cons.2 ⟨ok192, List.forall_mem_cons.2 ⟨ok193, List.forall_mem_cons.2 ⟨ok194, List.forall_mem_cons.2 ⟨ok195, List.forall_mem_cons.2 ⟨ok196, List.forall_mem_cons.2 ⟨ok197, List.forall_mem_cons.2 ⟨ok198, List.forall_mem_cons.2 ⟨ok199, List.forall_mem_cons.2 ⟨ok200, List.forall_mem_cons.2 ⟨ok201, List.forall_mem_cons.2 ⟨ok202, List.forall_mem_cons.2 ⟨ok203, List.forall_mem_cons.2 ⟨ok204, List.forall_mem_cons.2 ⟨ok205, List.forall_mem_cons.2 ⟨ok206, List.forall_mem_cons.2 ⟨ok207, List.forall_mem_cons.2 ⟨ok208, List.forall_mem_cons.2 ⟨ok209, List.forall_mem_cons.2 ⟨ok210, List.forall_mem_cons.2 ⟨ok211, List.forall_mem_cons.2 ⟨ok212, List.forall_mem_cons.2 ⟨ok213, List.forall_mem_cons.2 ⟨ok214, List.forall_mem_cons.2 ⟨ok215, List.forall_mem_cons.2 ⟨ok216, List.forall_mem_cons.2 ⟨ok220, List.forall_mem_cons.2 ⟨ok221, List.forall_mem_cons.2 ⟨ok222, List.forall_mem_cons.2 ⟨ok223, List.forall_mem_cons.2 ⟨ok224, List.forall_mem_cons.2 ⟨ok225, List.forall_mem_cons.2 ⟨ok226, List.forall_mem_cons.2 ⟨ok227, List.forall_mem_cons.2 ⟨ok228, List.forall_mem_cons.2 ⟨ok231, List.forall_mem_cons.2 ⟨ok233, List.forall_mem_cons.2 ⟨ok234, fun _ h => absurd h List.not_mem_nil⟩⟩⟩⟩⟩⟩⟩⟩⟩⟩⟩⟩⟩⟩⟩⟩⟩⟩⟩⟩⟩⟩⟩⟩⟩⟩⟩⟩⟩⟩⟩⟩⟩⟩⟩⟩⟩⟩⟩⟩⟩⟩⟩⟩⟩⟩⟩⟩⟩⟩⟩⟩⟩⟩⟩⟩⟩⟩⟩⟩⟩⟩⟩⟩⟩⟩⟩⟩⟩⟩⟩⟩⟩⟩⟩⟩⟩⟩⟩⟩⟩⟩⟩⟩⟩⟩⟩⟩⟩⟩⟩⟩⟩⟩⟩⟩⟩⟩⟩⟩⟩⟩⟩⟩⟩⟩⟩⟩⟩⟩⟩⟩⟩⟩⟩⟩⟩⟩⟩⟩⟩⟩⟩⟩⟩⟩⟩⟩⟩⟩⟩⟩⟩⟩⟩⟩⟩⟩⟩⟩⟩⟩⟩⟩⟩⟩⟩⟩⟩⟩
end Go.Gn

namespace Go.Gn
open Go Go.RowKit Go.Proofs Go.Shelf
theorem X.mixed : Tryz.prog.follows .mixedOrders = true := by kernel_rfl
set_option maxHeartbeats 2000000 in
set_option maxRecDepth 100000 in
theorem clone193_some (a : Addr) (n c : Nat) (news : List Value) (w : World) (hl : news.length = n * 2) (hnews : ∀ j u, news[j]? = some u → w.cell? (a.add j) = some u) (h1 : ∀ u ∈ news, u.oneCell' = true) (hbig : n * 24 ≤ 140737488355328) :
  Calls Tryz.prog 193 #[.slice (some a) n c] w fun e w' => ∃ v', e = .returned v' ∧ w'.ownsRow w.heap.size 109 2 v' n news ∧ v' ≠ .slice none 0 0 ∧ Below w.heap.size w w' := by
 have mixed := X.mixed
 have hin : (Tryz.prog.info? 109).map (fun i => (i.zero, i.size, i.bytes)) = some (some (.agg #[.string ⟨#[]⟩, .int .i64 0] : Value), 2, 24) := by kernel_rfl
 obtain ⟨i0, hi, hz⟩ := Option.map_eq_some_iff.1 hin
 have hz0 : i0.zero = some (.agg #[.string ⟨#[]⟩, .int .i64 0] : Value) := congrArg Prod.fst hz
 have hz1 : i0.size = 2 := congrArg (fun x => x.2.1) hz
 have hz2 : i0.bytes = 24 := congrArg (fun x => x.2.2) hz
 have ht := Tryz.underlying45
 have q : ∀ (w : World) (a : Option Addr) (n c n' c' : Nat), (binOp .eql 45 (.slice a n c) (.slice none n' c')).run Tryz.prog w = .ok (.bool a.isNone) w := fun w a n c n' c' => Lib.run_eql_slice_nil w _ _ a n c n' c' ht
 have A : True → (∀ j u, news[j]? = some u → w.cell? (a.add j) = some u) := fun _ => hnews
 clear hnews
 go_enter Tryz.func193, Tryz.ntmps193
 go_wp2_with (at_builtin; refine wpList_append_own _ rfl _ _ 45 rfl w.heap.size 109 i0 (.agg #[.string ⟨#[]⟩, .int .i64 0]) 2 24 ht hi hz0 hz1 hz2 rfl (by decide) _ _ _ rfl (World.ownsRow_made w #[] 0 (Nat.le_refl _) (Nat.zero_le _) rfl) a n c news rfl ?qc1 ?qc2 ?qc3 ?qc4 ?qc5 ?qc6 ?_)
 case qc1 => exact hl
 case qc2 =>
  intro j u hj
  exact Lib.cell?_alloc_some _ (A trivial j u hj)
 case qc3 => exact h1
 case qc4 => unfold maxLen; omega
 case qc5 => omega
 case qc6 => simp
 intro v' w1 hown hgrow hnil
 go_wp2
 go_ret
 refine ⟨v', rfl, by simpa using hown, ?_, ?_⟩
 ·exact hnil
 ·exact ((Below.refl _ w).alloc (Nat.le_refl _) _).grown hgrow (by simp) (by intro k hk; simp [Value.ownBlock] at hk; omega)
set_option maxHeartbeats 1000000 in
theorem clone193_nil (n c : Nat) (w : World) : Calls Tryz.prog 193 #[.slice none n c] w fun e w' => e = .returned (.slice none 0 0) ∧ w' = w := by
 have mixed := X.mixed
 have q : ∀ (w : World) (a : Option Addr) (n c n' c' : Nat), (binOp .eql 45 (.slice a n c) (.slice none n' c')).run Tryz.prog w = .ok (.bool a.isNone) w := fun w a n c n' c' => Lib.run_eql_slice_nil w _ _ a n c n' c' Tryz.underlying45
 go_enter Tryz.func193, Tryz.ntmps193
 go_wp2
 go_ret
 exact ⟨rfl, rfl⟩
set_option maxHeartbeats 2000000 in
set_option maxRecDepth 100000 in
theorem clone171_some (a : Addr) (n c : Nat) (news : List Value) (w : World) (hl : news.length = n * 1) (hnews : ∀ j u, news[j]? = some u → w.cell? (a.add j) = some u) (h1 : ∀ u ∈ news, u.oneCell' = true) (hbig : n * 8 ≤ 140737488355328) :
  Calls Tryz.prog 171 #[.slice (some a) n c] w fun e w' => ∃ v', e = .returned v' ∧ w'.ownsRow w.heap.size 3 1 v' n news ∧ v' ≠ .slice none 0 0 ∧ Below w.heap.size w w' := by
 have mixed := X.mixed
 have hin : (Tryz.prog.info? 3).map (fun i => (i.zero, i.size, i.bytes)) = some (some (.int .i64 0 : Value), 1, 8) := by kernel_rfl
 obtain ⟨i0, hi, hz⟩ := Option.map_eq_some_iff.1 hin
 have hz0 : i0.zero = some (.int .i64 0 : Value) := congrArg Prod.fst hz
 have hz1 : i0.size = 1 := congrArg (fun x => x.2.1) hz
 have hz2 : i0.bytes = 8 := congrArg (fun x => x.2.2) hz
 have ht := Tryz.underlying103
 have q : ∀ (w : World) (a : Option Addr) (n c n' c' : Nat), (binOp .eql 103 (.slice a n c) (.slice none n' c')).run Tryz.prog w = .ok (.bool a.isNone) w := fun w a n c n' c' => Lib.run_eql_slice_nil w _ _ a n c n' c' ht
 have A : True → (∀ j u, news[j]? = some u → w.cell? (a.add j) = some u) := fun _ => hnews
 clear hnews
 go_enter Tryz.func171, Tryz.ntmps171
 go_wp2_with (at_builtin; refine wpList_append_own _ rfl _ _ 103 rfl w.heap.size 3 i0 (.int .i64 0) 1 8 ht hi hz0 hz1 hz2 rfl (by decide) _ _ _ rfl (World.ownsRow_made w #[] 0 (Nat.le_refl _) (Nat.zero_le _) rfl) a n c news rfl ?qc1 ?qc2 ?qc3 ?qc4 ?qc5 ?qc6 ?_)
 case qc1 => exact hl
 case qc2 =>
  intro j u hj
  exact Lib.cell?_alloc_some _ (A trivial j u hj)
 case qc3 => exact h1
 case qc4 => unfold maxLen; omega
 case qc5 => omega
 case qc6 => simp
 intro v' w1 hown hgrow hnil
 go_wp2
 go_ret
 refine ⟨v', rfl, by simpa using hown, ?_, ?_⟩
 ·exact hnil
 ·exact ((Below.refl _ w).alloc (Nat.le_refl _) _).grown hgrow (by simp) (by intro k hk; simp [Value.ownBlock] at hk; omega)
set_option maxHeartbeats 1000000 in
theorem clone171_nil (n c : Nat) (w : World) : Calls Tryz.prog 171 #[.slice none n c] w fun e w' => e = .returned (.slice none 0 0) ∧ w' = w := by
 have mixed := X.mixed
 have q : ∀ (w : World) (a : Option Addr) (n c n' c' : Nat), (binOp .eql 103 (.slice a n c) (.slice none n' c')).run Tryz.prog w = .ok (.bool a.isNone) w := fun w a n c n' c' => Lib.run_eql_slice_nil w _ _ a n c n' c' Tryz.underlying103
 go_enter Tryz.func171, Tryz.ntmps171
 go_wp2
 go_ret
 exact ⟨rfl, rfl⟩
set_option maxHeartbeats 2000000 in
set_option maxRecDepth 100000 in
theorem clone156_some (a : Addr) (n c : Nat) (news : List Value) (w : World) (hl : news.length = n * 5) (hnews : ∀ j u, news[j]? = some u → w.cell? (a.add j) = some u) (h1 : ∀ u ∈ news, u.oneCell' = true) (hbig : n * 64 ≤ 140737488355328) :
  Calls Tryz.prog 156 #[.slice (some a) n c] w fun e w' => ∃ v', e = .returned v' ∧ w'.ownsRow w.heap.size 38 5 v' n news ∧ v' ≠ .slice none 0 0 ∧ Below w.heap.size w w' := by
 have mixed := X.mixed
 have hin : (Tryz.prog.info? 38).map (fun i => (i.zero, i.size, i.bytes)) = some (some (.agg #[.int .i64 0, .string ⟨#[]⟩, .string ⟨#[]⟩, .int .i64 0, .string ⟨#[]⟩] : Value), 5, 64) := by kernel_rfl
 obtain ⟨i0, hi, hz⟩ := Option.map_eq_some_iff.1 hin
 have hz0 : i0.zero = some (.agg #[.int .i64 0, .string ⟨#[]⟩, .string ⟨#[]⟩, .int .i64 0, .string ⟨#[]⟩] : Value) := congrArg Prod.fst hz
 have hz1 : i0.size = 5 := congrArg (fun x => x.2.1) hz
 have hz2 : i0.bytes = 64 := congrArg (fun x => x.2.2) hz
 have ht := Tryz.underlying27
 have q : ∀ (w : World) (a : Option Addr) (n c n' c' : Nat), (binOp .eql 27 (.slice a n c) (.slice none n' c')).run Tryz.prog w = .ok (.bool a.isNone) w := fun w a n c n' c' => Lib.run_eql_slice_nil w _ _ a n c n' c' ht
 have A : True → (∀ j u, news[j]? = some u → w.cell? (a.add j) = some u) := fun _ => hnews
 clear hnews
 go_enter Tryz.func156, Tryz.ntmps156
 go_wp2_with (at_builtin; refine wpList_append_own _ rfl _ _ 27 rfl w.heap.size 38 i0 (.agg #[.int .i64 0, .string ⟨#[]⟩, .string ⟨#[]⟩, .int .i64 0, .string ⟨#[]⟩]) 5 64 ht hi hz0 hz1 hz2 rfl (by decide) _ _ _ rfl (World.ownsRow_made w #[] 0 (Nat.le_refl _) (Nat.zero_le _) rfl) a n c news rfl ?qc1 ?qc2 ?qc3 ?qc4 ?qc5 ?qc6 ?_)
 case qc1 => exact hl
 case qc2 =>
  intro j u hj
  exact Lib.cell?_alloc_some _ (A trivial j u hj)
 case qc3 => exact h1
 case qc4 => unfold maxLen; omega
 case qc5 => omega
 case qc6 => simp
 intro v' w1 hown hgrow hnil
 go_wp2
 go_ret
 refine ⟨v', rfl, by simpa using hown, ?_, ?_⟩
 ·exact hnil
 ·exact ((Below.refl _ w).alloc (Nat.le_refl _) _).grown hgrow (by simp) (by intro k hk; simp [Value.ownBlock] at hk; omega)
set_option maxHeartbeats 1000000 in
theorem clone156_nil (n c : Nat) (w : World) : Calls Tryz.prog 156 #[.slice none n c] w fun e w' => e = .returned (.slice none 0 0) ∧ w' = w := by
 have mixed := X.mixed
 have q : ∀ (w : World) (a : Option Addr) (n c n' c' : Nat), (binOp .eql 27 (.slice a n c) (.slice none n' c')).run Tryz.prog w = .ok (.bool a.isNone) w := fun w a n c n' c' => Lib.run_eql_slice_nil w _ _ a n c n' c' Tryz.underlying27
 go_enter Tryz.func156, Tryz.ntmps156
 go_wp2
 go_ret
 exact ⟨rfl, rfl⟩
set_option maxHeartbeats 2000000 in
set_option maxRecDepth 100000 in
theorem clone194_some (a : Addr) (n c : Nat) (news : List Value) (w : World) (hl : news.length = n * 2) (hnews : ∀ j u, news[j]? = some u → w.cell? (a.add j) = some u) (h1 : ∀ u ∈ news, u.oneCell' = true) (hbig : n * 40 ≤ 140737488355328) :
  Calls Tryz.prog 194 #[.slice (some a) n c] w fun e w' => ∃ v', e = .returned v' ∧ w'.ownsRow w.heap.size 105 2 v' n news ∧ v' ≠ .slice none 0 0 ∧ Below w.heap.size w w' := by
 have mixed := X.mixed
 have hin : (Tryz.prog.info? 105).map (fun i => (i.zero, i.size, i.bytes)) = some (some (.agg #[.string ⟨#[]⟩, .slice none 0 0] : Value), 2, 40) := by kernel_rfl
 obtain ⟨i0, hi, hz⟩ := Option.map_eq_some_iff.1 hin
 have hz0 : i0.zero = some (.agg #[.string ⟨#[]⟩, .slice none 0 0] : Value) := congrArg Prod.fst hz
 have hz1 : i0.size = 2 := congrArg (fun x => x.2.1) hz
 have hz2 : i0.bytes = 40 := congrArg (fun x => x.2.2) hz
 have ht := Tryz.underlying46
 have q : ∀ (w : World) (a : Option Addr) (n c n' c' : Nat), (binOp .eql 46 (.slice a n c) (.slice none n' c')).run Tryz.prog w = .ok (.bool a.isNone) w := fun w a n c n' c' => Lib.run_eql_slice_nil w _ _ a n c n' c' ht
 have A : True → (∀ j u, news[j]? = some u → w.cell? (a.add j) = some u) := fun _ => hnews
 clear hnews
 go_enter Tryz.func194, Tryz.ntmps194
 go_wp2_with (at_builtin; refine wpList_append_own _ rfl _ _ 46 rfl w.heap.size 105 i0 (.agg #[.string ⟨#[]⟩, .slice none 0 0]) 2 40 ht hi hz0 hz1 hz2 rfl (by decide) _ _ _ rfl (World.ownsRow_made w #[] 0 (Nat.le_refl _) (Nat.zero_le _) rfl) a n c news rfl ?qc1 ?qc2 ?qc3 ?qc4 ?qc5 ?qc6 ?_)
 case qc1 => exact hl
 case qc2 =>
  intro j u hj
  exact Lib.cell?_alloc_some _ (A trivial j u hj)
 case qc3 => exact h1
 case qc4 => unfold maxLen; omega
 case qc5 => omega
 case qc6 => simp
 intro v' w1 hown hgrow hnil
 go_wp2
 go_ret
 refine ⟨v', rfl, by simpa using hown, ?_, ?_⟩
 ·exact hnil
 ·exact ((Below.refl _ w).alloc (Nat.le_refl _) _).grown hgrow (by simp) (by intro k hk; simp [Value.ownBlock] at hk; omega)
set_option maxHeartbeats 1000000 in
theorem clone194_nil (n c : Nat) (w : World) : Calls Tryz.prog 194 #[.slice none n c] w fun e w' => e = .returned (.slice none 0 0) ∧ w' = w := by
 have mixed := X.mixed
 have q : ∀ (w : World) (a : Option Addr) (n c n' c' : Nat), (binOp .eql 46 (.slice a n c) (.slice none n' c')).run Tryz.prog w = .ok (.bool a.isNone) w := fun w a n c n' c' => Lib.run_eql_slice_nil w _ _ a n c n' c' Tryz.underlying46
 go_enter Tryz.func194, Tryz.ntmps194
 go_wp2
 go_ret
 exact ⟨rfl, rfl⟩
end Go.Gn

namespace Go.Proofs.YtkgpnfeabojhcaaGreat.enter
open Go
theorem words_append : ∀ (l r : List Char), l.all (fun c => c.toNat != 32) = true → wordsSigns (l ++ Char.ofNat 32 :: r) = l :: wordsSigns r
 | [], r, _ => rfl
 | c :: l, r, h => by
  simp only [List.all_cons, Bool.and_eq_true] at h
  have ih := words_append l r h.2
  have hc : c ≠ Char.ofNat 32 := by
   rintro rfl
   have := h.1
   revert this
   decide
  rw [List.cons_append, wordsSigns]
  ·rw [ih]
  ·intro e; exact hc e
theorem words_str (s : String) (r : List Char) (h : s.toList.all (fun c => c.toNat != 32) = true) : wordsSigns (s.toList ++ ((String.ofList [Char.ofNat 32]).toList ++ r)) = s.toList :: wordsSigns r := by
 rw [String.toList_ofList]
 exact words_append _ _ h
theorem first : Tryz.prog.initOrder = "harness" ++ (" " ++ ("d63b1714616387e6f405a21bb0908550aa0c32432288e76c9269918a874f58e9" ++ (" " ++ ("cut" ++ (" " ++ "at loop.example/garner/laws.FnWorldAlone loop.example/garner/laws.FnWorldDeaf loop.example/garner/laws.FnWorldNets loop.example/garner/laws.FnWorldOne loop.example/garner/laws.FnWorldBoth loop.example/garner/laws.FnWorldLetters loop.example/garner/laws.FnWorldTold loop.example/garner/laws.FnWorldDoing loop.example/garner/laws.FnWorldOrder loop.example/garner/laws.FnWorldReads loop.example/garner/laws.FnWorldSafe loop.example/garner/laws.FnWorldAsk loop.example/garner/laws.FnWorldCut loop.example/garner/laws.FnWorldJoin loop.example/garner/laws.FnWorldStale loop.example/garner/laws.FnWorldTwice loop.example/garner/laws.FnWorldTurn loop.example/garner/laws.FnWorldCalm loop.example/garner/laws.FnWorldStill loop.example/garner/laws.FnWorldRounds loop.example/garner/laws.FnWorldAloneGo loop.example/garner/laws.FnWorldEvents loop.example/garner/laws.FnWorldFall loop.example/garner/laws.FnWorldIdle loop.example/garner/laws.FnWorldLose loop.example/garner/laws.FnWorldGoOn loop.example/garner/laws.FnWorldDo loop.example/garner/laws.FnExactWorldPlay loop.example/garner/laws.FnExactWorldCalm loop.example/garner/laws.FnExactWorldDo"))))) := by kernel_rfl
theorem words : ∃ ws, wordsSigns Tryz.prog.initOrder.toList = "harness".toList :: "d63b1714616387e6f405a21bb0908550aa0c32432288e76c9269918a874f58e9".toList :: "cut".toList :: ws := by
 refine ⟨wordsSigns ("at loop.example/garner/laws.FnWorldAlone loop.example/garner/laws.FnWorldDeaf loop.example/garner/laws.FnWorldNets loop.example/garner/laws.FnWorldOne loop.example/garner/laws.FnWorldBoth loop.example/garner/laws.FnWorldLetters loop.example/garner/laws.FnWorldTold loop.example/garner/laws.FnWorldDoing loop.example/garner/laws.FnWorldOrder loop.example/garner/laws.FnWorldReads loop.example/garner/laws.FnWorldSafe loop.example/garner/laws.FnWorldAsk loop.example/garner/laws.FnWorldCut loop.example/garner/laws.FnWorldJoin loop.example/garner/laws.FnWorldStale loop.example/garner/laws.FnWorldTwice loop.example/garner/laws.FnWorldTurn loop.example/garner/laws.FnWorldCalm loop.example/garner/laws.FnWorldStill loop.example/garner/laws.FnWorldRounds loop.example/garner/laws.FnWorldAloneGo loop.example/garner/laws.FnWorldEvents loop.example/garner/laws.FnWorldFall loop.example/garner/laws.FnWorldIdle loop.example/garner/laws.FnWorldLose loop.example/garner/laws.FnWorldGoOn loop.example/garner/laws.FnWorldDo loop.example/garner/laws.FnExactWorldPlay loop.example/garner/laws.FnExactWorldCalm loop.example/garner/laws.FnExactWorldDo").toList, ?_⟩
 rw [first]
 simp only [String.toList_append]
 rw [show (" " : String) = String.ofList [Char.ofNat 32] from rfl]
 rw [words_str _ _ (by decide +kernel), words_str _ _ (by decide +kernel), words_str _ _ (by decide +kernel)]
theorem sum : isSumSigns ("d63b1714616387e6f405a21bb0908550aa0c32432288e76c9269918a874f58e9").toList = true := by decide +kernel
theorem behind (s : List Char) (hs : isSumSigns s = true) (ws : List (List Char)) : behindMainWord ("harness".toList :: s :: "cut".toList :: ws) = "cut".toList :: ws := by
 simp only [behindMainWord, hs, beq_self_eq_true, Bool.true_or, Bool.and_true, if_true]
theorem lifts : ∀ os : List String, os.all (fun o => !("cut".toList == o.toList)) = true → ∀ ws, stripLifts os ("cut".toList :: ws) = ([], "cut".toList :: ws)
 | [], _, ws => rfl
 | o :: os, h, ws => by
  simp only [List.all_cons, Bool.and_eq_true, Bool.not_eq_true'] at h
  unfold stripLifts
  rw [h.1, if_neg (by simp)]
  exact lifts os h.2 ws
theorem noLift : liftWords.all (fun o => !("cut".toList == o.toList)) = true := by decide +kernel
theorem late : Tryz.prog.laysLater = false := by kernel_rfl
theorem bears : Tryz.prog.bearsReflect = false := by kernel_rfl
theorem doors : Tryz.prog.doorRows = [] := by kernel_rfl
theorem fitsOf (P : Program) (h : P.doorRows = []) : P.doorFits [] = true := by
 unfold Program.doorFits
 rw [h]
 rfl
theorem mayOf (P : Program) (s : List Char) (hs : isSumSigns s = true) (hw : ∃ ws, wordsSigns P.initOrder.toList = "harness".toList :: s :: "cut".toList :: ws) (h1 : P.laysLater = false) (h2 : P.bearsReflect = false) (h3 : P.doorRows = []) : P.mayEnter = true := by
 obtain ⟨ws, hw⟩ := hw
 unfold Program.mayEnter
 rw [hw, behind s hs]
 simp only [lifts liftWords noLift ws, h1, h2, fitsOf P h3, List.head?_cons, beq_self_eq_true, Bool.not_false, Bool.and_true, Bool.or_true, Bool.true_and]
 rw [Bool.or_eq_true]
 right
 rfl
theorem may : Tryz.prog.mayEnter = true := mayOf _ _ sum words late bears doors
theorem makeOf (P : Program) (s : List Char) (hs : isSumSigns s = true) (hw : ∃ ws, wordsSigns P.initOrder.toList = "harness".toList :: s :: "cut".toList :: ws) : P.make = some .cut := by
 obtain ⟨ws, hw⟩ := hw
 unfold Program.make
 rw [hw, behind s hs]
 rfl
theorem finalOf (P : Program) (s : List Char) (hs : isSumSigns s = true) (hw : ∃ ws, wordsSigns P.initOrder.toList = "harness".toList :: s :: "cut".toList :: ws) : P.liftsFinal = false := by
 obtain ⟨ws, hw⟩ := hw
 unfold Program.liftsFinal Program.headLifts
 rw [hw, behind s hs]
 simp only [lifts liftWords noLift ws, List.head?_cons]
 rfl
theorem make : Tryz.prog.make = some .cut := makeOf _ _ sum words
theorem final : Tryz.prog.liftsFinal = false := finalOf _ _ sum words
end Go.Proofs.YtkgpnfeabojhcaaGreat.enter

namespace Go.Gn
open Go Go.RowKit Go.Proofs Go.Shelf
theorem scrub_any {S S' : Nat → Prop} {w w' : World} {d : D} {v : Value} (h : RepD S w d v) : RepD S' w' d.scrub v := by
 cases h with
 | int k n => exact .int k n
 | bool b => exact .bool b
 | str s => exact .str s
 | nil A c => exact .top _ rfl
 | sl xs b off sz cap f hne hb hc hcell hrep => exact .top _ rfl
 | top v h => exact .top v h
theorem aft_row {c : Cx} {w w' : World} (hst : Store w c [] w) (hdom : ∀ q, c.μ q ≠ none → q < 0) (hB : Below w.heap.size w w') {blk : Option Nat} {sz n cap c0 : Nat} {ys : List (List D)}
  (hg : ∀ g, blk = some g → w.heap.size ≤ g ∧ g < w'.heap.size)
  (hrow : Ext c w { c with μ := fun q => if q = 0 then some ⟨blk, sz, n, cap, fun _ => none⟩ else none } w' → RepRow c.imm w' ⟨blk, sz, n, cap, fun _ => none⟩ sz 0 c0 ys) :
  ∃ c', Aft w c 0 (.hw 0) [.row sz 0 c0 ys] (.slice (blk.map mk0) n cap) w' c' := by
 have hmu : ∀ q, c.μ q = none := fun q => by
  cases h : c.μ q with
  | none => rfl
  | some m => exact absurd (hdom q (by rw [h]; simp)) (Nat.not_lt_zero _)
 let m0 : Meta := ⟨blk, sz, n, cap, fun _ => none⟩
 let c' : Cx := { c with μ := fun q => if q = 0 then some m0 else none }
 have own : ∀ o l b, Owns c'.μ [.row sz 0 c0 ys] o l b → o = 0 ∧ l = none ∧ blk = some b := by
  rintro o l b ⟨m, hm, ho⟩
  by_cases h0 : o = 0
  ·subst h0
   simp only [c', if_true, Option.some.injEq] at hm
   subst hm
   cases l with
   | none => exact ⟨rfl, rfl, ho⟩
   | some j => exact absurd ho.1 (Nat.not_lt_zero _)
  ·simp only [c', h0, if_false] at hm; cases hm
 obtain ⟨s1, s2⟩ := hst.step (c' := c') (os' := [.row sz 0 c0 ys]) (w' := w') (fun _ => False) ⟨rfl, rfl⟩ (fun _ h => h) (fun _ h => .inl h) (fun o m hm => by rw [hmu] at hm; cases hm)
  hB.size ⟨hB.os, hB.tape, hB.output⟩ (fun b hb _ => hB.block b hb) (fun _ h => h.elim)
  (fun e o x hx hne => by
   cases o with
   | zero =>
    have hx : Obj.row sz 0 c0 ys = x := hx
    subst hx
    exact .inl ⟨m0, by simp [c'], hrow e⟩
   | succ o => exact absurd hx.symm (by simpa using hne))
  (fun o l o' l' b h1 h2 => by
   obtain ⟨a1, a2, _⟩ := own _ _ _ h1
   obtain ⟨b1, b2, _⟩ := own _ _ _ h2
   exact ⟨a1.trans b1.symm, a2.trans b2.symm⟩)
  (fun o l b h1 => by
   obtain ⟨_, _, h2⟩ := own _ _ _ h1
   obtain ⟨g1, g2⟩ := hg b h2
   refine ⟨g2, fun h => ?_, fun h => ?_, fun h => ?_⟩
   ·have := hst.immlt b h; omega
   ·have := hst.fixlt b h; omega
   ·have := hst.othlt b h; omega)
  (fun b hb => Nat.lt_of_lt_of_le (hst.immlt b hb) hB.size) hst.fixlt
 refine ⟨c', s1, rfl, rfl, fun _ h => h, fun o ho => absurd ho (Nat.not_lt_zero _), fun q hq => ?_, fun q hq => absurd hq (Nat.not_lt_zero _), s2.kf, s2.ki, s2.ko, Nat.zero_le _, ?_, rfl, fun q => ?_⟩
 ·by_cases h0 : q = 0
  ·subst h0; simp
  ·simp only [c', h0, if_false] at hq; exact absurd rfl hq
 ·exact .hw 0 m0 (by simp [c'])
 ·cases q with
  | zero => rfl
  | succ q => simp [Obj.noBr]
theorem cloneD_get {m : Md} {xs : List (List D)} {j : Nat} {el : List D} (h : (cloneD m xs)[j]? = some el) : ∃ el0 : List D, xs[j]? = some el0 ∧ el.length = el0.length ∧ ∀ (i : Nat) (d : D), el[i]? = some d → ∃ d0 : D, el0[i]? = some d0 ∧ (m = .sh ∧ d = d0 ∨ m = .br ∧ d = d0.scrub) := by
 cases m with
 | sh => exact ⟨el, h, rfl, fun i d hd => ⟨d, hd, .inl ⟨rfl, rfl⟩⟩⟩
 | br =>
  simp only [cloneD, List.getElem?_map, Option.map_eq_some_iff] at h
  obtain ⟨el0, h0, rfl⟩ := h
  refine ⟨el0, h0, by simp, fun i d hd => ?_⟩
  simp only [List.getElem?_map, Option.map_eq_some_iff] at hd
  obtain ⟨d0, hd0, rfl⟩ := hd
  exact ⟨d0, hd0, .inr ⟨rfl, rfl⟩⟩
theorem cloneD_length (m : Md) (xs : List (List D)) : (cloneD m xs).length = xs.length := by cases m <;> simp [cloneD]
theorem good_clone {P : Program} {f sz bytes c0 e : Nat} (hsz : 0 < sz)
  (hsome : ∀ (a : Addr) (n c : Nat) (news : List Value) (w : World), news.length = n * sz → (∀ (j : Nat) (u : Value), news[j]? = some u → w.cell? (a.add j) = some u) → (∀ u ∈ news, u.oneCell' = true) → n * bytes ≤ 140737488355328 →
   Calls P f #[.slice (some a) n c] w fun en w' => ∃ v', en = .returned v' ∧ w'.ownsRow w.heap.size e sz v' n news ∧ v' ≠ .slice none 0 0 ∧ Below w.heap.size w w')
  (hnil : ∀ (n c : Nat) (w : World), Calls P f #[.slice none n c] w fun en w' => en = .returned (.slice none 0 0) ∧ w' = w) : Good P (fun _ => cloneX sz bytes c0) f false := by
 unfold Good
 rw [if_neg (by simp)]
 intro args os r os' h c w vals hst hdom hvals
 simp only [cloneX] at h
 split at h
 rotate_left
 ·cases h
 rename_i m xs
 split at h
 rotate_left
 ·cases h
 rename_i hc
 obtain ⟨hok, hbig⟩ := hc
 cases h
 cases hvals with
 | cons _ v _ vs hv hvs =>
 cases hvs
 have hv : RepD (c.set m) w (.sl xs) v := by cases hv with | sl _ _ _ h => exact h
 have fin : ∀ (a : Addr) (n cap : Nat) (news : List Value), n = xs.length → news.length = n * sz → (∀ (j : Nat) (u : Value), news[j]? = some u → w.cell? (a.add j) = some u) →
   (∀ (j : Nat) (el : List D) (i : Nat) (d : D), xs[j]? = some el → el[i]? = some d → ∃ u, news[j * sz + i]? = some u ∧ RepD (c.set m) w d u) → (∀ el ∈ xs, el.length = sz) → (∀ u ∈ news, u.oneCell' = true) →
   Calls P f #[.slice (some a) n cap] w (retB fun v w' => ∃ c', Aft w c 0 (.hw 0) [.row sz 0 c0 (cloneD m xs)] v w' c') := by
  intro a n cap news hn hl hcells hrep hlen h1
  refine (hsome a n cap news w hl hcells h1 (by rw [hn]; exact hbig)).mono ?_
  rintro en w' ⟨v', rfl, hown, hnn, hB⟩
  rcases hown.2 with ⟨h0, _⟩ | ⟨g, cap', cur, rfl, hbg, hh, hnc, hcm, hcs, htake⟩
  ·exact absurd h0 hnn
  refine aft_row (blk := some g) hst hdom hB (fun g' hg' => by cases hg'; exact ⟨hbg, (Array.getElem?_eq_some_iff.1 hh).1⟩) fun ext => ?_
  refine ⟨rfl, by rw [cloneD_length]; exact hn, hnc, ⟨Nat.zero_le _, fun _ _ _ => rfl⟩, (fun h => by cases h), fun el hel => ?_, fun b hb => ?_⟩
  ·obtain ⟨j, hj⟩ := List.getElem?_of_mem hel
   obtain ⟨el0, h0, hle, _⟩ := cloneD_get hj
   rw [hle]; exact hlen el0 (List.mem_of_getElem? h0)
  ·cases hb
   refine ⟨cur, e, hh, hcs, fun j el i d hj hi => ?_⟩
   obtain ⟨el0, h0, hle, hd⟩ := cloneD_get hj
   obtain ⟨d0, hd0, hdd⟩ := hd i d hi
   obtain ⟨u, hu, hru⟩ := hrep j el0 i d0 h0 hd0
   refine ⟨u, ?_, ?_⟩
   ·rw [← htake, List.getElem?_take] at hu
    split at hu
    ·simpa using hu
    ·cases hu
   ·rw [if_neg (by omega)]
    rcases hdd with ⟨rfl, rfl⟩ | ⟨rfl, rfl⟩
    ·exact hru.mono ext.ki (fun _ h => h)
    ·exact scrub_any hru
 cases hv with
 | nil A cc =>
  cases A with
  | none =>
   refine (hnil 0 cc w).mono ?_
   rintro en w' ⟨rfl, rfl⟩
   refine aft_row (blk := none) hst hdom (Below.refl _ _) (fun g hg => by cases hg) fun ext => ?_
   refine ⟨rfl, by rw [cloneD_length]; rfl, Nat.le_refl _, ⟨Nat.zero_le _, fun _ _ _ => rfl⟩, fun _ => rfl, fun el hel => ?_, fun b hb => by cases hb⟩
   cases m <;> simp [cloneD] at hel
  | some a =>
   exact fin a 0 cc [] rfl (by simp) (fun j u hj => by simp at hj) (fun j el i d hj => by simp at hj) (fun el hel => by simp at hel) (fun u hu => by simp at hu)
 | sl _ b off sz' cap g hne hb hcap hcell hrep =>
  have hsz' : sz' = sz := by
   cases xs with
   | nil => exact absurd rfl hne
   | cons x xs =>
    have h1 := (hcell 0 x rfl).1
    rw [← h1]
    exact Nat.eq_of_beq_eq_true hok
  subst hsz'
  have hel : ∀ j, j < xs.length → ∃ el, xs[j]? = some el ∧ el.length = sz' := fun j hj => ⟨xs[j], List.getElem?_eq_getElem hj, (hcell j _ (List.getElem?_eq_getElem hj)).1⟩
  have hdm : ∀ j i, i < sz' → (j * sz' + i) / sz' = j ∧ (j * sz' + i) % sz' = i := fun j i hi => by
   rw [Nat.mul_comm, Nat.mul_add_div hsz, Nat.mul_add_mod, Nat.div_eq_of_lt hi, Nat.mod_eq_of_lt hi]
   exact ⟨rfl, rfl⟩
  refine fin _ xs.length cap ((List.range (xs.length * sz')).map fun q => g (q / sz') (q % sz')) rfl (by simp) (fun q u hq => ?_) (fun j el i d hj hi => ?_) (fun el hm => ?_) (fun u hu => ?_)
  ·rw [List.getElem?_map, Option.map_eq_some_iff] at hq
   obtain ⟨q', hq', rfl⟩ := hq
   have hql : q < xs.length * sz' := by
    have := (List.getElem?_eq_some_iff.1 hq').1
    rwa [List.length_range] at this
   rw [List.getElem?_range hql] at hq'
   cases hq'
   have hdiv : q / sz' < xs.length := (Nat.div_lt_iff_lt_mul hsz).2 hql
   obtain ⟨el, he, hle⟩ := hel (q / sz') hdiv
   have hmod := Nat.mod_lt q hsz
   have := (hcell _ _ he).2 (q % sz') _ (List.getElem?_eq_getElem (by omega))
   have e1 : off + q / sz' * sz' + q % sz' = off + q := by
    have := Nat.div_add_mod q sz'
    rw [Nat.mul_comm] at this; omega
   rw [e1] at this
   rw [Addr.add_lit]
   exact this
  ·have hil : i < sz' := by rw [← (hcell j el hj).1]; exact (List.getElem?_eq_some_iff.1 hi).1
   have hjl := (List.getElem?_eq_some_iff.1 hj).1
   have hq : j * sz' + i < xs.length * sz' := by
    have : (j + 1) * sz' ≤ xs.length * sz' := Nat.mul_le_mul_right _ hjl
    rw [Nat.add_mul] at this; omega
   refine ⟨g j i, ?_, hrep j el i d hj hi⟩
   rw [List.getElem?_map, List.getElem?_range hq]
   obtain ⟨h1, h2⟩ := hdm j i hil
   simp [h1, h2]
  ·obtain ⟨j, hj⟩ := List.getElem?_of_mem hm
   exact (hcell j el hj).1
  ·obtain ⟨q, hq, rfl⟩ := List.mem_map.1 hu
   have hql : q < xs.length * sz' := by simpa using hq
   have hdiv : q / sz' < xs.length := (Nat.div_lt_iff_lt_mul hsz).2 hql
   obtain ⟨el, he, hle⟩ := hel (q / sz') hdiv
   have hmod := Nat.mod_lt q hsz
   exact (hrep _ _ _ _ he (List.getElem?_eq_getElem (show q % sz' < el.length by omega))).one
end Go.Gn

namespace Go.Gn
open Go Go.RowKit Go.Proofs Go.Shelf
set_option maxHeartbeats 1000000 in
set_option maxRecDepth 100000 in
theorem compareString_call (a b : ByteArray) (w : World) :
  Calls Tryz.prog 217 #[.string a, .string b] w fun e w' => e = .returned (.int .i64 (Lib.compareBytes a.data.toList b.data.toList)) ∧ w' = w := by
 have mixed := X.mixed
 go_enter Tryz.func217, Tryz.ntmps217
 go_wp2
 rw [run_callFunc_extern Tryz.func229 (by kernel_rfl) (by kernel_rfl) (by kernel_rfl) (e := Extern.BytealgCompare.compare) (by kernel_rfl), Lib.run_compareString]
 simp only [Result.andThen]
 rw [Oper.upon_value]
 go_wp2
 go_ret
 exact ⟨rfl, rfl⟩
set_option maxHeartbeats 1000000 in
theorem compare_call (a b : ByteArray) (w : World) :
  Calls Tryz.prog 204 #[.string a, .string b] w fun e w' => e = .returned (.int .i64 (Lib.compareBytes a.data.toList b.data.toList)) ∧ w' = w := by
 have mixed := X.mixed
 have e213 : ∀ args w, (callFunc 217 args).run Tryz.prog w = .ok (.enter 217 args) w := enters_of Tryz.func217 (by kernel_rfl) rfl
 go_enter Tryz.func204, Tryz.ntmps204
 go_wp2_with (go_at_fn 217; refine (compareString_call _ _ _).mono ?_; rintro e w' ⟨rfl, rfl⟩)
 go_ret
 exact ⟨rfl, rfl⟩
theorem bl_eq : ∀ (a b : List UInt8), Lib.compareBytes a b = if Op.bytesLess a b then -1 else if Op.bytesLess b a then 1 else 0
 | [], [] => by simp [Lib.compareBytes, Op.bytesLess]
 | [], _ :: _ => by simp [Lib.compareBytes, Op.bytesLess]
 | _ :: _, [] => by simp [Lib.compareBytes, Op.bytesLess]
 | x :: a, y :: b => by
  have ih := bl_eq a b
  unfold Lib.compareBytes Op.bytesLess
  by_cases h : x < y
  ·simp [h, UInt8.lt_asymm h]
  ·by_cases h2 : y < x
   ·have hne : ¬ x = y := fun e => h (by rw [e] at h2; exact absurd h2 (UInt8.lt_irrefl _))
    simp [h, h2, hne]
   ·have e : x = y := UInt8.le_antisymm (UInt8.not_lt.1 h2) (UInt8.not_lt.1 h)
    subst e
    simp [UInt8.lt_irrefl, ih]
theorem good_compare : Good Tryz.prog (fun _ => compareX) 204 false := by
 unfold Good
 rw [if_neg (by simp)]
 intro args os r os' h c w vals hst hdom hvals
 simp only [compareX] at h
 split at h
 rotate_left
 ·cases h
 rename_i a b
 cases h
 cases hvals with
 | cons _ v _ vs hv hvs =>
 cases hvs with
 | cons _ v2 _ vs2 hv2 hvs2 =>
 cases hvs2
 cases hv
 cases hv2
 refine (compare_call a b w).mono ?_
 rintro e w' ⟨rfl, rfl⟩
 have e1 : Lib.compareBytes a.data.toList b.data.toList = cmpStr a b := by
  rw [bl_eq, cmpStr, ByteArray.toList_eq, ByteArray.toList_eq]
 show ∃ c', Aft _ c 0 _ [] _ _ c'
 rw [e1]
 exact ⟨c, hst, rfl, rfl, fun _ h => h, fun _ _ m hm => ⟨m, hm, m.le_refl⟩, hdom, fun _ _ h => h, Keep.refl _ _, Keep.refl _ _, Keep.refl _ _, Nat.le_refl _, .int _ _, rfl, fun q => by simp [Obj.noBr]⟩
end Go.Gn

namespace Go.Gn
open Go Go.RowKit Go.Proofs Go.Shelf Go.Lib
theorem heap_setCell (w : World) (b o : Nat) (v : Value) {cur : Array Value} {e : TypeId} {fz : Nat × Nat} (h : w.heap[b]? = some (.cells cur e fz)) : (w.setCell ⟨b, o, none⟩ v).heap[b]? = some (.cells (cur.setIfInBounds o v) e fz) := by
 simp only [World.setCell, Array.getElem?_modify]
 simp [h]
theorem heap_setCells (b : Nat) {e : TypeId} {fz : Nat × Nat} : ∀ (vs : List Value) (o : Nat) (w : World) (cur : Array Value), w.heap[b]? = some (.cells cur e fz) → o + vs.length ≤ cur.size →
  ∃ cur', (w.setCells b o vs).heap[b]? = some (.cells cur' e fz) ∧ cur'.size = cur.size ∧ ∀ k : Nat, cur'[k]? = if o ≤ k ∧ k < o + vs.length then vs[k - o]? else cur[k]?
 | [], o, w, cur, h, _ => ⟨cur, h, rfl, fun k => by rw [if_neg (by rintro ⟨h1, h2⟩; simp at h2; omega)]⟩
 | v :: vs, o, w, cur, h, hl => by
  obtain ⟨cur', h1, h2, h3⟩ := heap_setCells b vs (o + 1) (w.setCell ⟨b, o, none⟩ v) _ (heap_setCell w b o v h) (by simp only [List.length_cons] at hl; rw [Array.size_setIfInBounds]; omega)
  refine ⟨cur', h1, by rw [h2, Array.size_setIfInBounds], fun k => ?_⟩
  rw [h3 k]
  simp only [List.length_cons] at hl ⊢
  by_cases hk : o + 1 ≤ k ∧ k < o + 1 + vs.length
  ·rw [if_pos hk, if_pos (by omega), show k - o = (k - (o + 1)) + 1 by omega, List.getElem?_cons_succ]
  ·rw [if_neg hk, Array.getElem?_setIfInBounds]
   by_cases hk2 : o = k
   ·subst hk2
    rw [if_pos rfl, if_pos (by omega), if_pos (by omega), Nat.sub_self, List.getElem?_cons_zero]
   ·rw [if_neg hk2, if_neg (by omega)]
theorem run_copy_cellsN {P : Program} (w : World) (dT sT ty elem : TypeId) (sz : Nat) (b o dLen dCap : Nat) (a : Addr) (sLen sCap : Nat) (cs : List Value)
  (hu : P.underlying dT = some (.slice elem)) (hs : (P.info? elem).map (·.size) = some sz) (hn : cs.length = Nat.min sLen dLen * sz)
  (hsrc : ∀ j v, cs[j]? = some v → w.cell? (a.add j) = some v) (hc : ∀ j, j < cs.length → (w.cell? ⟨b, o + j, none⟩).isSome = true) (hf : ∀ j, j < cs.length → w.frozen? ⟨b, o + j, none⟩ = false) (h1 : ∀ v ∈ cs, v.oneCell' = true) :
  (Builtin.copy_ #[dT, sT] ty #[.slice (some ⟨b, o, none⟩) dLen dCap, .slice (some a) sLen sCap]).run P w = .ok (goInt (Nat.min sLen dLen)) (w.setCells b o cs) := by
 have hl := run_loadCells_list (P := P) w a cs hsrc
 have hst := run_storeCells_cells (P := P) b o cs 0 w (by simpa using hc) (by simpa using hf) h1
 cases hq : P.info? elem with
 | none => simp [hq] at hs
 | some i =>
  have hi : i.size = sz := by simpa [hq] using hs
  rw [hn] at hl
  simp [Builtin.copy_, run_underlying hu, Builtin.lenOf, Builtin.firstCells, sizeOf, typeInfo, hq, hi, hl, hst]
theorem X.vol : ∃ i, Tryz.prog.info? 105 = some i ∧ i.zero = some (.agg #[.string ⟨#[]⟩, .slice none 0 0] : Value) ∧ i.size = 2 ∧ i.bytes = 40 := by
 have hin : (Tryz.prog.info? 105).map (fun i => (i.zero, i.size, i.bytes)) = some (some (.agg #[.string ⟨#[]⟩, .slice none 0 0] : Value), 2, 40) := by kernel_rfl
 obtain ⟨i0, hi, hz⟩ := Option.map_eq_some_iff.1 hin
 exact ⟨i0, hi, congrArg Prod.fst hz, congrArg (fun x => x.2.1) hz, congrArg (fun x => x.2.2) hz⟩
theorem X.szof (w : World) : Sem.run Tryz.prog (Go.sizeOf 105) w = .ok 2 w := by
 obtain ⟨i0, hi, _, h1, _⟩ := X.vol
 simp [sizeOf, typeInfo, hi, h1]
set_option maxHeartbeats 40000000 in
set_option maxRecDepth 100000 in
theorem insert_shift (b n c i vb vc : Nat) (cs vs : List Value) (w : World) (hi : i < n) (hroom : n + 1 ≤ c) (hc63 : n ≤ 140737488355328) (hvb : vb ≠ b)
  (hcl : cs.length = n * 2) (hvl : vs.length = 2)
  (hcs : ∀ j v, cs[j]? = some v → w.cell? ⟨b, j, none⟩ = some v) (hsp : ∀ j, j < (n + 1) * 2 → (w.cell? ⟨b, j, none⟩).isSome = true) (hfz : ∀ j, w.frozen? ⟨b, j, none⟩ = false)
  (hvs : ∀ j v, vs[j]? = some v → w.cell? ⟨vb, j, none⟩ = some v) (h1c : ∀ v ∈ cs, v.oneCell' = true) (h1v : ∀ v ∈ vs, v.oneCell' = true)
  (tA tB : TypeId) (kA kB : Nat) (hsa : w.shape? vb = some (tA, kA)) (hsb : w.shape? b = some (tB, kB)) (hkB : kB ≠ 0) (hfa : ∀ j, w.frozen? ⟨vb, j, none⟩ = false) :
  Calls Tryz.prog 205 #[.slice (some ⟨b, 0, none⟩) n c, .int .i64 i, .slice (some ⟨vb, 0, none⟩) 1 vc] w fun e w' =>
   e = .returned (.slice (some ⟨b, 0, none⟩) (n + 1) c) ∧ w' = (w.drew.setCells b ((i + 1) * 2) (cs.drop (i * 2))).setCells b (i * 2) vs := by
 have mixed := X.mixed
 have t52 := Tryz.underlying46
 obtain ⟨i0, hi0, hz0, hzs, hzb⟩ := X.vol
 have hsz : (Tryz.prog.info? 105).map (·.size) = some 2 := by rw [hi0]; simp [hzs]
 have hz2 : ¬ ((i : Int) = (n : Int)) := by omega
 have hov : ∀ lb cb, (callFunc 218 #[.slice (some ⟨vb, 0, none⟩) 1 vc, .slice (some ⟨b, (i + 1) * 2, none⟩) lb cb]).run Tryz.prog w = .ok (.value (.bool false)) w := fun lb cb => by
  rw [run_callFunc_extern Tryz.func218 (by kernel_rfl) (by kernel_rfl) (by kernel_rfl) (e := Extern.SlicesOverlaps.overlaps #[46, 46] #[4]) (by kernel_rfl),
   Lib.run_overlaps_apart w 46 4 105 t52 2 X.szof ⟨vb, 0, none⟩ ⟨b, (i + 1) * 2, none⟩ 1 vc lb cb hvb tA tB kA kB hsa hsb hkB (hfa 0) (hfa kA)]
  rfl
 have hdl : (cs.drop (i * 2)).length = (n - i) * 2 := by rw [List.length_drop, hcl]; omega
 have hw1 : IntKind.i64.wrap ((i : Int) + 1) = (i : Int) + 1 := by rw [IntKind.wrap_i64]; omega
 have hb1 : (0 : Int) ≤ (i : Int) + 1 := by omega
 have hin : i ≤ n := by omega
 have htn : ((i : Int) + 1).toNat = i + 1 := by omega
 have hb2 : ¬ (c = i + 1) := by omega
 have hb3 : (i : Int) ≤ (n : Int) + 1 := by omega
 have hb4 : ¬ (c = i) := by omega
 have hcp1 : ∀ ty dc sc, (Builtin.copy_ #[46, 46] ty #[.slice (some ⟨b, (i + 1) * 2, none⟩) (n - i) dc, .slice (some ⟨b, i * 2, none⟩) (n + 1 - i) sc]).run Tryz.prog w.drew = .ok (goInt (Nat.min (n + 1 - i) (n - i))) (w.drew.setCells b ((i + 1) * 2) (cs.drop (i * 2))) := fun ty dc sc =>
  run_copy_cellsN w.drew _ _ ty 105 2 b ((i + 1) * 2) (n - i) dc ⟨b, i * 2, none⟩ (n + 1 - i) sc (cs.drop (i * 2)) t52 hsz (by rw [hdl]; simp only [Nat.min_def]; split <;> omega)
   (fun j v hj => by rw [Addr.add_lit]; exact hcs (i * 2 + j) v (by rwa [List.getElem?_drop] at hj))
   (fun j hj => hsp _ (by omega)) (fun j hj => hfz _) (fun v hv => h1c v (List.mem_of_mem_drop hv))
 obtain ⟨W1, hW1⟩ : ∃ W1, W1 = w.drew.setCells b ((i + 1) * 2) (cs.drop (i * 2)) := ⟨_, rfl⟩
 have hsp1 : ∀ k, k < (n + 1) * 2 → (W1.cell? ⟨b, k, none⟩).isSome = true := fun k hk => by
  rw [hW1]
  exact isSome_setCells b (cs.drop (i * 2)) ((i + 1) * 2) w.drew (fun j hj => hsp _ (by rw [hdl] at hj; omega)) _ (hsp k hk)
 have hcp2 : ∀ (W : World), (∀ x, W.cell? x = W1.cell? x) → (∀ x, W.frozen? x = W1.frozen? x) → ∀ ty dc, (Builtin.copy_ #[46, 46] ty #[.slice (some ⟨b, i * 2, none⟩) (n + 1 - i) dc, .slice (some ⟨vb, 0, none⟩) 1 vc]).run Tryz.prog W = .ok (goInt (Nat.min 1 (n + 1 - i))) (W.setCells b (i * 2) vs) := fun W hWc hWf ty dc =>
  run_copy_cellsN W _ _ ty 105 2 b (i * 2) (n + 1 - i) dc ⟨vb, 0, none⟩ 1 vc vs t52 hsz (by rw [hvl]; simp only [Nat.min_def]; split <;> omega)
   (fun j v hj => by
    rw [Addr.add_lit, hWc, hW1, World.cell?_setCells_out b _ _ _ _ (fun h _ => absurd h hvb), Nat.zero_add]
    exact hvs j v hj)
   (fun j hj => by rw [hWc]; exact hsp1 _ (by omega)) (fun j hj => by rw [hWf, hW1, World.frozen?_setCells]; exact hfz _) h1v
 rw [← hW1] at hcp1
 go_enter Tryz.func205, Tryz.ntmps205
 go_wp2_with (simp only [hov])
 go_region_law_o (refine step_copy_runI rfl _ _ 46 46 rfl _ _ (by simp [Act.eval, Act.put]) (by simp [Act.eval, Act.put]) (hcp1 _ _ _) ?_)
 go_wp2_with (at_builtin; refine wpList_copy_runI _ rfl _ _ 46 46 rfl _ _ rfl rfl (hcp2 _ (fun _ => rfl) (fun _ => rfl) _ _) ?_)
 go_ret
 first | exact ⟨rfl, rfl⟩ | exact ⟨rfl, by rw [hW1]⟩
end Go.Gn

namespace Go.Gn
open Go Go.RowKit Go.Proofs Go.Shelf Go.Lib
set_option maxHeartbeats 4000000 in
set_option maxRecDepth 100000 in
theorem insert_end_room (b n c vb vc : Nat) (vs : List Value) (w : World) (hroom : n + 1 ≤ c) (hc63 : n ≤ 140737488355328)
  (hvl : vs.length = 2) (hsp : ∀ j, j < 2 → (w.cell? ⟨b, n * 2 + j, none⟩).isSome = true) (hfz : ∀ j, w.frozen? ⟨b, j, none⟩ = false)
  (hvs : ∀ j v, vs[j]? = some v → w.cell? ⟨vb, j, none⟩ = some v) (h1v : ∀ v ∈ vs, v.oneCell' = true) :
  Calls Tryz.prog 205 #[.slice (some ⟨b, 0, none⟩) n c, .int .i64 n, .slice (some ⟨vb, 0, none⟩) 1 vc] w fun e w' =>
   e = .returned (.slice (some ⟨b, 0, none⟩) (n + 1) c) ∧ w' = w.setCells b (n * 2) vs := by
 have mixed := X.mixed
 have t52 := Tryz.underlying46
 obtain ⟨i0, hi0, hz0, hzs, hzb⟩ := X.vol
 have hrun : ∀ ty, (Builtin.append_ #[46, 46] ty #[.slice (some ⟨b, 0, none⟩) n c, .slice (some ⟨vb, 0, none⟩) 1 vc]).run Tryz.prog w = .ok (.slice (some ⟨b, 0, none⟩) (n + 1) c) (w.setCells b (n * 2) vs) := fun ty => by
  have h := run_append_room_cells (P := Tryz.prog) w 46 ty 105 i0 t52 hi0 b 0 n c ⟨vb, 0, none⟩ 1 vc vs (by rw [hvl, hzs]) (fun j u hj => by rw [Addr.add_lit, Nat.zero_add]; exact hvs j u hj) h1v hroom
   (fun j hj => by rw [hzs, Nat.zero_add]; exact hsp j (by omega)) (fun j hj => hfz _)
  rw [hzs, Nat.zero_add] at h
  exact h
 go_enter Tryz.func205, Tryz.ntmps205
 go_wp2_with (at_builtin; refine Lib.wpList_append_run _ rfl _ _ _ _ rfl _ _ rfl rfl _ _ (hrun _) ?_)
 go_ret
 exact ⟨rfl, rfl⟩
set_option maxHeartbeats 4000000 in
set_option maxRecDepth 100000 in
theorem insert_end_grow (base : Option Addr) (n c vb vc : Nat) (cs vs : List Value) (w : World) (hnc : n ≤ c) (hroom : c < n + 1) (hbig : (n + 1) * 40 ≤ 140737488355328)
  (hcl : cs.length = n * 2) (hvl : vs.length = 2) (hnil : base = none → n = 0)
  (hcs : ∀ a, base = some a → ∀ j v, cs[j]? = some v → w.cell? (a.add j) = some v)
  (hvs : ∀ j v, vs[j]? = some v → w.cell? ⟨vb, j, none⟩ = some v) (h1v : ∀ v ∈ vs, v.oneCell' = true) :
  Calls Tryz.prog 205 #[.slice base n c, .int .i64 n, .slice (some ⟨vb, 0, none⟩) 1 vc] w fun e w' =>
   e = .returned (.slice (some ⟨w.heap.size, 0, none⟩) (n + 1) (grownCap w (n + 1) c 105)) ∧
   w' = w.drew.alloc (.cells ((cs ++ vs).toArray ++ Builtin.zeroCells (Value.agg #[.string ⟨#[]⟩, .slice none 0 0]).cells (grownCap w (n + 1) c 105 - (n + 1))) 105) := by
 have mixed := X.mixed
 have t52 := Tryz.underlying46
 obtain ⟨i0, hi0, hz0, hzs, hzb⟩ := X.vol
 have hsrc : Src Tryz.prog i0.size 46 (.slice (some ⟨vb, 0, none⟩) 1 vc) 1 vs w := by
  rw [hzs]
  exact Src.ofSlice w t52 ⟨vb, 0, none⟩ 1 vc vs (by omega) (fun j u hj => by rw [Addr.add_lit, Nat.zero_add]; exact hvs j u hj) h1v
 have hold : (Builtin.firstCells i0.size n (.slice base n c)).run Tryz.prog w.drew = .ok cs.toArray w.drew := by
  rw [hzs]
  cases base with
  | none =>
   have h0 := hnil rfl
   subst h0
   rw [List.length_eq_zero_iff.1 hcl]
   exact run_firstCells_none w.drew 2 0 0 c
  | some a => exact run_firstCells_some w.drew 2 n a n c cs (by omega) (fun j v hj => hcs a rfl j v hj)
 have hrun : ∀ ty, (Builtin.append_ #[46, 46] ty #[.slice base n c, .slice (some ⟨vb, 0, none⟩) 1 vc]).run Tryz.prog w = _ := fun ty =>
  run_append_grow_src w 46 46 ty 105 i0 _ t52 hi0 hz0 base n c cs hold _ 1 vs hsrc hroom (by omega) (by rw [hzb]; exact growslice_fits hroom hbig)
 go_enter Tryz.func205, Tryz.ntmps205
 cases base with
 | none =>
  have h0 := hnil rfl
  subst h0
  go_wp2_with (at_builtin; refine Lib.wpList_append_run _ rfl _ _ _ _ rfl _ _ rfl rfl _ _ (hrun _) ?_)
  go_ret
  exact ⟨rfl, rfl⟩
 | some a =>
  obtain ⟨ab, ao, asp⟩ := a
  go_wp2_with (at_builtin; refine Lib.wpList_append_run _ rfl _ _ _ _ rfl _ _ rfl rfl _ _ (hrun _) ?_)
  all_goals (go_ret; exact ⟨rfl, rfl⟩)
set_option maxHeartbeats 4000000 in
set_option maxRecDepth 100000 in
theorem insert_grow (b n c i vb vc : Nat) (cs vs : List Value) (w : World) (hi : i < n) (hnc : n ≤ c) (hroom : c < n + 1) (hbig : (n + 1) * 40 ≤ 140737488355328)
  (hcl : cs.length = n * 2) (hvl : vs.length = 2)
  (hcs : ∀ j v, cs[j]? = some v → w.cell? ⟨b, j, none⟩ = some v)
  (hvs : ∀ j v, vs[j]? = some v → w.cell? ⟨vb, j, none⟩ = some v) (h1c : ∀ v ∈ cs, v.oneCell' = true) (h1v : ∀ v ∈ vs, v.oneCell' = true) :
  Calls Tryz.prog 205 #[.slice (some ⟨b, 0, none⟩) n c, .int .i64 i, .slice (some ⟨vb, 0, none⟩) 1 vc] w fun e w' =>
   ∃ ROW : Array Value, e = .returned (.slice (some ⟨w.heap.size, 0, none⟩) (n + 1) (grownCap w (n + 1) c 105)) ∧ ROW.size = grownCap w (n + 1) c 105 * 2 ∧ (∀ k, k < i * 2 → ROW[k]? = cs[k]?) ∧
   w' = (((w.alloc (.cells ROW 105)).drew.setCells w.heap.size (i * 2) vs).drew).setCells w.heap.size ((i + 1) * 2) (cs.drop (i * 2)) := by
 have mixed := X.mixed
 have t52 := Tryz.underlying46
 have t3 := Tryz.underlying3
 obtain ⟨i0, hi0, hz0, hzs, hzb⟩ := X.vol
 have hz2 : ¬ ((i : Int) = (n : Int)) := by omega
 have hz3 : (c : Int) < (n : Int) + 1 := by omega
 have hsz : (Tryz.prog.info? 105).map (·.size) = some 2 := by rw [hi0]; simp [hzs]
 have hbw : b < w.heap.size := block_lt_of_cell (hcs 0 _ (List.getElem?_eq_getElem (by omega)))
 have hvw : vb < w.heap.size := block_lt_of_cell (hvs 0 _ (List.getElem?_eq_getElem (by omega)))
 have hkk : (n : Int) + 1 - (i : Int) = ((n + 1 - i : Nat) : Int) := by omega
 have hik : i + (n + 1 - i) = n + 1 := by omega
 have hold : (Builtin.firstCells i0.size i (.slice (some ⟨b, 0, none⟩) i c)).run Tryz.prog w.drew = .ok (cs.take (i * 2)).toArray w.drew := by
  rw [hzs]
  exact run_firstCells_some w.drew 2 i ⟨b, 0, none⟩ i c (cs.take (i * 2)) (by rw [List.length_take]; omega) (fun j v hj => by
   rw [Addr.add_lit, Nat.zero_add]
   rw [List.getElem?_take] at hj
   split at hj
   ·exact hcs j v hj
   ·cases hj)
 have hrz : ∀ ty, (Builtin.append_ #[46, 3] ty #[.slice (some ⟨b, 0, none⟩) i c, .int .i64 ((n : Int) + 1 - (i : Int))]).run Tryz.prog w =
   .ok (.slice (some ⟨w.heap.size, 0, none⟩) (n + 1) (grownCap w (n + 1) c 105)) (w.drew.alloc (.cells ((cs.take (i * 2)).toArray ++ Builtin.zeroCells (Value.agg #[.string ⟨#[]⟩, .slice none 0 0]).cells (n + 1 - i) ++ Builtin.zeroCells (Value.agg #[.string ⟨#[]⟩, .slice none 0 0]).cells (grownCap w (n + 1) c 105 - (n + 1))) 105)) := fun ty => by
  have h := Lib.run_append_grow_zeros w 46 3 ty 105 i0 _ .i64 .i64 t52 t3 hi0 hz0 (some ⟨b, 0, none⟩) i c (cs.take (i * 2)) hold (n + 1 - i) (by omega) (by omega) (by omega) (by omega) (by rw [hzb]; omega) (by rw [hzb, hik]; exact growslice_fits hroom hbig)
  rw [hik] at h
  rw [hkk]
  exact h
 obtain ⟨G, hG⟩ : ∃ G, G = grownCap w (n + 1) c 105 := ⟨_, rfl⟩
 obtain ⟨ROW, hROW⟩ : ∃ ROW : Array Value, ROW = (cs.take (i * 2)).toArray ++ Builtin.zeroCells (Value.agg #[.string ⟨#[]⟩, .slice none 0 0]).cells (n + 1 - i) ++ Builtin.zeroCells (Value.agg #[.string ⟨#[]⟩, .slice none 0 0]).cells (G - (n + 1)) := ⟨_, rfl⟩
 rw [← hG] at hrz ⊢
 rw [← hROW] at hrz
 have hGn : n + 1 ≤ G := by rw [hG]; exact grownCap_ge w _ _ _
 have hRs : ROW.size = G * 2 := by
  rw [hROW]
  simp [Builtin.zeroCells, Value.cells]
  omega
 have hRt : ∀ k, k < i * 2 → ROW[k]? = cs[k]? := fun k hk => by
  rw [hROW, Array.getElem?_append_left (by simp [Builtin.zeroCells, Value.cells]; omega), Array.getElem?_append_left (by simp; omega)]
  simp [List.getElem?_take, hk]
 have hRl : (n + 1) * 2 ≤ ROW.size := by omega
 obtain ⟨W1, hW1⟩ : ∃ W1, W1 = w.drew.alloc (.cells ROW 105) := ⟨_, rfl⟩
 rw [← hW1] at hrz
 have hN : ∀ j, j < (n + 1) * 2 → (W1.cell? ⟨w.heap.size, j, none⟩).isSome = true := fun j hj => by
  rw [hW1, World.cell?_alloc_at (w := w.drew) ROW _ w.heap.size j rfl, Array.getElem?_eq_getElem (by omega)]; rfl
 have hNf : ∀ j, W1.frozen? ⟨w.heap.size, j, none⟩ = false := fun j => by rw [hW1]; exact World.frozen?_alloc_at (w := w.drew) ROW _ w.heap.size j rfl
 have hOb : ∀ j v, w.cell? ⟨b, j, none⟩ = some v → W1.cell? ⟨b, j, none⟩ = some v := fun j v h => by rw [hW1, World.cell?_alloc_past (w := w.drew) _ b j hbw]; exact h
 have hOv : ∀ j v, w.cell? ⟨vb, j, none⟩ = some v → W1.cell? ⟨vb, j, none⟩ = some v := fun j v h => by rw [hW1, World.cell?_alloc_past (w := w.drew) _ vb j hvw]; exact h
 have hcpA : ∀ (W : World), (∀ x, W.cell? x = W1.cell? x) → (∀ x, W.frozen? x = W1.frozen? x) → ∀ ty dc, (Builtin.copy_ #[46, 46] ty #[.slice (some ⟨w.heap.size, i * 2, none⟩) (n + 1 - i) dc, .slice (some ⟨vb, 0, none⟩) 1 vc]).run Tryz.prog W = .ok (goInt (Nat.min 1 (n + 1 - i))) (W.setCells w.heap.size (i * 2) vs) := fun W hWc hWf ty dc =>
  run_copy_cellsN W _ _ ty 105 2 w.heap.size (i * 2) (n + 1 - i) dc ⟨vb, 0, none⟩ 1 vc vs t52 hsz (by rw [hvl]; simp only [Nat.min_def]; split <;> omega)
   (fun j v hj => by rw [Addr.add_lit, hWc, Nat.zero_add]; exact hOv _ v (hvs j v hj))
   (fun j hj => by rw [hWc]; exact hN _ (by omega)) (fun j hj => by rw [hWf]; exact hNf _) h1v
 have hG63 : G ≤ 9223372036854775807 := by
  have := grownCap_le_maxLen w (n + 1) c 105 (by unfold maxLen; omega)
  rw [← hG] at this
  unfold maxLen at this
  omega
 have hGi : ¬ (G = i) := by omega
 have hGim : ¬ (G = i + 1) := by omega
 have hci : ¬ (c = i) := by omega
 have hbN : b ≠ w.heap.size := by omega
 have hdl : (cs.drop (i * 2)).length = (n - i) * 2 := by rw [List.length_drop, hcl]; omega
 have hcpB : ∀ (W : World), (∀ x, W.cell? x = (W1.setCells w.heap.size (i * 2) vs).cell? x) → (∀ x, W.frozen? x = (W1.setCells w.heap.size (i * 2) vs).frozen? x) → ∀ ty dc sc, (Builtin.copy_ #[46, 46] ty #[.slice (some ⟨w.heap.size, (i + 1) * 2, none⟩) (n - i) dc, .slice (some ⟨b, i * 2, none⟩) (n - i) sc]).run Tryz.prog W = .ok (goInt (Nat.min (n - i) (n - i))) (W.setCells w.heap.size ((i + 1) * 2) (cs.drop (i * 2))) := fun W hWc hWf ty dc sc =>
  run_copy_cellsN W _ _ ty 105 2 w.heap.size ((i + 1) * 2) (n - i) dc ⟨b, i * 2, none⟩ (n - i) sc (cs.drop (i * 2)) t52 hsz (by rw [hdl]; simp only [Nat.min_def]; split <;> rfl)
   (fun j v hj => by
    rw [Addr.add_lit, hWc, World.cell?_setCells_out _ _ _ _ _ (fun h _ => absurd h hbN)]
    exact hOb _ v (hcs (i * 2 + j) v (by rwa [List.getElem?_drop] at hj)))
   (fun j hj => by rw [hWc]; exact isSome_setCells _ _ _ _ (fun t ht => hN _ (by omega)) _ (hN _ (by omega)))
   (fun j hj => by rw [hWf, World.frozen?_setCells]; exact hNf _) (fun v hv => h1c v (List.mem_of_mem_drop hv))
 subst hW1
 have hE1 : ∀ x, ((w.alloc (.cells ROW 105)).drew).cell? x = (w.drew.alloc (.cells ROW 105)).cell? x := fun x => rfl
 have hE2 : ∀ x, ((w.alloc (.cells ROW 105)).drew).frozen? x = (w.drew.alloc (.cells ROW 105)).frozen? x := fun x => rfl
 have hF1 : ∀ x, (((w.alloc (.cells ROW 105)).drew.setCells w.heap.size (i * 2) vs).drew).cell? x = ((w.drew.alloc (.cells ROW 105)).setCells w.heap.size (i * 2) vs).cell? x := fun x => rfl
 have hF2 : ∀ x, (((w.alloc (.cells ROW 105)).drew.setCells w.heap.size (i * 2) vs).drew).frozen? x = ((w.drew.alloc (.cells ROW 105)).setCells w.heap.size (i * 2) vs).frozen? x := fun x => rfl
 have hw1 : IntKind.i64.wrap ((i : Int) + 1) = (i : Int) + 1 := by rw [IntKind.wrap_i64]; omega
 have hb1 : (0 : Int) ≤ (i : Int) + 1 := by omega
 have hin : i ≤ n := by omega
 have htn : ((i : Int) + 1).toNat = i + 1 := by omega
 have hb3 : (i : Int) ≤ (n : Int) := by omega
 clear hkk hik hold hROW hG hRl
 go_enter Tryz.func205, Tryz.ntmps205
 go_wp2_with (first
  | (at_builtin; refine Lib.wpList_append_run _ rfl _ _ _ _ rfl _ _ rfl rfl _ _ (hrz _) ?_)
  | (at_builtin; refine wpList_copy_runI _ rfl _ _ 46 46 rfl _ _ rfl rfl (hcpA _ hE1 hE2 _ _) ?_)
  | (at_builtin; refine wpList_copy_runI _ rfl _ _ 46 46 rfl _ _ rfl rfl (hcpB _ (fun _ => rfl) (fun _ => rfl) _ _ _) ?_))
 go_region_law_o (refine step_copy_runI rfl _ _ 46 46 rfl (.slice (some ⟨w.heap.size, (i + 1) * 2, none⟩) (n - i) (G - (i + 1))) (.slice (some ⟨b, i * 2, none⟩) (n - i) (c - i)) (by simp [Act.eval, Act.put]) (by simp [Act.eval, Act.put]) (hcpB _ hF1 hF2 3 (G - (i + 1)) (c - i)) ?_)
 go_wp2
 go_ret
 exact ⟨ROW, rfl, hRs, hRt, rfl⟩
end Go.Gn

namespace Go.Gn
open Go Go.RowKit Go.Proofs Go.Shelf Go.Lib
theorem drew_heap (w : World) : w.drew.heap = w.heap := rfl
structure InsR (w w' : World) (blk : Option Nat) (n i : Nat) (cs vs : List Value) (v : Value) : Prop where
 ex : ∃ g cap arr e, v = .slice (some ⟨g, 0, none⟩) (n + 1) cap ∧ n + 1 ≤ cap ∧ w'.heap[g]? = some (.cells arr e (0, 0)) ∧ arr.size = cap * 2 ∧ (∀ j, j < i * 2 → arr[j]? = cs[j]?) ∧ (∀ j, j < 2 → arr[i * 2 + j]? = vs[j]?) ∧ (∀ j, i * 2 ≤ j → j < n * 2 → arr[j + 2]? = cs[j]?) ∧ (blk = some g ∨ w.heap.size ≤ g)
 size : w.heap.size ≤ w'.heap.size
 same : w'.os = w.os ∧ w'.tape = w.tape ∧ w'.output = w.output
 other : ∀ k, k < w.heap.size → blk ≠ some k → w'.heap[k]? = w.heap[k]?
theorem tape_setCells (b : Nat) : ∀ (vs : List Value) (o : Nat) (w : World), (w.setCells b o vs).tape = w.tape
 | [], _, _ => rfl
 | v :: vs, o, w => by rw [World.setCells, tape_setCells b vs]; rfl
theorem os_setCells' (b : Nat) : ∀ (vs : List Value) (o : Nat) (w : World), (w.setCells b o vs).os = w.os
 | [], _, _ => rfl
 | v :: vs, o, w => by rw [World.setCells, os_setCells' b vs]; rfl
theorem output_setCells' (b : Nat) : ∀ (vs : List Value) (o : Nat) (w : World), (w.setCells b o vs).output = w.output
 | [], _, _ => rfl
 | v :: vs, o, w => by rw [World.setCells, output_setCells' b vs]; rfl
theorem alloc_heap (w : World) (o : Go.Obj) : (w.alloc o).heap = w.heap.push o := rfl
theorem size_setCells' (b : Nat) : ∀ (vs : List Value) (o : Nat) (w : World), (w.setCells b o vs).heap.size = w.heap.size
 | [], _, _ => rfl
 | v :: vs, o, w => by rw [World.setCells, size_setCells' b vs]; simp [World.setCell]
theorem other_setCells (b : Nat) {k : Nat} (hk : k ≠ b) : ∀ (vs : List Value) (o : Nat) (w : World), (w.setCells b o vs).heap[k]? = w.heap[k]?
 | [], _, _ => rfl
 | v :: vs, o, w => by
  rw [World.setCells, other_setCells b hk vs]
  simp only [World.setCell, Array.getElem?_modify]
  rw [if_neg (fun e => hk e.symm)]
theorem insert_all {w : World} {blk : Option Nat} {n c i vb vc : Nat} {cs vs : List Value} {cur va : Array Value} {e ev : TypeId} (hi : i ≤ n) (hnc : n ≤ c) (hc0 : blk = none → c = 0) (hc63 : n ≤ 140737488355328) (hbig : (n + 1) * 40 ≤ 140737488355328)
  (hcur : ∀ b : Nat, blk = some b → w.heap[b]? = some (.cells cur e (0, 0)) ∧ cur.size = c * 2) (hcl : cs.length = n * 2) (hcs : ∀ (j : Nat) (v : Value), cs[j]? = some v → blk ≠ none → cur[j]? = some v) (h1c : ∀ v ∈ cs, v.oneCell' = true)
  (hva : w.heap[vb]? = some (.cells va ev (0, 0))) (hvb : blk ≠ some vb) (hvl : vs.length = 2) (hvs : ∀ (j : Nat) (v : Value), vs[j]? = some v → va[j]? = some v) (h1v : ∀ v ∈ vs, v.oneCell' = true) :
  Calls Tryz.prog 205 #[.slice (blk.map mk0) n c, .int .i64 i, .slice (some ⟨vb, 0, none⟩) 1 vc] w fun en w' => ∃ v, en = .returned v ∧ InsR w w' blk n i cs vs v := by
 have hvs' : ∀ j v, vs[j]? = some v → w.cell? ⟨vb, j, none⟩ = some v := fun j v hj => by simp [World.cell?, hva, hvs j v hj]
 have hfz : ∀ {b : Nat} {a : Array Value} {t : TypeId}, w.heap[b]? = some (.cells a t (0, 0)) → ∀ j, w.frozen? ⟨b, j, none⟩ = false := fun h j => by simp [World.frozen?, h]
 have fin_new : ∀ (cap : Nat) (arr : Array Value) (w' : World), n + 1 ≤ cap → w'.heap[w.heap.size]? = some (.cells arr 105 (0, 0)) → arr.size = cap * 2 → (∀ j, j < i * 2 → arr[j]? = cs[j]?) → (∀ j, j < 2 → arr[i * 2 + j]? = vs[j]?) → (∀ j, i * 2 ≤ j → j < n * 2 → arr[j + 2]? = cs[j]?) →
   w.heap.size ≤ w'.heap.size → (w'.os = w.os ∧ w'.tape = w.tape ∧ w'.output = w.output) → (∀ k, k < w.heap.size → w'.heap[k]? = w.heap[k]?) → InsR w w' blk n i cs vs (.slice (some ⟨w.heap.size, 0, none⟩) (n + 1) cap) :=
  fun cap arr w' h1 h2 h3 h4 h5 h6 h7 h8 h9 => ⟨⟨_, cap, arr, 105, rfl, h1, h2, h3, h4, h5, h6, .inr (Nat.le_refl _)⟩, h7, h8, fun k hk _ => h9 k hk⟩
 have grow_fin : ∀ (base : Option Addr), (base = none → n = 0) → (∀ a, base = some a → ∀ j v, cs[j]? = some v → w.cell? (a.add j) = some v) → i = n → c < n + 1 →
   Calls Tryz.prog 205 #[.slice base n c, .int .i64 n, .slice (some ⟨vb, 0, none⟩) 1 vc] w fun en w' => ∃ v, en = .returned v ∧ InsR w w' blk n i cs vs v := by
  intro base hnil hbc hin hroom
  refine (insert_end_grow base n c vb vc cs vs w hnc hroom hbig hcl hvl hnil hbc hvs' h1v).mono ?_
  rintro en w' ⟨rfl, rfl⟩
  refine ⟨_, rfl, ?_⟩
  have hge := grownCap_ge w (n + 1) c 105
  refine fin_new _ ((cs ++ vs).toArray ++ Builtin.zeroCells (Value.agg #[.string ⟨#[]⟩, .slice none 0 0]).cells (grownCap w (n + 1) c 105 - (n + 1))) _ hge (by simp [alloc_heap, drew_heap]) ?_ ?_ ?_ ?_ (by simp [alloc_heap, drew_heap]) ⟨rfl, rfl, rfl⟩ (fun k hk => ?_)
  ·simp [Builtin.zeroCells, Value.cells]; omega
  ·intro j hj
   rw [Array.getElem?_append_left (by simp; omega)]
   simp only [List.getElem?_toArray]
   rw [List.getElem?_append_left (by omega)]
  ·intro j hj
   rw [Array.getElem?_append_left (by simp; omega)]
   simp only [List.getElem?_toArray]
   rw [List.getElem?_append_right (by omega)]
   congr 1; omega
  ·intro j hj hj2; omega
  ·simp only [alloc_heap, drew_heap]
   rw [Array.getElem?_push_lt hk, Array.getElem?_eq_getElem hk]
 cases blk with
 | none =>
  have h0 := hc0 rfl
  have hn0 : n = 0 := by omega
  have hi0 : i = 0 := by omega
  subst hn0
  subst hi0
  exact grow_fin none (fun _ => rfl) (fun a ha => by cases ha) rfl (by omega)
 | some b =>
  obtain ⟨hb, hbs⟩ := hcur b rfl
  have hcs' : ∀ j v, cs[j]? = some v → w.cell? ⟨b, j, none⟩ = some v := fun j v hj => by simp [World.cell?, hb, hcs j v hj (by simp)]
  have hne : vb ≠ b := fun e => hvb (by rw [e])
  have hbl : b < w.heap.size := (Array.getElem?_eq_some_iff.1 hb).1
  have hsp : ∀ j, j < c * 2 → (w.cell? ⟨b, j, none⟩).isSome = true := fun j hj => by simp [World.cell?, hb]; omega
  have hcc : ∀ j, j < n * 2 → cur[j]? = cs[j]? := fun j hj => by
   rw [List.getElem?_eq_getElem (by omega)]
   exact hcs j _ (List.getElem?_eq_getElem (by omega)) (by simp)
  show Calls Tryz.prog 205 #[.slice (some ⟨b, 0, none⟩) n c, .int .i64 i, .slice (some ⟨vb, 0, none⟩) 1 vc] w _
  by_cases hin : i = n
  ·by_cases hroom : n + 1 ≤ c
   ·subst hin
    refine (insert_end_room b i c vb vc vs w hroom hc63 hvl (fun j hj => hsp _ (by omega)) (hfz hb) hvs' h1v).mono ?_
    rintro en w' ⟨rfl, rfl⟩
    refine ⟨_, rfl, ?_⟩
    obtain ⟨cur', g1, g2, g3⟩ := heap_setCells b vs (i * 2) w cur hb (by omega)
    refine ⟨⟨b, c, cur', e, rfl, hroom, g1, by rw [g2, hbs], fun j hj => ?_, fun j hj => ?_, fun j hj hj2 => by omega, .inl rfl⟩, Nat.le_of_eq (size_setCells' ..).symm, ⟨os_setCells' .., tape_setCells .., output_setCells' ..⟩, fun k hk hkb => other_setCells b (fun e => hkb (by rw [e])) _ _ _⟩
    ·rw [g3, if_neg (by omega)]; exact hcc j (by omega)
    ·rw [g3, if_pos (by omega)]; congr 1; omega
   ·subst hin
    exact grow_fin (some ⟨b, 0, none⟩) (fun h => by cases h) (fun a ha j v hj => by cases ha; rw [Addr.add_lit, Nat.zero_add]; exact hcs' j v hj) rfl (by omega)
  ·by_cases hroom : n + 1 ≤ c
   ·refine (insert_shift b n c i vb vc cs vs w (by omega) hroom hc63 hne hcl hvl hcs' (fun j hj => hsp _ (by omega)) (hfz hb) hvs' h1c h1v ev e va.size cur.size (by simp [World.shape?, hva]) (by simp [World.shape?, hb]) (by omega) (hfz hva)).mono ?_
    rintro en w' ⟨rfl, rfl⟩
    refine ⟨_, rfl, ?_⟩
    have hdl : (cs.drop (i * 2)).length = (n - i) * 2 := by rw [List.length_drop, hcl]; omega
    obtain ⟨cur1, g1, g2, g3⟩ := heap_setCells b (cs.drop (i * 2)) ((i + 1) * 2) w.drew cur hb (by omega)
    obtain ⟨cur2, f1, f2, f3⟩ := heap_setCells b vs (i * 2) _ cur1 g1 (by omega)
    refine ⟨⟨b, c, cur2, e, rfl, hroom, f1, by rw [f2, g2, hbs], fun j hj => ?_, fun j hj => ?_, fun j hj hj2 => ?_, .inl rfl⟩, ?_, ⟨?_, ?_, ?_⟩, fun k hk hkb => ?_⟩
    ·rw [f3, if_neg (by omega), g3, if_neg (by omega)]; exact hcc j (by omega)
    ·rw [f3, if_pos (by omega)]; congr 1; omega
    ·rw [f3, if_neg (by omega), g3, if_pos (by omega), List.getElem?_drop]; congr 1; omega
    ·rw [size_setCells', size_setCells']; exact Nat.le_refl _
    ·rw [os_setCells', os_setCells']; rfl
    ·rw [tape_setCells, tape_setCells]; rfl
    ·rw [output_setCells', output_setCells']; rfl
    ·rw [other_setCells b (fun e => hkb (by rw [e])), other_setCells b (fun e => hkb (by rw [e]))]; rfl
   ·refine (insert_grow b n c i vb vc cs vs w (by omega) hnc (by omega) hbig hcl hvl hcs' hvs' h1c h1v).mono ?_
    rintro en w' ⟨ROW, rfl, hRs, hRt, rfl⟩
    refine ⟨_, rfl, ?_⟩
    have hge := grownCap_ge w (n + 1) c 105
    have hdl : (cs.drop (i * 2)).length = (n - i) * 2 := by rw [List.length_drop, hcl]; omega
    have hal : ((w.alloc (.cells ROW 105)).drew).heap[w.heap.size]? = some (.cells ROW 105 (0, 0)) := by simp [alloc_heap, drew_heap]
    obtain ⟨cur1, g1, g2, g3⟩ := heap_setCells w.heap.size vs (i * 2) _ ROW hal (by omega)
    obtain ⟨cur2, f1, f2, f3⟩ := heap_setCells w.heap.size (cs.drop (i * 2)) ((i + 1) * 2) ((World.setCells _ _ _ _).drew) cur1 g1 (by omega)
    refine fin_new _ cur2 _ hge f1 (by rw [f2, g2, hRs]) (fun j hj => ?_) (fun j hj => ?_) (fun j hj hj2 => ?_) ?_ ⟨?_, ?_, ?_⟩ (fun k hk => ?_)
    ·rw [f3, if_neg (by omega), g3, if_neg (by omega)]; exact hRt j hj
    ·rw [f3, if_neg (by omega), g3, if_pos (by omega)]; congr 1; omega
    ·rw [f3, if_pos (by omega), List.getElem?_drop]; congr 1; omega
    ·rw [size_setCells', drew_heap, size_setCells']; simp [alloc_heap, drew_heap]
    ·rw [os_setCells']; exact os_setCells' ..
    ·rw [tape_setCells]; exact tape_setCells ..
    ·rw [output_setCells']; exact output_setCells' ..
    ·rw [other_setCells _ (by omega), drew_heap, other_setCells _ (by omega)]
     simp only [alloc_heap, drew_heap]
     rw [Array.getElem?_push_lt hk, Array.getElem?_eq_getElem hk]
end Go.Gn

