/- Part 13 of a proof: an evaluator of the program, proved sound, and what it answers. -/
import Derived.Test.YtiicdghimmpjnaaGreatA12
set_option linter.all false
namespace Go.Gn
open Go
set_option linter.unusedVariables false
def ff (xs : List SlotM) : Nat → Int → Int
 | 0, _ => 0
 | m + 1, p => match xs[(p - 1).toNat]? with
  | some x => if x.uses = 0 then p else ff xs m (textNext p)
  | none => 0
def places : Nat → Int → List Int
 | 0, _ => []
 | m + 1, p => p :: places m (textNext p)
theorem places_all {p k : Int} (hp : 1 ≤ p ∧ p ≤ 8) (hk : 1 ≤ k ∧ k ≤ 8) : k ∈ places 8 p := by
 have h1 : p = 1 ∨ p = 2 ∨ p = 3 ∨ p = 4 ∨ p = 5 ∨ p = 6 ∨ p = 7 ∨ p = 8 := by omega
 have h2 : k = 1 ∨ k = 2 ∨ k = 3 ∨ k = 4 ∨ k = 5 ∨ k = 6 ∨ k = 7 ∨ k = 8 := by omega
 rcases h1 with h | h | h | h | h | h | h | h <;> subst h <;> rcases h2 with h | h | h | h | h | h | h | h <;> subst h <;> decide
theorem ff_range {xs : List SlotM} : ∀ (m : Nat) {p : Int}, 1 ≤ p ∧ p ≤ 8 → ff xs m p = 0 ∨ (1 ≤ ff xs m p ∧ ff xs m p ≤ 8 ∧ ∃ x, xs[(ff xs m p - 1).toNat]? = some x ∧ x.uses = 0)
 | 0, p, _ => .inl rfl
 | m + 1, p, hp => by
  rw [ff]
  cases hx : xs[(p - 1).toNat]? with
  | none => exact .inl rfl
  | some x =>
   show (if x.uses = 0 then p else ff xs m (textNext p)) = 0 ∨ _
   by_cases h0 : x.uses = 0
   ·simp only [h0, if_true]
    exact .inr ⟨hp.1, hp.2, x, hx, h0⟩
   ·simp only [h0, if_false]
    exact ff_range m (textNext_range hp.1)
theorem probe_ff {xs : List SlotM} (h8 : xs.length = 8) (t : Str) : ∀ (m : Nat) {p : Int}, 1 ≤ p ∧ p ≤ 8 → probe xs t m p = if ff xs m p = 0 then (xs, 0) else (xs.set (ff xs m p - 1).toNat ⟨t, 1⟩, ff xs m p)
 | 0, p, _ => rfl
 | m + 1, p, hp => by
  obtain ⟨x, hx⟩ := get_some (xs := xs) (i := (p - 1).toNat) (by omega)
  rw [probe, ff, hx]
  show (if x.uses = 0 then _ else _) = _
  by_cases h0 : x.uses = 0
  ·have : p ≠ 0 := by omega
   simp [h0, this]
  ·simp only [h0, if_false]
   exact probe_ff h8 t m (textNext_range hp.1)
theorem findS_miss {xs : List SlotM} (h8 : xs.length = 8) (t : Str) (hn : ∀ x ∈ xs, x.text ≠ t) : ∀ (m : Nat) {p fr : Int}, 1 ≤ p ∧ p ≤ 8 → findS xs t m p fr = (if fr = 0 then ff xs m p else fr, false)
 | 0, p, fr, _ => by
  rw [findS, ff]; split <;> simp_all
 | m + 1, p, fr, hp => by
  obtain ⟨x, hx⟩ := get_some (xs := xs) (i := (p - 1).toNat) (by omega)
  have hxt : seq x.text t = false := by rw [seq_eq]; simpa using hn x (List.mem_of_getElem? hx)
  rw [findS, ff, hx]
  simp only [hxt, Bool.false_eq_true, if_false]
  rw [findS_miss h8 t hn m (textNext_range hp.1)]
  by_cases h0 : x.uses = 0
  ·by_cases h1 : fr = 0
   ·have : p ≠ 0 := by omega
    simp [h0, h1, this]
   ·simp [h0, h1]
  ·simp [h0]
theorem findS_hit {xs : List SlotM} (h8 : xs.length = 8) {t : Str} {j : Nat} {x : SlotM} (hj : xs[j]? = some x) (ht : x.text = t) (hu : ∀ (i : Nat) (y : SlotM), xs[i]? = some y → y.text = t → i = j) : ∀ (m : Nat) {p fr : Int}, 1 ≤ p ∧ p ≤ 8 → (j : Int) + 1 ∈ places m p → findS xs t m p fr = ((j : Int) + 1, true)
 | 0, p, fr, _, hm => by simp [places] at hm
 | m + 1, p, fr, hp, hm => by
  obtain ⟨y, hy⟩ := get_some (xs := xs) (i := (p - 1).toNat) (by omega)
  rw [findS, hy]
  by_cases hyt : y.text = t
  ·have := hu _ y hy hyt
   have hs : seq y.text t = true := by rw [seq_eq]; simpa using hyt
   simp only [hs, if_true]
   have : p = (j : Int) + 1 := by omega
   rw [this]
  ·have hs : seq y.text t = false := by rw [seq_eq]; simpa using hyt
   simp only [hs, Bool.false_eq_true, if_false]
   refine findS_hit h8 hj ht hu m (textNext_range hp.1) ?_
   rcases List.mem_cons.mp hm with e | hm
   ·exfalso
    have : (p - 1).toNat = j := by omega
    rw [this, hj] at hy
    cases hy
    exact hyt ht
   ·exact hm
theorem put_both {xs : List SlotM} {f : Int → Int} (h : SlotI xs f) (hf : ∀ k, f k ≤ 50) {t : Str} (ht : textOk t = true) (hne : t ≠ noText) :
  putS xs t = ((putM xs t).1, (putM xs t).2, decide ((putM xs t).2 > 0)) ∧ 0 ≤ (putM xs t).2 ∧ (putM xs t).2 ≤ 8 ∧ ((putM xs t).2 > 0 → SlotI (putM xs t).1 (fun k => f k + (if (putM xs t).2 = k then 1 else 0))) := by
 have h8 := h.len
 have hp := textPlace_range ht
 cases hf1 : fnd (fun x : SlotM => seq x.text t) xs 0 with
 | none =>
  have hn : ∀ x ∈ xs, x.text ≠ t := fun x hx e => by
   have := fnd_none.mp hf1 x hx
   rw [e, seq_refl] at this; cases this
  have e1 : putM xs t = probe xs t 8 (textPlace t) := by rw [putM, hf1]
  rw [e1, probe_ff h8 t 8 hp, putS, findS_miss h8 t hn 8 hp]
  simp only [if_true]
  rcases ff_range (xs := xs) 8 hp with e0 | ⟨h1, h2, x, hx, hx0⟩
  ·simp only [e0]
   obtain ⟨y, hy⟩ := get_some (xs := xs) (i := ((0 : Int) - 1).toNat) (by simp; omega)
   rw [hy]
   simp
  ·have hne0 : ff xs 8 (textPlace t) ≠ 0 := by omega
   simp only [hx]
   have e2 : ((ff xs 8 (textPlace t) == 0) || decide (x.uses ≥ 99)) = false := by simp [hne0, hx0]
   rw [e2]
   simp only [hne0, if_false, hx0, Bool.false_eq_true]
   have hgt : ff xs 8 (textPlace t) > 0 := by omega
   refine ⟨by simp [hgt], by omega, h2, fun _ => ?_⟩
   refine (h.set (j := (ff xs 8 (textPlace t) - 1).toNat) (by omega) (y := ⟨t, 1⟩) ht (by simp) (by simp [hne]) ?_).congr fun k _ _ => ?_
   ·intro _ i z hz e
    exact absurd e (hn z (List.mem_of_getElem? hz))
   ·have eb : (((ff xs 8 (textPlace t) - 1).toNat : Nat) : Int) + 1 = ff xs 8 (textPlace t) := by omega
    have := h.use _ x hx
    rw [eb] at this
    simp only [eb]
    by_cases hk : k = ff xs 8 (textPlace t)
    ·subst hk; simp; omega
    ·have : ¬ ff xs 8 (textPlace t) = k := fun e => hk e.symm
     simp [hk, this]
 | some j =>
  obtain ⟨_, hj2, x, hx, hs⟩ := fnd_lt hf1
  simp only [Nat.sub_zero] at hx
  have hxt : x.text = t := by rw [seq_eq] at hs; simpa using hs
  have hu : ∀ (i : Nat) (y : SlotM), xs[i]? = some y → y.text = t → i = j := fun i y hy e => h.dis i j y x hy hx (e.trans hxt.symm) (fun e2 => hne (e.symm.trans e2))
  have hm := List.mem_of_getElem? hx
  have huse := h.use j x hx
  have hpos := h.pos x hm
  have hfj := hf ((j : Int) + 1)
  have hu0 : x.uses ≠ 0 := fun e => hne (hxt.symm.trans ((h.emp x hm).mpr e))
  have hu99 : ¬ x.uses = 99 := by omega
  have hu99' : ¬ x.uses ≥ 99 := by omega
  have e1 : putM xs t = (xs.set j x.inc, (j : Int) + 1) := by rw [putM, hf1]; simp only [hx, hu99, if_false]
  have hj8 : j < 8 := by omega
  rw [e1, putS, findS_hit h8 hx hxt hu 8 hp (places_all hp (by omega))]
  have ej : ((j : Int) + 1 - 1).toNat = j := by omega
  simp only [ej, hx]
  have e2 : (((j : Int) + 1 == 0) || decide (x.uses ≥ 99)) = false := by
   have : (j : Int) + 1 ≠ 0 := by omega
   simp [this, hu99']
  rw [e2]
  have hgt : (j : Int) + 1 > 0 := by omega
  simp only [Bool.false_eq_true, if_false]
  refine ⟨by simp [hgt, SlotM.inc, hxt], by omega, by omega, fun _ => ?_⟩
  refine (h.set (j := j) hj8 (y := x.inc) (h.txt x hm) (by simp only [SlotM.inc]; omega) ?_ ?_).congr fun k _ _ => ?_
  ·simp only [SlotM.inc]
   constructor
   ·intro e; exact absurd (hxt.symm.trans e) hne
   ·intro e; omega
  ·simp only [SlotM.inc]
   intro _ i z hz e
   exact hu i z hz (e.trans hxt)
  ·simp only [SlotM.inc]
   by_cases hk : k = (j : Int) + 1
   ·subst hk; simp; omega
   ·have : ¬ (j : Int) + 1 = k := fun e => hk e.symm
    simp [hk, this]
theorem inAll_iff {lo hi : Int} {bs : List Int} : inAll lo hi bs = true ↔ ∀ b ∈ bs, lo ≤ b ∧ b ≤ hi := by
 simp [inAll, inR]
theorem volOk_iff {v : VolM} : volOk v = true ↔ (∀ b ∈ v.blocks, 0 ≤ b ∧ b ≤ 8) ∧ isName v.name = true ∧ 1 ≤ v.blocks.length ∧ v.blocks.length ≤ 6 := by
 rw [volOk]
 simp only [Bool.and_eq_true, inAll_iff, inR, decide_eq_true_eq]
 constructor
 ·rintro ⟨h1, h2, h3, h4⟩; exact ⟨h1, h2, by omega, by omega⟩
 ·rintro ⟨h1, h2, h3, h4⟩; exact ⟨h1, h2, by omega, by omega⟩
theorem sort_set {vs : List VolM} (h : SortV vs) {i : Nat} {v w : VolM} (hv : vs[i]? = some v) (hn : w.name = v.name) : SortV (vs.set i w) := by
 have ⟨hi, e⟩ := List.getElem?_eq_some_iff.mp hv
 refine List.pairwise_iff_getElem.mpr fun a b ha hb hab => ?_
 simp only [List.length_set] at ha hb
 have := List.pairwise_iff_getElem.mp h a b ha hb hab
 rw [List.getElem_set, List.getElem_set]
 by_cases h1 : i = a
 ·subst h1
  have : i ≠ b := by omega
  simp only [if_true, this, if_false]
  rw [hn, ← e]; exact List.pairwise_iff_getElem.mp h i b ha hb hab
 ·by_cases h2 : i = b
  ·subst h2
   simp only [h1, if_false, if_true]
   rw [hn, ← e]; exact this
  ·simp only [h1, h2, if_false]; exact this
theorem sort_del {vs : List VolM} (h : SortV vs) (i : Nat) : SortV (delV vs i) := by
 refine List.Pairwise.sublist ?_ h
 rw [delV]
 have h1 : (vs.take i ++ vs.drop (i + 1)).Sublist (vs.take i ++ vs.drop i) := List.Sublist.append (List.Sublist.refl _) (by rw [← List.drop_drop]; exact List.drop_sublist 1 _)
 rwa [List.take_append_drop] at h1
structure Do1 (p : PoolM) (r s : PoolM × Bool) : Prop where
 e : r = s
 k : s.2 = true → PoolP s.1
theorem make_both {p : PoolM} (h : PoolP p) (nm : Str) (sz : Int) : Do1 p (poolMake p nm sz) (sMake p nm sz) := by
 have eb : sMakeBad p nm sz = makeBad p nm sz := by
  rw [sMakeBad, makeBad, sName_eq]
  cases isName nm <;> cases inR sz 1 6 <;> simp
 cases hb : makeBad p nm sz with
 | true => 
  have e1 : poolMake p nm sz = (p, false) := by rw [poolMake, hb]; rfl
  have e2 : sMake p nm sz = (p, false) := by rw [sMake, eb, hb]; rfl
  exact ⟨by rw [e1, e2], by rw [e2]; intro e; cases e⟩
 | false =>
  have hb2 := hb
  rw [makeBad] at hb2
  simp only [Bool.or_eq_false_iff, Bool.not_eq_false', fndI_nn] at hb2
  obtain ⟨hn, hv, hs⟩ := hb2
  have hv2 : volIx p.vols nm = none := by cases hq : volIx p.vols nm with
   | none => rfl
   | some i => rw [hq] at hv; cases hv
  have hne := volIx_none.mp hv2
  have hi := insV_eq (v := ⟨nm, List.replicate sz.toNat 0⟩) h.nm hn h.o hne
  have e1 : poolMake p nm sz = (⟨p.slots, insS ⟨nm, List.replicate sz.toNat 0⟩ p.vols⟩, true) := by
   rw [poolMake, hb, makeM, hi]; rfl
  have e2 : sMake p nm sz = (⟨p.slots, insS ⟨nm, List.replicate sz.toNat 0⟩ p.vols⟩, true) := by
   rw [sMake, eb, hb]; rfl
  have hso := insS_sort (v := ⟨nm, List.replicate sz.toNat 0⟩) hn h.nm h.o hne
  refine ⟨by rw [e1, e2], fun _ => ?_⟩
  rw [e2]
  refine ⟨h.s.congr fun k hk _ => ?_, fun v hv => ?_, hso.1⟩
  ·rw [sumU_ins, cnt_rep _ _ hk]; omega
  ·rcases (hso.2 v).mp hv with e | hv
   ·rw [e]
    have hs2 : 1 ≤ sz ∧ sz ≤ 6 := by simpa [inR] using hs
    refine volOk_iff.mpr ⟨fun b hb => ?_, hn, ?_, ?_⟩
    ·have := List.eq_of_mem_replicate hb
     omega
    ·simp only [List.length_replicate]; omega
    ·simp only [List.length_replicate]; omega
   ·exact h.v v hv
theorem gone_both {p : PoolM} (h : PoolP p) (nm : Str) : Do1 p (poolGone p nm) (sGone p nm) := by
 refine ⟨rfl, fun hk => ?_⟩
 cases hv : volIx p.vols nm with
 | none => rw [sGone, hv] at hk; cases hk
 | some i =>
  obtain ⟨v, hi, _, _⟩ := volIx_some hv
  have e : (sGone p nm).1 = ⟨freeL p.slots v.blocks, delV p.vols i⟩ := by rw [sGone, hv]; simp only [goM, hi]
  rw [e]
  have hvo := volOk_iff.mp (h.v v (List.mem_of_getElem? hi))
  refine ⟨(freeL_I v.blocks h.s hvo.1 fun k _ => sumU_ge hi).congr fun k _ _ => ?_, fun u hu => h.v u (delV_mem hu), sort_del h.o i⟩
  simp only; rw [sumU_del hi]
theorem clone_both {p : PoolM} (h : PoolP p) (fr to : Str) : Do1 p (poolClone p fr to) (sClone p fr to) := by
 have eb : sCloneBad p fr to = cloneBad p fr to := by rw [sCloneBad, cloneBad, sName_eq]
 cases hb : cloneBad p fr to with
 | true =>
  have e1 : poolClone p fr to = (p, false) := by rw [poolClone, hb]; rfl
  have e2 : sClone p fr to = (p, false) := by rw [sClone, eb, hb]; rfl
  exact ⟨by rw [e1, e2], by rw [e2]; intro e; cases e⟩
 | false =>
  have hb2 := hb
  rw [cloneBad] at hb2
  simp only [Bool.or_eq_false_iff, Bool.not_eq_false', fndI_nn, fndI_neg] at hb2
  obtain ⟨hf, hn, hv⟩ := hb2
  have hv2 : volIx p.vols to = none := by cases hq : volIx p.vols to with
   | none => rfl
   | some i => rw [hq] at hv; cases hv
  cases hq : volIx p.vols fr with
  | none => rw [hq] at hf; cases hf
  | some i =>
   obtain ⟨v, hi, _, _⟩ := volIx_some hq
   have hne := volIx_none.mp hv2
   have ei : (fndI (some i)).toNat = i := rfl
   have hin := insV_eq (v := ⟨to, v.blocks⟩) h.nm hn h.o hne
   have e1 : poolClone p fr to = (⟨incL p.slots v.blocks, insS ⟨to, v.blocks⟩ p.vols⟩, true) := by
    rw [poolClone, hb, hq, ei, clM, hi]
    simp only [hin]; rfl
   have e2 : sClone p fr to = (⟨incL p.slots v.blocks, insS ⟨to, v.blocks⟩ p.vols⟩, true) := by
    rw [sClone, eb, hb, hq, ei, hi]; rfl
   have hso := insS_sort (v := ⟨to, v.blocks⟩) hn h.nm h.o hne
   have hvo := volOk_iff.mp (h.v v (List.mem_of_getElem? hi))
   refine ⟨by rw [e1, e2], fun _ => ?_⟩
   rw [e2]
   refine ⟨(incL_I v.blocks h.s fun b hb => ⟨hvo.1 b hb, fun _ => ?_⟩).congr fun k _ _ => ?_, fun u hu => ?_, hso.1⟩
   ·have h1 := cnt_mem hb
    have h2 := sumU_ge (k := b) hi
    omega
   ·simp only; rw [sumU_ins]; simp only; omega
   ·rcases (hso.2 u).mp hu with e | hu
    ·rw [e]; exact volOk_iff.mpr ⟨hvo.1, hn, hvo.2.2.1, hvo.2.2.2⟩
    ·exact h.v u hu
theorem write_both {p : PoolM} (h : PoolP p) (nm : Str) (b : Int) (t : Str) : Do1 p (poolWrite p nm b t) (sWrite p nm b t) := by
 cases hh : hasB p nm b with
 | none =>
  have e1 : poolWrite p nm b t = (p, false) := by rw [poolWrite, hh]
  have e2 : sWrite p nm b t = (p, false) := by rw [sWrite, hh]
  exact ⟨by rw [e1, e2], by rw [e2]; intro e; cases e⟩
 | some i =>
  cases ht : textOk t with
  | false =>
   have e1 : poolWrite p nm b t = (p, false) := by rw [poolWrite, hh, ht]; rfl
   have e2 : sWrite p nm b t = (p, false) := by rw [sWrite, hh, ht]; rfl
   exact ⟨by rw [e1, e2], by rw [e2]; intro e; cases e⟩
  | true =>
   have e1 : poolWrite p nm b t = if (wrM p i b.toNat t).2 then ((wrM p i b.toNat t).1, true) else (p, false) := by rw [poolWrite, hh, ht]; rfl
   have e2 : sWrite p nm b t = sWr p i b.toNat t := by rw [sWrite, hh, ht]; rfl
   rw [hasB] at hh
   cases hq : volIx p.vols nm with
   | none => rw [hq] at hh; cases hh
   | some i' =>
    obtain ⟨v, hi, hvn, _⟩ := volIx_some hq
    rw [hq] at hh
    simp only [hi] at hh
    cases hr : inR b 0 ((v.blocks.length : Int) - 1) with
    | false => rw [hr] at hh; cases hh
    | true =>
     rw [hr] at hh
     cases hh
     have hr2 : 0 ≤ b ∧ b ≤ (v.blocks.length : Int) - 1 := by simpa [inR] using hr
     obtain ⟨old, ho⟩ := get_some (xs := v.blocks) (i := b.toNat) (by omega)
     have hvo := volOk_iff.mp (h.v v (List.mem_of_getElem? hi))
     have hob := hvo.1 old (List.mem_of_getElem? ho)
     have hmem := cnt_mem (List.mem_of_getElem? ho)
     have hge := sumU_ge (k := old) hi
     have h1 := free_I h.s hob (fun _ => by omega)
     have key : ∀ (new : Int) (xs' : List SlotM), 0 ≤ new ∧ new ≤ 8 → SlotI xs' (fun k => (sumU k p.vols - (if old = k then 1 else 0)) + (if new = k then 1 else 0)) → PoolP ⟨xs', p.vols.set i ⟨v.name, v.blocks.set b.toNat new⟩⟩ := by
      intro new xs' hnew hx
      refine ⟨hx.congr fun k _ _ => ?_, fun u hu => ?_, sort_set h.o hi rfl⟩
      ·simp only; rw [sumU_set hi]; simp only; rw [cnt_set ho]; omega
      ·rcases List.mem_or_eq_of_mem_set hu with hu | e
       ·exact h.v u hu
       ·rw [e]
        refine volOk_iff.mpr ⟨fun c hc => ?_, hvo.2.1, ?_, ?_⟩
        ·rcases List.mem_or_eq_of_mem_set hc with hc | e
         ·exact hvo.1 c hc
         ·rw [e]; exact hnew
        ·simp only [List.length_set]; exact hvo.2.2.1
        ·simp only [List.length_set]; exact hvo.2.2.2
     by_cases hne : t = noText
     ·have hs : seq t noText = true := by rw [hne, seq_refl]
      have e3 : wrM p i b.toNat t = (⟨freeM p.slots old, p.vols.set i ⟨v.name, v.blocks.set b.toNat 0⟩⟩, true) := by
       simp only [wrM, hi, ho, fillM, hs, if_true, Bool.true_or]
      have e4 : sWr p i b.toNat t = (⟨freeM p.slots old, p.vols.set i ⟨v.name, v.blocks.set b.toNat 0⟩⟩, true) := by
       simp only [sWr, hi, ho, hs, if_true]
      refine ⟨by rw [e1, e2, e3, e4]; simp, fun _ => ?_⟩
      rw [e2, e4]
      refine key 0 _ (by omega) (h1.congr fun k hk _ => ?_)
      have : (0 : Int) ≠ k := by omega
      simp [this]
     ·have hs : seq t noText = false := by rw [seq_eq]; simpa using hne
      obtain ⟨hp1, hp2, hp3, hp4⟩ := put_both h1 (fun k => by have := (h.sum k).2; split <;> omega) ht hne
      have e3 : wrM p i b.toNat t = (⟨(putM (freeM p.slots old) t).1, p.vols.set i ⟨v.name, v.blocks.set b.toNat (putM (freeM p.slots old) t).2⟩⟩, decide ((putM (freeM p.slots old) t).2 > 0)) := by
       simp only [wrM, hi, ho, fillM, hs, Bool.false_eq_true, if_false, Bool.false_or]
      have e4 : sWr p i b.toNat t = if decide ((putM (freeM p.slots old) t).2 > 0) then (⟨(putM (freeM p.slots old) t).1, p.vols.set i ⟨v.name, v.blocks.set b.toNat (putM (freeM p.slots old) t).2⟩⟩, true) else (p, false) := by
       simp only [sWr, hi, ho, hs, Bool.false_eq_true, if_false, hp1]
      by_cases hgt : (putM (freeM p.slots old) t).2 > 0
      ·have hd : decide ((putM (freeM p.slots old) t).2 > 0) = true := by simpa using hgt
       refine ⟨by rw [e1, e2, e3, e4, hd], fun _ => ?_⟩
       rw [e2, e4, hd]
       exact key _ _ ⟨hp2, hp3⟩ (hp4 hgt)
      ·have hd : decide ((putM (freeM p.slots old) t).2 > 0) = false := by simpa using hgt
       refine ⟨by rw [e1, e2, e3, e4, hd], fun hk => ?_⟩
       rw [e2, e4, hd] at hk
       cases hk
theorem sOpOk_eq (o : OpM) : sOpOk o = opOk o := by
 rw [sOpOk, opOk, sName_eq, sName_eq, okK, want, opEq]
 by_cases h1 : o.kind = 1
 ·simp only [h1, if_true, seq_refl, seq_eq, beq_self_eq_true, Bool.true_and]
  cases isName o.name <;> cases decide (o.to = noText) <;> cases decide (o.text = noText) <;> simp
 ·by_cases h2 : o.kind = 2
  ·simp only [h2, if_true, seq_refl, seq_eq, beq_self_eq_true, Bool.true_and, (by decide : ¬ (2 : Int) = 1), if_false]
   cases isName o.name <;> cases decide (o.to = noText) <;> cases decide (o.text = noText) <;> simp
  ·by_cases h3 : o.kind = 3
   ·simp only [h3, if_true, seq_refl, seq_eq, beq_self_eq_true, Bool.true_and, (by decide : ¬ (3 : Int) = 1), (by decide : ¬ (3 : Int) = 2), if_false]
    cases isName o.name <;> simp
   ·by_cases h4 : o.kind = 4
    ·simp only [h4, if_true, seq_refl, seq_eq, beq_self_eq_true, Bool.true_and, (by decide : ¬ (4 : Int) = 1), (by decide : ¬ (4 : Int) = 2), (by decide : ¬ (4 : Int) = 3), if_false]
    ·simp only [h1, h2, h3, h4, if_false, Bool.and_false, Bool.false_and]
theorem do_both {p : PoolM} (h : PoolP p) (o : OpM) : Do1 p (poolDo p o) (sDo p o) := by
 rw [poolDo, sDo]
 by_cases h1 : o.kind = 1
 ·simp only [h1, if_true]; exact make_both h _ _
 ·simp only [h1, if_false]
  by_cases h2 : o.kind = 2
  ·simp only [h2, if_true]; exact write_both h _ _ _
  ·simp only [h2, if_false]
   by_cases h3 : o.kind = 3
   ·simp only [h3, if_true]; exact clone_both h _ _
   ·simp only [h3, if_false]; exact gone_both h _
theorem keeps : Keeps := fun p o hp _ hd => (poolOk_iff _).mpr ((do_both ((poolOk_iff p).mp hp) o).k hd)
theorem poolDo_eq {p : PoolM} (hp : poolOk p = true) (o : OpM) : poolDo p o = sDo p o := (do_both ((poolOk_iff p).mp hp) o).e
theorem run_eq : ∀ (os : List OpM) {p : PoolM}, poolOk p = true → doAllM p os = runM p os
 | [], p, _ => rfl
 | o :: os, p, hp => by
  rw [doAllM, runM, hp, sOpOk_eq, poolDo_eq hp]
  cases ho : opOk o with
  | false => rfl
  | true =>
   cases hd : (sDo p o).2 with
   | false => rfl
   | true =>
    show doAllM (sDo p o).1 os = runM (sDo p o).1 os
    exact run_eq os (keeps p o hp (by rw [sOpOk_eq]; exact ho) hd)
theorem runM_ok : ∀ (os : List OpM) {p q : PoolM}, poolOk p = true → runM p os = some q → poolOk q = true
 | [], p, q, hp, h => by cases h; exact hp
 | o :: os, p, q, hp, h => by
  rw [runM] at h
  split at h
  ·rename_i hc
   simp only [Bool.and_eq_true] at hc
   exact runM_ok os (keeps p o hp hc.1 hc.2) h
  ·cases h
end Go.Gn

namespace Go.Gn
open Go
set_option linter.unusedVariables false
set_option linter.unusedSimpArgs false
set_option maxRecDepth 100000
set_option maxHeartbeats 4000000
theorem fnd_any {α : Type} (p : α → Bool) : ∀ (xs : List α) (i : Nat), (fnd p xs i).isSome = xs.any p
 | [], _ => rfl
 | x :: xs, i => by
  simp only [fnd, List.any_cons]
  cases p x
  ·simp only [Bool.false_or]; exact fnd_any p xs (i + 1)
  ·rfl
theorem seq_comm (a b : Str) : seq a b = seq b a := by rw [seq_eq, seq_eq]; exact decide_eq_decide.mpr ⟨Eq.symm, Eq.symm⟩
section
variable {W : CallF} {L : LoopF} {E : EqF} {T : Prop → Bool} (h : IsK G W L E T)
include h
theorem sVolOk_loop (nm : Str) (bs : List Int) (hl : bs.length < 4611686018427387904) : ∀ m i, i + m = bs.length → L (norm 0 cf116.live) (exitN 0 cf116.out (evCW W L G cf116 0 c116l0)) ⟨[(1, .ptr 0 0), (3, .int .i64 (i : Nat))], [.box [.str nm, .sl .br (bs.map intD)]]⟩ =
  some (if inAll 0 8 (bs.drop i) then (.ext 0, ⟨[(1, .ptr 0 0), (2, .top)], [.box [.str nm, .sl .br (bs.map intD)]]⟩) else (.ret, ⟨[(1, .ptr 0 0), (2, .bool false)], [.box [.str nm, .sl .br (bs.map intD)]]⟩))
 | 0, i, hm => by
  rw [h.loop, List.drop_eq_nil_of_le (show bs.length ≤ i by omega)]
  repeat (conv=>lhs;whnf;arg 2;tactic=>first|exact g1|exact g2)
  rfl
 | m + 1, i, hm => by
  obtain ⟨x, hx⟩ := get_some (xs := bs) (i := i) (by omega)
  rw [h.loop, drop_cons hx, inAll_cons]
  cases hr : inR x 0 8
  ·repeat (conv=>lhs;whnf;arg 2;tactic=>first|exact g1|exact map_get hx|exact ev_l6In h _ _ _|exact hr|exact congrArg not hr|exact g2)
   rfl
  ·repeat (conv=>lhs;whnf;arg 2;tactic=>first|exact g1|exact map_get hx|exact ev_l6In h _ _ _|exact hr|exact congrArg not hr|exact g2)
   conv => lhs; whnf
   rw [wrap_succ (by omega), sVolOk_loop nm bs hl m (i + 1) (by omega)]
   rfl
theorem ev_sVolOk (v : VolM) (hl : v.blocks.length < 4611686018427387904) : W f_spec_VolOk [.agg [.str v.name, .sl .br (v.blocks.map intD)]] [] = some (.bool (volOk v), []) := by
 have e := sVolOk_loop h v.name v.blocks hl v.blocks.length 0 (by omega)
 rw [nc0, List.drop_zero] at e
 have hn := sName_eq v.name
 have hi : inR ((v.blocks.map intD).length : Nat) 1 6 = inR v.blocks.length 1 6 := by rw [List.length_map]
 unfold volOk
 rw [h.call, ← hn, ← hi]
 cases ha : inAll 0 8 v.blocks
 ·rw [ha] at e
  repeat (conv=>lhs;whnf;arg 2;tactic=>first|exact g1|exact e|exact congrArg not e|exact g2)
  rfl
 ·rw [ha] at e
  cases hs : sName v.name
  ·repeat (conv=>lhs;whnf;arg 2;tactic=>first|exact g1|exact e|exact ev_l3Name h _|exact hs|exact congrArg not e|exact congrArg not hs|exact g2)
   rfl
  ·repeat (conv=>lhs;whnf;arg 2;tactic=>first|exact g1|exact e|exact ev_l3Name h _|exact hs|exact ev_l6In h _ _ _|exact congrArg not e|exact congrArg not hs|exact g2)
   rfl
theorem suses_loop (nm : Str) (bs : List Int) (hl : bs.length < 4611686018427387904) (p : Int) : ∀ (m i : Nat) (acc : Int), i + m = bs.length → 0 ≤ acc → acc ≤ i → L (norm 0 cf164.live) (exitN 0 cf164.out (evCW W L G cf164 0 c164l0)) ⟨[(1, .int .i64 p), (2, .ptr 0 0), (5, .int .i64 acc), (6, .int .i64 (i : Nat))], [.box [.str nm, .sl .br (bs.map intD)]]⟩ =
  some (.ext 0, ⟨[(4, .top), (5, .int .i64 (acc + cnt (bs.drop i) p))], []⟩)
 | 0, i, acc, hm, h1, h2 => by
  rw [h.loop, List.drop_eq_nil_of_le (show bs.length ≤ i by omega)]
  repeat (conv=>lhs;whnf;arg 2;tactic=>first|exact g1|exact g2)
  rw [show acc + cnt [] p = acc by simp [cnt]]
  rfl
 | m + 1, i, acc, hm, h1, h2 => by
  obtain ⟨x, hx⟩ := get_some (xs := bs) (i := i) (by omega)
  rw [h.loop, drop_cons hx, cnt_cons]
  cases hr : x == p
  ·repeat (conv=>lhs;whnf;arg 2;tactic=>first|exact g1|exact map_get hx|exact hr|exact congrArg not hr|exact g2)
   conv => lhs; whnf
   rw [wrap_succ (by omega), suses_loop nm bs hl p m (i + 1) acc (by omega) h1 (by omega), if_neg (by simp), Int.zero_add]
  ·repeat (conv=>lhs;whnf;arg 2;tactic=>first|exact g1|exact map_get hx|exact hr|exact congrArg not hr|exact g2)
   conv => lhs; whnf
   rw [wrap_succ (by omega), wrap_id (n := acc + 1) (by omega) (by omega), suses_loop nm bs hl p m (i + 1) (acc + 1) (by omega) (by omega) (by omega), if_pos rfl, Int.add_assoc]
theorem ev_l3Uses (v : VolM) (hl : v.blocks.length < 4611686018427387904) (p : Int) : W f_spec_l3Uses [.agg [.str v.name, .sl .br (v.blocks.map intD)], .int .i64 p] [] = some (.int .i64 (cnt v.blocks p), []) := by
 have e := suses_loop h v.name v.blocks hl p v.blocks.length 0 0 (by omega) (by omega) (by omega)
 rw [nc0, List.drop_zero, Int.zero_add] at e
 rw [h.call]
 repeat (conv=>lhs;whnf;arg 2;tactic=>first|exact g1|exact e|exact congrArg not e|exact g2)
 rfl
theorem sumU_loop (p : PoolM) (hn : ∀ v ∈ p.vols, v.blocks.length ≤ 6) (hl : p.vols.length ≤ 4) (k : Int) : ∀ (m i : Nat) (acc : Int), i + m = p.vols.length → 0 ≤ acc → acc ≤ i * 6 → L (norm 0 cf117.live) (exitN 0 cf117.out (evCW W L G cf117 0 c117l0)) ⟨[(1, .int .i64 k), (2, .ptr 0 0), (5, .int .i64 acc), (6, .int .i64 (i : Nat))], [boxP p]⟩ =
  some (.ext 0, ⟨[(4, .top), (5, .int .i64 (acc + sumU k (p.vols.drop i)))], []⟩)
 | 0, i, acc, hm, h1, h2 => by
  rw [h.loop, List.drop_eq_nil_of_le (show p.vols.length ≤ i by omega)]
  repeat (conv=>lhs;whnf;arg 2;tactic=>first|exact g1|exact g2)
  rw [show acc + sumU k [] = acc by simp [sumU]]
  rfl
 | m + 1, i, acc, hm, h1, h2 => by
  obtain ⟨v, hv⟩ := get_some (xs := p.vols) (i := i) (by omega)
  have hvs := hn v (List.mem_of_getElem? hv)
  have hc := cnt_range v.blocks k
  rw [h.loop, drop_cons hv]
  repeat (conv=>lhs;whnf;arg 2;tactic=>first|exact g1|exact map_get hv|exact ev_l3Uses h v (by omega) _|exact g2)
  conv => lhs; whnf
  rw [wrap_succ (by omega), wrap_id (n := acc + cnt v.blocks k) (by omega) (by omega), sumU_loop p hn hl k m (i + 1) (acc + cnt v.blocks k) (by omega) (by omega) (by omega)]
  rw [sumU, Int.add_assoc]
theorem ev_l11Uses (p : PoolM) (hn : ∀ v ∈ p.vols, v.blocks.length ≤ 6) (hl : p.vols.length ≤ 4) (k : Int) : W f_spec_l11Uses [poolA p, .int .i64 k] [] = some (.int .i64 (sumU k p.vols), []) := by
 have e := sumU_loop h p hn hl k p.vols.length 0 0 (by omega) (by omega) (by omega)
 rw [nc0, List.drop_zero, Int.zero_add] at e
 rw [h.call]
 repeat (conv=>lhs;whnf;arg 2;tactic=>first|exact g1|exact e|exact congrArg not e|exact g2)
 rfl
theorem dup_loop (xs : List SlotM) (hl : xs.length < 4611686018427387904) (i : Nat) (x : SlotM) (hx : xs[i]? = some x) : ∀ m k, k + m = i → L (norm 0 cf115.live) (exitN 0 cf115.out (evCW W L G cf115 0 c115l0)) ⟨[(0, .sl .br (xs.map slotD)), (3, .int .i64 (i : Nat)), (4, .int .i64 (k : Nat))], []⟩ =
  some (if !(seq x.text noText) && ((xs.take i).drop k).any (fun y => seq y.text x.text) then (.ret, ⟨[(0, .sl .br (xs.map slotD)), (2, .bool false), (3, .int .i64 (i : Nat))], []⟩) else (.ext 2, ⟨[(0, .sl .br (xs.map slotD)), (2, .top), (3, .int .i64 (i : Nat))], []⟩))
 | 0, k, hm => by
  rw [h.loop, List.drop_eq_nil_of_le (by rw [List.length_take]; omega)]
  simp only [List.any_nil, Bool.and_false]
  repeat (conv=>lhs;whnf;arg 2;tactic=>first|exact g1|exact g2)
  rfl
 | m + 1, k, hm => by
  have hil := lt_of_get hx
  obtain ⟨y, hy⟩ := get_some (xs := xs) (i := k) (by omega)
  have hyt : (xs.take i)[k]? = some y := by rw [List.getElem?_take, if_pos (by omega)]; exact hy
  rw [h.loop, drop_cons hyt, List.any_cons]
  cases hq : seq x.text noText
  ·rw [seq_comm y.text x.text]
   cases he : seq x.text y.text
   ·have ih := dup_loop xs hl i x hx m (k + 1) (by omega)
    rw [hq] at ih
    repeat (conv=>lhs;whnf;arg 2;tactic=>first|exact g1|exact map_get hx|exact hq|exact map_get hy|exact he|exact congrArg not hq|exact congrArg not he|exact g2)
    conv => lhs; whnf
    rw [wrap_succ (by omega), ih]
    rfl
   ·repeat (conv=>lhs;whnf;arg 2;tactic=>first|exact g1|exact map_get hx|exact hq|exact map_get hy|exact he|exact congrArg not hq|exact congrArg not he|exact g2)
    rfl
  ·have ih := dup_loop xs hl i x hx m (k + 1) (by omega)
   rw [hq] at ih
   repeat (conv=>lhs;whnf;arg 2;tactic=>first|exact g1|exact map_get hx|exact hq|exact congrArg not hq|exact g2)
   conv => lhs; whnf
   rw [wrap_succ (by omega), ih]
   rfl
theorem sstoreOk_loop (xs : List SlotM) (hs : StoreSz xs) : ∀ (m i : Nat) (a4 : AV), (a4 = .un ∨ a4 = .top) → i + m = xs.length → ∃ b3, L (norm 0 cf115.live) (exitN 0 cf115.out (evCW W L G cf115 0 c115l1)) ⟨[(0, .sl .br (xs.map slotD)), (3, .int .i64 (i : Nat)), (4, a4)], []⟩ =
  some (if storeOkL xs m i then (.ext 0, ⟨[(0, .sl .br (xs.map slotD)), (2, .top), (3, .int .i64 b3)], []⟩) else (.ret, ⟨[(0, .sl .br (xs.map slotD)), (2, .bool false), (3, .int .i64 b3)], []⟩))
 | 0, i, a4, ha, hm => by
  refine ⟨(i : Nat), ?_⟩
  rw [h.loop]
  rcases ha with rfl | rfl
  ·repeat (conv=>lhs;whnf;arg 2;tactic=>first|exact g1|exact g2)
   rfl
  ·repeat (conv=>lhs;whnf;arg 2;tactic=>first|exact g1|exact g2)
   rfl
 | m + 1, i, a4, ha, hm => by
  obtain ⟨x, hx⟩ := get_some (xs := xs) (i := i) (by omega)
  have hxs := hs.2 x (List.mem_of_getElem? hx)
  have hl := hs.1
  have hd := dup_loop h xs hl i x hx i 0 (by omega)
  rw [nc0, List.drop_zero] at hd
  have hc : (!((x.uses == 0) == seq x.text noText)) = !(seq x.text noText == (x.uses == 0)) := by rw [Bool.beq_comm]
  have hf : decide (fndI (fnd (fun y : SlotM => seq y.text x.text) (xs.take i) 0) ≥ 0) = (xs.take i).any (fun y => seq y.text x.text) := by rw [fndI_nn, fnd_any]
  obtain ⟨b3, ih⟩ := sstoreOk_loop xs hs m (i + 1) .top (.inr rfl) (by omega)
  rw [h.loop]
  simp only [storeOkL, hx, slotOk, hf]
  cases ht : textOk x.text
  ·refine ⟨(i : Nat), ?_⟩
   rcases ha with rfl | rfl
   all_goals
    repeat (conv=>lhs;whnf;arg 2;tactic=>first|exact g1|exact map_get hx|exact ev_sTextOk h _ hxs|exact ht|exact congrArg not ht|exact g2)
    rfl
  ·cases hu : inR x.uses 0 99
   ·refine ⟨(i : Nat), ?_⟩
    rcases ha with rfl | rfl
    all_goals
     repeat (conv=>lhs;whnf;arg 2;tactic=>first|exact g1|exact map_get hx|exact ev_sTextOk h _ hxs|exact ht|exact ev_l6In h _ _ _|exact hu|exact congrArg not ht|exact congrArg not hu|exact g2)
     rfl
   ·cases hz : !(seq x.text noText == (x.uses == 0))
    ·rw [hz] at hc
     cases hy : !(seq x.text noText) && (xs.take i).any (fun y => seq y.text x.text)
     ·refine ⟨b3, ?_⟩
      rw [hy] at hd
      rcases ha with rfl | rfl
      all_goals
       repeat (conv=>lhs;whnf;arg 2;tactic=>first|exact g1|exact map_get hx|exact ev_sTextOk h _ hxs|exact ht|exact ev_l6In h _ _ _|exact hu|exact hc|exact hd|exact congrArg not ht|exact congrArg not hu|exact congrArg not hc|exact congrArg not hd|exact g2)
       conv => lhs; whnf
       rw [wrap_succ (by omega), ih]
       rfl
     ·refine ⟨(i : Nat), ?_⟩
      rw [hy] at hd
      rcases ha with rfl | rfl
      all_goals
       repeat (conv=>lhs;whnf;arg 2;tactic=>first|exact g1|exact map_get hx|exact ev_sTextOk h _ hxs|exact ht|exact ev_l6In h _ _ _|exact hu|exact hc|exact hd|exact congrArg not ht|exact congrArg not hu|exact congrArg not hc|exact congrArg not hd|exact g2)
       rfl
    ·rw [hz] at hc
     refine ⟨(i : Nat), ?_⟩
     rcases ha with rfl | rfl
     all_goals
      repeat (conv=>lhs;whnf;arg 2;tactic=>first|exact g1|exact map_get hx|exact ev_sTextOk h _ hxs|exact ht|exact ev_l6In h _ _ _|exact hu|exact hc|exact congrArg not ht|exact congrArg not hu|exact congrArg not hc|exact g2)
      rfl
theorem ev_sStoreOk (xs : List SlotM) (hs : StoreSz xs) : W f_spec_StoreOk [.sl .br (xs.map slotD)] [] = some (.bool (storeOk xs), []) := by
 obtain ⟨b3, e⟩ := sstoreOk_loop h xs hs xs.length 0 .un (.inl rfl) (by omega)
 rw [nc0] at e
 unfold storeOk
 have hi : (((xs.map slotD).length : Nat) : Int) = xs.length := by rw [List.length_map]
 rw [h.call, ← hi]
 cases hk : storeOkL xs xs.length 0
 ·rw [hk] at e
  repeat (conv=>lhs;whnf;arg 2;tactic=>first|exact g1|exact e|exact congrArg not e|exact g2)
  rfl
 ·rw [hk] at e
  repeat (conv=>lhs;whnf;arg 2;tactic=>first|exact g1|exact e|exact congrArg not e|exact g2)
  rfl
theorem svols_loop (p : PoolM) (hs : VolsSz p.vols) : ∀ m i, i + m = p.vols.length → ∃ b3, L (norm 0 cf66.live) (exitN 0 cf66.out (evCW W L G cf66 0 c66l1)) ⟨[(1, .ptr 0 0), (3, .int .i64 (i : Nat)), (4, .un)], [boxP p]⟩ =
  some (if volsOkL p.vols m i then (.ext 0, ⟨[(1, .ptr 0 0), (2, .top)], [boxP p]⟩) else (.ret, ⟨[(1, .ptr 0 0), (2, b3)], [boxP p]⟩)) ∧ b3 = .bool false
 | 0, i, hm => by
  refine ⟨_, ?_, rfl⟩
  rw [h.loop]
  repeat (conv=>lhs;whnf;arg 2;tactic=>first|exact g1|exact g2)
  rfl
 | m + 1, i, hm => by
  obtain ⟨v, hv⟩ := get_some (xs := p.vols) (i := i) (by omega)
  have hvs := hs.2 v (List.mem_of_getElem? hv)
  have hl := hs.1
  obtain ⟨_, ih, rfl⟩ := svols_loop p hs m (i + 1) (by omega)
  refine ⟨_, ?_, rfl⟩
  rw [h.loop]
  simp only [volsOkL, hv]
  cases hvo : volOk v
  ·repeat (conv=>lhs;whnf;arg 2;tactic=>first|exact g1|exact map_get hv|exact ev_sVolOk h v hvs|exact hvo|exact congrArg not hvo|exact g2)
   rfl
  ·cases i with
   | zero =>
    repeat (conv=>lhs;whnf;arg 2;tactic=>first|exact g1|exact map_get hv|exact ev_sVolOk h v hvs|exact hvo|exact congrArg not hvo|exact g2)
    conv => lhs; whnf
    rw [wrap_succ (by omega), ih]
    rfl
   | succ j =>
    obtain ⟨u, hu⟩ := get_some (xs := p.vols) (i := j) (by omega)
    simp only [hu]
    cases hg : geq u.name v.name
    ·repeat (conv=>lhs;whnf;arg 2;tactic=>first|exact g1|exact map_get hv|exact ev_sVolOk h v hvs|exact hvo|exact wrap_pred (by omega)|exact map_get hu|exact hg|exact congrArg not hvo|exact congrArg not hg|exact g2)
     conv => lhs; whnf
     rw [wrap_succ (by omega), ih]
     rfl
    ·repeat (conv=>lhs;whnf;arg 2;tactic=>first|exact g1|exact map_get hv|exact ev_sVolOk h v hvs|exact hvo|exact wrap_pred (by omega)|exact map_get hu|exact hg|exact congrArg not hvo|exact congrArg not hg|exact g2)
     rfl
theorem splaces_loop (p : PoolM) (h8 : p.slots.length = 8) (hn : ∀ v ∈ p.vols, v.blocks.length ≤ 6) (hl : p.vols.length ≤ 4) : ∀ (m i : Nat), i + m = 8 → L (norm 0 cf66.live) (exitN 0 cf66.out (evCW W L G cf66 0 c66l0)) ⟨[(1, .ptr 0 0), (3, .top), (4, .int .i64 ((i : Nat) + 1))], [boxP p]⟩ =
  some (if usesOkL p.slots p.vols m i then (.ext 2, ⟨[(1, .ptr 0 0), (2, .top)], [boxP p]⟩) else (.ret, ⟨[(1, .ptr 0 0), (2, .bool false)], [boxP p]⟩))
 | 0, i, hm => by
  rw [h.loop]
  repeat (conv=>lhs;whnf;arg 2;tactic=>first|exact g1|exact g2)
  rfl
 | m + 1, i, hm => by
  obtain ⟨x, hx⟩ := get_some (xs := p.slots) (i := i) (by omega)
  have hu0 := ev_l11Uses h p hn hl ((i : Int) + 1)
  have hc : (x.uses != sumU ((i : Int) + 1) p.vols) = !(sumU ((i : Int) + 1) p.vols == x.uses) := by
   rw [show (x.uses != sumU ((i : Int) + 1) p.vols) = !(x.uses == sumU ((i : Int) + 1) p.vols) from rfl, Bool.beq_comm]
  have hw := wrap_pred (j := i) (by omega)
  have hw' : IntKind.i64.wrap ((i : Int) + 1 - 1) = (i : Int) := hw
  rw [h.loop]
  simp only [usesOkL, hx]
  cases hu : (sumU ((i : Int) + 1) p.vols == x.uses)
  ·rw [hu] at hc
   repeat (conv=>lhs;whnf;arg 2;tactic=>first|exact g1|exact hw'|exact map_get hx|exact hu0|exact hc|exact congrArg not hw'|exact congrArg not hu0|exact congrArg not hc|exact g2)
   rfl
  ·rw [hu] at hc
   have ih := splaces_loop p h8 hn hl m (i + 1) (by omega)
   repeat (conv=>lhs;whnf;arg 2;tactic=>first|exact g1|exact hw'|exact map_get hx|exact hu0|exact hc|exact congrArg not hw'|exact congrArg not hu0|exact congrArg not hc|exact g2)
   conv => lhs; whnf
   rw [wrap_id (n := (i : Int) + 1 + 1) (by omega) (by omega)]
   exact ih
theorem ev_sPoolOk (p : PoolM) (hs : PoolSz p) : W f_spec_PoolOk [poolA p] [] = some (.bool (poolOk p), []) := by
 unfold poolOk
 obtain ⟨_, e1, rfl⟩ := svols_loop h p hs.v p.vols.length 0 (by omega)
 rw [nc0] at e1
 rw [h.call]
 cases hso : storeOk p.slots
 ·repeat (conv=>lhs;whnf;arg 2;tactic=>first|exact g1|exact ev_sStoreOk h _ hs.s|exact hso|exact congrArg not hso|exact g2)
  rfl
 ·cases hl : decide ((p.vols.length : Int) > 4)
  ·have hlen : decide (((p.vols.map volD).length : Int) > 4) = false := by rw [List.length_map]; exact hl
   cases hv : volsOkL p.vols p.vols.length 0
   ·rw [hv] at e1
    repeat (conv=>lhs;whnf;arg 2;tactic=>first|exact g1|exact ev_sStoreOk h _ hs.s|exact hso|exact hlen|exact e1|exact congrArg not hso|exact congrArg not hlen|exact congrArg not e1|exact g2)
    rfl
   ·rw [hv] at e1
    simp only [decide_eq_false_iff_not] at hl
    have hso' := hso
    simp only [storeOk, Bool.and_eq_true, beq_iff_eq] at hso'
    have e2 := splaces_loop h p (by omega) (fun v hm => by
     obtain ⟨j, hj⟩ := List.getElem?_of_mem hm
     exact (volOk_len (volsOkL_len hv j (by omega) (by have := lt_of_get hj; omega) v hj)).2) (by omega) 8 0 (by omega)
    rw [nc0, Int.zero_add] at e2
    cases hu : usesOkL p.slots p.vols 8 0
    ·rw [hu] at e2
     repeat (conv=>lhs;whnf;arg 2;tactic=>first|exact g1|exact ev_sStoreOk h _ hs.s|exact hso|exact hlen|exact e1|exact e2|exact congrArg not hso|exact congrArg not hlen|exact congrArg not e1|exact congrArg not e2|exact g2)
     rfl
    ·rw [hu] at e2
     repeat (conv=>lhs;whnf;arg 2;tactic=>first|exact g1|exact ev_sStoreOk h _ hs.s|exact hso|exact hlen|exact e1|exact e2|exact congrArg not hso|exact congrArg not hlen|exact congrArg not e1|exact congrArg not e2|exact g2)
     rfl
  ·have hlen : decide (((p.vols.map volD).length : Int) > 4) = true := by rw [List.length_map]; exact hl
   repeat (conv=>lhs;whnf;arg 2;tactic=>first|exact g1|exact ev_sStoreOk h _ hs.s|exact hso|exact hlen|exact congrArg not hso|exact congrArg not hlen|exact g2)
   rfl
end
end Go.Gn

namespace Go.Gn
open Go
set_option linter.unusedVariables false
set_option linter.unusedSimpArgs false
set_option maxRecDepth 100000
set_option maxHeartbeats 4000000
structure LogSz (g : LogM) : Prop where
 p : PoolSz g.base
 o : OpsSz g.ops
def poolS (p : PoolM) : List Obj := [.row 2 0 2 (p.slots.map slotD), .row 2 0 2 (p.vols.map volD)]
section
variable {W : CallF} {L : LoopF} {E : EqF} {T : Prop → Bool} (h : IsK G W L E T)
include h
end
end Go.Gn

