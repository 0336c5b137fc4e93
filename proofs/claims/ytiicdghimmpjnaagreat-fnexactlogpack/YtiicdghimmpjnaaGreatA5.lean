/- Part 5 of a proof: an evaluator of the program, proved sound, and what it answers. -/
import Derived.Test.YtiicdghimmpjnaaGreatA4
set_option linter.all false
namespace Go.Gn
open Go
set_option linter.unusedVariables false
def ff (xs : List SlotM) : Nat → Int → Int
  | 0, _ => 0
  | m + 1, p => match xs[(p - 1).toNat]? with
    | some x => if x.uses = 0 then p else ff xs m (textNext p)
    | none => 0
def places : Nat → Int → List Int
  | 0, _ => []
  | m + 1, p => p :: places m (textNext p)
theorem places_all {p k : Int} (hp : 1 ≤ p ∧ p ≤ 8) (hk : 1 ≤ k ∧ k ≤ 8) : k ∈ places 8 p := by
  have h1 : p = 1 ∨ p = 2 ∨ p = 3 ∨ p = 4 ∨ p = 5 ∨ p = 6 ∨ p = 7 ∨ p = 8 := by omega
  have h2 : k = 1 ∨ k = 2 ∨ k = 3 ∨ k = 4 ∨ k = 5 ∨ k = 6 ∨ k = 7 ∨ k = 8 := by omega
  rcases h1 with h | h | h | h | h | h | h | h <;> subst h <;> rcases h2 with h | h | h | h | h | h | h | h <;> subst h <;> decide
theorem ff_range {xs : List SlotM} : ∀ (m : Nat) {p : Int}, 1 ≤ p ∧ p ≤ 8 → ff xs m p = 0 ∨ (1 ≤ ff xs m p ∧ ff xs m p ≤ 8 ∧ ∃ x, xs[(ff xs m p - 1).toNat]? = some x ∧ x.uses = 0)
  | 0, p, _ => .inl rfl
  | m + 1, p, hp => by
    rw [ff]
    cases hx : xs[(p - 1).toNat]? with
    | none => exact .inl rfl
    | some x =>
      show (if x.uses = 0 then p else ff xs m (textNext p)) = 0 ∨ _
      by_cases h0 : x.uses = 0
      · simp only [h0, if_true]
        exact .inr ⟨hp.1, hp.2, x, hx, h0⟩
      · simp only [h0, if_false]
        exact ff_range m (textNext_range hp.1)
theorem probe_ff {xs : List SlotM} (h8 : xs.length = 8) (t : Str) : ∀ (m : Nat) {p : Int}, 1 ≤ p ∧ p ≤ 8 → probe xs t m p = if ff xs m p = 0 then (xs, 0) else (xs.set (ff xs m p - 1).toNat ⟨t, 1⟩, ff xs m p)
  | 0, p, _ => rfl
  | m + 1, p, hp => by
    obtain ⟨x, hx⟩ := get_some (xs := xs) (i := (p - 1).toNat) (by omega)
    rw [probe, ff, hx]
    show (if x.uses = 0 then _ else _) = _
    by_cases h0 : x.uses = 0
    · have : p ≠ 0 := by omega
      simp [h0, this]
    · simp only [h0, if_false]
      exact probe_ff h8 t m (textNext_range hp.1)
theorem findS_miss {xs : List SlotM} (h8 : xs.length = 8) (t : Str) (hn : ∀ x ∈ xs, x.text ≠ t) : ∀ (m : Nat) {p fr : Int}, 1 ≤ p ∧ p ≤ 8 → findS xs t m p fr = (if fr = 0 then ff xs m p else fr, false)
  | 0, p, fr, _ => by
    rw [findS, ff]; split <;> simp_all
  | m + 1, p, fr, hp => by
    obtain ⟨x, hx⟩ := get_some (xs := xs) (i := (p - 1).toNat) (by omega)
    have hxt : seq x.text t = false := by rw [seq_eq]; simpa using hn x (List.mem_of_getElem? hx)
    rw [findS, ff, hx]
    simp only [hxt, Bool.false_eq_true, if_false]
    rw [findS_miss h8 t hn m (textNext_range hp.1)]
    by_cases h0 : x.uses = 0
    · by_cases h1 : fr = 0
      · have : p ≠ 0 := by omega
        simp [h0, h1, this]
      · simp [h0, h1]
    · simp [h0]
theorem findS_hit {xs : List SlotM} (h8 : xs.length = 8) {t : Str} {j : Nat} {x : SlotM} (hj : xs[j]? = some x) (ht : x.text = t) (hu : ∀ (i : Nat) (y : SlotM), xs[i]? = some y → y.text = t → i = j) : ∀ (m : Nat) {p fr : Int}, 1 ≤ p ∧ p ≤ 8 → (j : Int) + 1 ∈ places m p → findS xs t m p fr = ((j : Int) + 1, true)
  | 0, p, fr, _, hm => by simp [places] at hm
  | m + 1, p, fr, hp, hm => by
    obtain ⟨y, hy⟩ := get_some (xs := xs) (i := (p - 1).toNat) (by omega)
    rw [findS, hy]
    by_cases hyt : y.text = t
    · have := hu _ y hy hyt
      have hs : seq y.text t = true := by rw [seq_eq]; simpa using hyt
      simp only [hs, if_true]
      have : p = (j : Int) + 1 := by omega
      rw [this]
    · have hs : seq y.text t = false := by rw [seq_eq]; simpa using hyt
      simp only [hs, Bool.false_eq_true, if_false]
      refine findS_hit h8 hj ht hu m (textNext_range hp.1) ?_
      rcases List.mem_cons.mp hm with e | hm
      · exfalso
        have : (p - 1).toNat = j := by omega
        rw [this, hj] at hy
        cases hy
        exact hyt ht
      · exact hm
theorem put_both {xs : List SlotM} {f : Int → Int} (h : SlotI xs f) (hf : ∀ k, f k ≤ 50) {t : Str} (ht : textOk t = true) (hne : t ≠ noText) :
    putS xs t = ((putM xs t).1, (putM xs t).2, decide ((putM xs t).2 > 0)) ∧ 0 ≤ (putM xs t).2 ∧ (putM xs t).2 ≤ 8 ∧ ((putM xs t).2 > 0 → SlotI (putM xs t).1 (fun k => f k + (if (putM xs t).2 = k then 1 else 0))) := by
  have h8 := h.len
  have hp := textPlace_range ht
  cases hf1 : fnd (fun x : SlotM => seq x.text t) xs 0 with
  | none =>
    have hn : ∀ x ∈ xs, x.text ≠ t := fun x hx e => by
      have := fnd_none.mp hf1 x hx
      rw [e, seq_refl] at this; cases this
    have e1 : putM xs t = probe xs t 8 (textPlace t) := by rw [putM, hf1]
    rw [e1, probe_ff h8 t 8 hp, putS, findS_miss h8 t hn 8 hp]
    simp only [if_true]
    rcases ff_range (xs := xs) 8 hp with e0 | ⟨h1, h2, x, hx, hx0⟩
    · simp only [e0]
      obtain ⟨y, hy⟩ := get_some (xs := xs) (i := ((0 : Int) - 1).toNat) (by simp; omega)
      rw [hy]
      simp
    · have hne0 : ff xs 8 (textPlace t) ≠ 0 := by omega
      simp only [hx]
      have e2 : ((ff xs 8 (textPlace t) == 0) || decide (x.uses ≥ 99)) = false := by simp [hne0, hx0]
      rw [e2]
      simp only [hne0, if_false, hx0, Bool.false_eq_true]
      have hgt : ff xs 8 (textPlace t) > 0 := by omega
      refine ⟨by simp [hgt], by omega, h2, fun _ => ?_⟩
      refine (h.set (j := (ff xs 8 (textPlace t) - 1).toNat) (by omega) (y := ⟨t, 1⟩) ht (by simp) (by simp [hne]) ?_).congr fun k _ _ => ?_
      · intro _ i z hz e
        exact absurd e (hn z (List.mem_of_getElem? hz))
      · have eb : (((ff xs 8 (textPlace t) - 1).toNat : Nat) : Int) + 1 = ff xs 8 (textPlace t) := by omega
        have := h.use _ x hx
        rw [eb] at this
        simp only [eb]
        by_cases hk : k = ff xs 8 (textPlace t)
        · subst hk; simp; omega
        · have : ¬ ff xs 8 (textPlace t) = k := fun e => hk e.symm
          simp [hk, this]
  | some j =>
    obtain ⟨_, hj2, x, hx, hs⟩ := fnd_lt hf1
    simp only [Nat.sub_zero] at hx
    have hxt : x.text = t := by rw [seq_eq] at hs; simpa using hs
    have hu : ∀ (i : Nat) (y : SlotM), xs[i]? = some y → y.text = t → i = j := fun i y hy e => h.dis i j y x hy hx (e.trans hxt.symm) (fun e2 => hne (e.symm.trans e2))
    have hm := List.mem_of_getElem? hx
    have huse := h.use j x hx
    have hpos := h.pos x hm
    have hfj := hf ((j : Int) + 1)
    have hu0 : x.uses ≠ 0 := fun e => hne (hxt.symm.trans ((h.emp x hm).mpr e))
    have hu99 : ¬ x.uses = 99 := by omega
    have hu99' : ¬ x.uses ≥ 99 := by omega
    have e1 : putM xs t = (xs.set j x.inc, (j : Int) + 1) := by rw [putM, hf1]; simp only [hx, hu99, if_false]
    have hj8 : j < 8 := by omega
    rw [e1, putS, findS_hit h8 hx hxt hu 8 hp (places_all hp (by omega))]
    have ej : ((j : Int) + 1 - 1).toNat = j := by omega
    simp only [ej, hx]
    have e2 : (((j : Int) + 1 == 0) || decide (x.uses ≥ 99)) = false := by
      have : (j : Int) + 1 ≠ 0 := by omega
      simp [this, hu99']
    rw [e2]
    have hgt : (j : Int) + 1 > 0 := by omega
    simp only [Bool.false_eq_true, if_false]
    refine ⟨by simp [hgt, SlotM.inc, hxt], by omega, by omega, fun _ => ?_⟩
    refine (h.set (j := j) hj8 (y := x.inc) (h.txt x hm) (by simp only [SlotM.inc]; omega) ?_ ?_).congr fun k _ _ => ?_
    · simp only [SlotM.inc]
      constructor
      · intro e; exact absurd (hxt.symm.trans e) hne
      · intro e; omega
    · simp only [SlotM.inc]
      intro _ i z hz e
      exact hu i z hz (e.trans hxt)
    · simp only [SlotM.inc]
      by_cases hk : k = (j : Int) + 1
      · subst hk; simp; omega
      · have : ¬ (j : Int) + 1 = k := fun e => hk e.symm
        simp [hk, this]
theorem inAll_iff {lo hi : Int} {bs : List Int} : inAll lo hi bs = true ↔ ∀ b ∈ bs, lo ≤ b ∧ b ≤ hi := by
  simp [inAll, inR]
theorem volOk_iff {v : VolM} : volOk v = true ↔ (∀ b ∈ v.blocks, 0 ≤ b ∧ b ≤ 8) ∧ isName v.name = true ∧ 1 ≤ v.blocks.length ∧ v.blocks.length ≤ 6 := by
  rw [volOk]
  simp only [Bool.and_eq_true, inAll_iff, inR, decide_eq_true_eq]
  constructor
  · rintro ⟨h1, h2, h3, h4⟩; exact ⟨h1, h2, by omega, by omega⟩
  · rintro ⟨h1, h2, h3, h4⟩; exact ⟨h1, h2, by omega, by omega⟩
theorem sort_set {vs : List VolM} (h : SortV vs) {i : Nat} {v w : VolM} (hv : vs[i]? = some v) (hn : w.name = v.name) : SortV (vs.set i w) := by
  have ⟨hi, e⟩ := List.getElem?_eq_some_iff.mp hv
  refine List.pairwise_iff_getElem.mpr fun a b ha hb hab => ?_
  simp only [List.length_set] at ha hb
  have := List.pairwise_iff_getElem.mp h a b ha hb hab
  rw [List.getElem_set, List.getElem_set]
  by_cases h1 : i = a
  · subst h1
    have : i ≠ b := by omega
    simp only [if_true, this, if_false]
    rw [hn, ← e]; exact List.pairwise_iff_getElem.mp h i b ha hb hab
  · by_cases h2 : i = b
    · subst h2
      simp only [h1, if_false, if_true]
      rw [hn, ← e]; exact this
    · simp only [h1, h2, if_false]; exact this
theorem sort_del {vs : List VolM} (h : SortV vs) (i : Nat) : SortV (delV vs i) := by
  refine List.Pairwise.sublist ?_ h
  rw [delV]
  have h1 : (vs.take i ++ vs.drop (i + 1)).Sublist (vs.take i ++ vs.drop i) := List.Sublist.append (List.Sublist.refl _) (by rw [← List.drop_drop]; exact List.drop_sublist 1 _)
  rwa [List.take_append_drop] at h1
structure Do1 (p : PoolM) (r s : PoolM × Bool) : Prop where
  e : r = s
  k : s.2 = true → PoolP s.1
theorem make_both {p : PoolM} (h : PoolP p) (nm : Str) (sz : Int) : Do1 p (poolMake p nm sz) (sMake p nm sz) := by
  have eb : sMakeBad p nm sz = makeBad p nm sz := by
    rw [sMakeBad, makeBad, sName_eq]
    cases isName nm <;> cases inR sz 1 6 <;> simp
  cases hb : makeBad p nm sz with
  | true => 
    have e1 : poolMake p nm sz = (p, false) := by rw [poolMake, hb]; rfl
    have e2 : sMake p nm sz = (p, false) := by rw [sMake, eb, hb]; rfl
    exact ⟨by rw [e1, e2], by rw [e2]; intro e; cases e⟩
  | false =>
    have hb2 := hb
    rw [makeBad] at hb2
    simp only [Bool.or_eq_false_iff, Bool.not_eq_false', fndI_nn] at hb2
    obtain ⟨hn, hv, hs⟩ := hb2
    have hv2 : volIx p.vols nm = none := by cases hq : volIx p.vols nm with
      | none => rfl
      | some i => rw [hq] at hv; cases hv
    have hne := volIx_none.mp hv2
    have hi := insV_eq (v := ⟨nm, List.replicate sz.toNat 0⟩) h.nm hn h.o hne
    have e1 : poolMake p nm sz = (⟨p.slots, insS ⟨nm, List.replicate sz.toNat 0⟩ p.vols⟩, true) := by
      rw [poolMake, hb, makeM, hi]; rfl
    have e2 : sMake p nm sz = (⟨p.slots, insS ⟨nm, List.replicate sz.toNat 0⟩ p.vols⟩, true) := by
      rw [sMake, eb, hb]; rfl
    have hso := insS_sort (v := ⟨nm, List.replicate sz.toNat 0⟩) hn h.nm h.o hne
    refine ⟨by rw [e1, e2], fun _ => ?_⟩
    rw [e2]
    refine ⟨h.s.congr fun k hk _ => ?_, fun v hv => ?_, hso.1⟩
    · rw [sumU_ins, cnt_rep _ _ hk]; omega
    · rcases (hso.2 v).mp hv with e | hv
      · rw [e]
        have hs2 : 1 ≤ sz ∧ sz ≤ 6 := by simpa [inR] using hs
        refine volOk_iff.mpr ⟨fun b hb => ?_, hn, ?_, ?_⟩
        · have := List.eq_of_mem_replicate hb
          omega
        · simp only [List.length_replicate]; omega
        · simp only [List.length_replicate]; omega
      · exact h.v v hv
theorem gone_both {p : PoolM} (h : PoolP p) (nm : Str) : Do1 p (poolGone p nm) (sGone p nm) := by
  refine ⟨rfl, fun hk => ?_⟩
  cases hv : volIx p.vols nm with
  | none => rw [sGone, hv] at hk; cases hk
  | some i =>
    obtain ⟨v, hi, _, _⟩ := volIx_some hv
    have e : (sGone p nm).1 = ⟨freeL p.slots v.blocks, delV p.vols i⟩ := by rw [sGone, hv]; simp only [goM, hi]
    rw [e]
    have hvo := volOk_iff.mp (h.v v (List.mem_of_getElem? hi))
    refine ⟨(freeL_I v.blocks h.s hvo.1 fun k _ => sumU_ge hi).congr fun k _ _ => ?_, fun u hu => h.v u (delV_mem hu), sort_del h.o i⟩
    simp only; rw [sumU_del hi]
theorem clone_both {p : PoolM} (h : PoolP p) (fr to : Str) : Do1 p (poolClone p fr to) (sClone p fr to) := by
  have eb : sCloneBad p fr to = cloneBad p fr to := by rw [sCloneBad, cloneBad, sName_eq]
  cases hb : cloneBad p fr to with
  | true =>
    have e1 : poolClone p fr to = (p, false) := by rw [poolClone, hb]; rfl
    have e2 : sClone p fr to = (p, false) := by rw [sClone, eb, hb]; rfl
    exact ⟨by rw [e1, e2], by rw [e2]; intro e; cases e⟩
  | false =>
    have hb2 := hb
    rw [cloneBad] at hb2
    simp only [Bool.or_eq_false_iff, Bool.not_eq_false', fndI_nn, fndI_neg] at hb2
    obtain ⟨hf, hn, hv⟩ := hb2
    have hv2 : volIx p.vols to = none := by cases hq : volIx p.vols to with
      | none => rfl
      | some i => rw [hq] at hv; cases hv
    cases hq : volIx p.vols fr with
    | none => rw [hq] at hf; cases hf
    | some i =>
      obtain ⟨v, hi, _, _⟩ := volIx_some hq
      have hne := volIx_none.mp hv2
      have ei : (fndI (some i)).toNat = i := rfl
      have hin := insV_eq (v := ⟨to, v.blocks⟩) h.nm hn h.o hne
      have e1 : poolClone p fr to = (⟨incL p.slots v.blocks, insS ⟨to, v.blocks⟩ p.vols⟩, true) := by
        rw [poolClone, hb, hq, ei, clM, hi]
        simp only [hin]; rfl
      have e2 : sClone p fr to = (⟨incL p.slots v.blocks, insS ⟨to, v.blocks⟩ p.vols⟩, true) := by
        rw [sClone, eb, hb, hq, ei, hi]; rfl
      have hso := insS_sort (v := ⟨to, v.blocks⟩) hn h.nm h.o hne
      have hvo := volOk_iff.mp (h.v v (List.mem_of_getElem? hi))
      refine ⟨by rw [e1, e2], fun _ => ?_⟩
      rw [e2]
      refine ⟨(incL_I v.blocks h.s fun b hb => ⟨hvo.1 b hb, fun _ => ?_⟩).congr fun k _ _ => ?_, fun u hu => ?_, hso.1⟩
      · have h1 := cnt_mem hb
        have h2 := sumU_ge (k := b) hi
        omega
      · simp only; rw [sumU_ins]; simp only; omega
      · rcases (hso.2 u).mp hu with e | hu
        · rw [e]; exact volOk_iff.mpr ⟨hvo.1, hn, hvo.2.2.1, hvo.2.2.2⟩
        · exact h.v u hu
theorem write_both {p : PoolM} (h : PoolP p) (nm : Str) (b : Int) (t : Str) : Do1 p (poolWrite p nm b t) (sWrite p nm b t) := by
  cases hh : hasB p nm b with
  | none =>
    have e1 : poolWrite p nm b t = (p, false) := by rw [poolWrite, hh]
    have e2 : sWrite p nm b t = (p, false) := by rw [sWrite, hh]
    exact ⟨by rw [e1, e2], by rw [e2]; intro e; cases e⟩
  | some i =>
    cases ht : textOk t with
    | false =>
      have e1 : poolWrite p nm b t = (p, false) := by rw [poolWrite, hh, ht]; rfl
      have e2 : sWrite p nm b t = (p, false) := by rw [sWrite, hh, ht]; rfl
      exact ⟨by rw [e1, e2], by rw [e2]; intro e; cases e⟩
    | true =>
      have e1 : poolWrite p nm b t = if (wrM p i b.toNat t).2 then ((wrM p i b.toNat t).1, true) else (p, false) := by rw [poolWrite, hh, ht]; rfl
      have e2 : sWrite p nm b t = sWr p i b.toNat t := by rw [sWrite, hh, ht]; rfl
      rw [hasB] at hh
      cases hq : volIx p.vols nm with
      | none => rw [hq] at hh; cases hh
      | some i' =>
        obtain ⟨v, hi, hvn, _⟩ := volIx_some hq
        rw [hq] at hh
        simp only [hi] at hh
        cases hr : inR b 0 ((v.blocks.length : Int) - 1) with
        | false => rw [hr] at hh; cases hh
        | true =>
          rw [hr] at hh
          cases hh
          have hr2 : 0 ≤ b ∧ b ≤ (v.blocks.length : Int) - 1 := by simpa [inR] using hr
          obtain ⟨old, ho⟩ := get_some (xs := v.blocks) (i := b.toNat) (by omega)
          have hvo := volOk_iff.mp (h.v v (List.mem_of_getElem? hi))
          have hob := hvo.1 old (List.mem_of_getElem? ho)
          have hmem := cnt_mem (List.mem_of_getElem? ho)
          have hge := sumU_ge (k := old) hi
          have h1 := free_I h.s hob (fun _ => by omega)
          have key : ∀ (new : Int) (xs' : List SlotM), 0 ≤ new ∧ new ≤ 8 → SlotI xs' (fun k => (sumU k p.vols - (if old = k then 1 else 0)) + (if new = k then 1 else 0)) → PoolP ⟨xs', p.vols.set i ⟨v.name, v.blocks.set b.toNat new⟩⟩ := by
            intro new xs' hnew hx
            refine ⟨hx.congr fun k _ _ => ?_, fun u hu => ?_, sort_set h.o hi rfl⟩
            · simp only; rw [sumU_set hi]; simp only; rw [cnt_set ho]; omega
            · rcases List.mem_or_eq_of_mem_set hu with hu | e
              · exact h.v u hu
              · rw [e]
                refine volOk_iff.mpr ⟨fun c hc => ?_, hvo.2.1, ?_, ?_⟩
                · rcases List.mem_or_eq_of_mem_set hc with hc | e
                  · exact hvo.1 c hc
                  · rw [e]; exact hnew
                · simp only [List.length_set]; exact hvo.2.2.1
                · simp only [List.length_set]; exact hvo.2.2.2
          by_cases hne : t = noText
          · have hs : seq t noText = true := by rw [hne, seq_refl]
            have e3 : wrM p i b.toNat t = (⟨freeM p.slots old, p.vols.set i ⟨v.name, v.blocks.set b.toNat 0⟩⟩, true) := by
              simp only [wrM, hi, ho, fillM, hs, if_true, Bool.true_or]
            have e4 : sWr p i b.toNat t = (⟨freeM p.slots old, p.vols.set i ⟨v.name, v.blocks.set b.toNat 0⟩⟩, true) := by
              simp only [sWr, hi, ho, hs, if_true]
            refine ⟨by rw [e1, e2, e3, e4]; simp, fun _ => ?_⟩
            rw [e2, e4]
            refine key 0 _ (by omega) (h1.congr fun k hk _ => ?_)
            have : (0 : Int) ≠ k := by omega
            simp [this]
          · have hs : seq t noText = false := by rw [seq_eq]; simpa using hne
            obtain ⟨hp1, hp2, hp3, hp4⟩ := put_both h1 (fun k => by have := (h.sum k).2; split <;> omega) ht hne
            have e3 : wrM p i b.toNat t = (⟨(putM (freeM p.slots old) t).1, p.vols.set i ⟨v.name, v.blocks.set b.toNat (putM (freeM p.slots old) t).2⟩⟩, decide ((putM (freeM p.slots old) t).2 > 0)) := by
              simp only [wrM, hi, ho, fillM, hs, Bool.false_eq_true, if_false, Bool.false_or]
            have e4 : sWr p i b.toNat t = if decide ((putM (freeM p.slots old) t).2 > 0) then (⟨(putM (freeM p.slots old) t).1, p.vols.set i ⟨v.name, v.blocks.set b.toNat (putM (freeM p.slots old) t).2⟩⟩, true) else (p, false) := by
              simp only [sWr, hi, ho, hs, Bool.false_eq_true, if_false, hp1]
            by_cases hgt : (putM (freeM p.slots old) t).2 > 0
            · have hd : decide ((putM (freeM p.slots old) t).2 > 0) = true := by simpa using hgt
              refine ⟨by rw [e1, e2, e3, e4, hd], fun _ => ?_⟩
              rw [e2, e4, hd]
              exact key _ _ ⟨hp2, hp3⟩ (hp4 hgt)
            · have hd : decide ((putM (freeM p.slots old) t).2 > 0) = false := by simpa using hgt
              refine ⟨by rw [e1, e2, e3, e4, hd], fun hk => ?_⟩
              rw [e2, e4, hd] at hk
              cases hk
theorem sOpOk_eq (o : OpM) : sOpOk o = opOk o := by
  rw [sOpOk, opOk, sName_eq, sName_eq, okK, want, opEq]
  by_cases h1 : o.kind = 1
  · simp only [h1, if_true, seq_refl, seq_eq, beq_self_eq_true, Bool.true_and]
    cases isName o.name <;> cases decide (o.to = noText) <;> cases decide (o.text = noText) <;> simp
  · by_cases h2 : o.kind = 2
    · simp only [h2, if_true, seq_refl, seq_eq, beq_self_eq_true, Bool.true_and, (by decide : ¬ (2 : Int) = 1), if_false]
      cases isName o.name <;> cases decide (o.to = noText) <;> cases decide (o.text = noText) <;> simp
    · by_cases h3 : o.kind = 3
      · simp only [h3, if_true, seq_refl, seq_eq, beq_self_eq_true, Bool.true_and, (by decide : ¬ (3 : Int) = 1), (by decide : ¬ (3 : Int) = 2), if_false]
        cases isName o.name <;> simp
      · by_cases h4 : o.kind = 4
        · simp only [h4, if_true, seq_refl, seq_eq, beq_self_eq_true, Bool.true_and, (by decide : ¬ (4 : Int) = 1), (by decide : ¬ (4 : Int) = 2), (by decide : ¬ (4 : Int) = 3), if_false]
        · simp only [h1, h2, h3, h4, if_false, Bool.and_false, Bool.false_and]
theorem do_both {p : PoolM} (h : PoolP p) (o : OpM) : Do1 p (poolDo p o) (sDo p o) := by
  rw [poolDo, sDo]
  by_cases h1 : o.kind = 1
  · simp only [h1, if_true]; exact make_both h _ _
  · simp only [h1, if_false]
    by_cases h2 : o.kind = 2
    · simp only [h2, if_true]; exact write_both h _ _ _
    · simp only [h2, if_false]
      by_cases h3 : o.kind = 3
      · simp only [h3, if_true]; exact clone_both h _ _
      · simp only [h3, if_false]; exact gone_both h _
theorem keeps : Keeps := fun p o hp _ hd => (poolOk_iff _).mpr ((do_both ((poolOk_iff p).mp hp) o).k hd)
theorem poolDo_eq {p : PoolM} (hp : poolOk p = true) (o : OpM) : poolDo p o = sDo p o := (do_both ((poolOk_iff p).mp hp) o).e
theorem run_eq : ∀ (os : List OpM) {p : PoolM}, poolOk p = true → doAllM p os = runM p os
  | [], p, _ => rfl
  | o :: os, p, hp => by
    rw [doAllM, runM, hp, sOpOk_eq, poolDo_eq hp]
    cases ho : opOk o with
    | false => rfl
    | true =>
      cases hd : (sDo p o).2 with
      | false => rfl
      | true =>
        show doAllM (sDo p o).1 os = runM (sDo p o).1 os
        exact run_eq os (keeps p o hp (by rw [sOpOk_eq]; exact ho) hd)
theorem runM_ok : ∀ (os : List OpM) {p q : PoolM}, poolOk p = true → runM p os = some q → poolOk q = true
  | [], p, q, hp, h => by cases h; exact hp
  | o :: os, p, q, hp, h => by
    rw [runM] at h
    split at h
    · rename_i hc
      simp only [Bool.and_eq_true] at hc
      exact runM_ok os (keeps p o hp hc.1 hc.2) h
    · cases h
end Go.Gn

namespace Go.Gn
open Go
set_option linter.unusedVariables false
set_option linter.unusedSimpArgs false
set_option maxRecDepth 100000
set_option maxHeartbeats 4000000
def logOk (g : LogM) : Bool := poolOk g.base && (!(decide ((g.ops.length : Int) > 20)) && (inR g.safe 0 g.ops.length && (runM g.base g.ops).isSome))
structure LogSz (g : LogM) : Prop where
  p : PoolSz g.base
  o : OpsSz g.ops
section
variable {W : CallF} {L : LoopF} {E : EqF} {T : Prop → Bool} (h : IsK G W L E T)
include h
theorem ev_sLogOk (g : LogM) (hs : LogSz g) : W f_spec_LogOk [logA g] [] = some (.bool (logOk g), []) := by
  unfold logOk
  have hl := hs.o.1
  have hlen : ((g.ops.map opD).length : Nat) = g.ops.length := List.length_map ..
  rw [h.call]
  cases hp : poolOk g.base
  · repeat (conv => lhs; whnf; arg 2; tactic => first | exact g1 | exact ev_sPoolOk h g.base hs.p | exact hp | exact congrArg not hp | exact g2)
    rfl
  · have hg := poolOk_G hp
    cases h20 : decide ((g.ops.length : Int) > 20)
    · have h20' : decide (((g.ops.map opD).length : Int) > 20) = false := by rw [hlen]; exact h20
      have hin := ev_l6In h g.safe 0 ((g.ops.map opD).length : Nat)
      cases hi : inR g.safe 0 g.ops.length
      · have hi' : inR g.safe 0 ((g.ops.map opD).length : Nat) = false := by rw [hlen]; exact hi
        repeat (conv => lhs; whnf; arg 2; tactic => first | exact g1 | exact ev_sPoolOk h g.base hs.p | exact hp | exact h20' | exact hin | exact hi' | exact congrArg not hp | exact congrArg not h20' | exact congrArg not hin | exact congrArg not hi' | exact g2)
        rfl
      · have hi' : inR g.safe 0 ((g.ops.map opD).length : Nat) = true := by rw [hlen]; exact hi
        have hc := ev_l11Copy h g.base (by have := hg.hl; omega) (by have := hg.h8; omega) (fun v hv => by have := hg.hb v hv; omega)
        obtain ⟨a, b, x, e, hr, _⟩ := ev_l13Run h keeps g.base hp g.ops hs.o
        rcases hr with rfl | ⟨ys, rfl⟩ | ⟨xs, ys, rfl⟩
        all_goals
         repeat (conv => lhs; whnf; arg 2; tactic => first | exact g1 | exact ev_sPoolOk h g.base hs.p | exact hp | exact h20' | exact hin | exact hi' | exact hc | exact e | exact congrArg not hp | exact congrArg not h20' | exact congrArg not hin | exact congrArg not hi' | exact congrArg not hc | exact congrArg not e | exact g2)
         rfl
    · have h20' : decide (((g.ops.map opD).length : Int) > 20) = true := by rw [hlen]; exact h20
      repeat (conv => lhs; whnf; arg 2; tactic => first | exact g1 | exact ev_sPoolOk h g.base hs.p | exact hp | exact h20' | exact congrArg not hp | exact congrArg not h20' | exact g2)
      rfl
theorem ev_l13Copy (g : LogM) (hg : PoolG g.base) (ho : g.ops.length < 2000000) : W f_spec_l13Copy [logA g] [] = some (.agg [.hw 0, .hw 1, .hw 2, .int .i64 g.safe], [.row 2 0 2 (g.base.slots.map slotD), .row 2 0 2 (g.base.vols.map volD), .row 5 0 0 (g.ops.map opD)]) := by
  have hc := ev_l11Copy h g.base (by have := hg.hl; omega) (by have := hg.h8; omega) (fun v hv => by have := hg.hb v hv; omega)
  have es : (g.ops.map opD).map (·.map D.scrub) = g.ops.map opD := scrub_map opD (fun _ => rfl) g.ops
  have hz : szOk 5 (g.ops.map opD) = true := szOk_map opD 5 (fun _ => rfl) g.ops
  have hd : decide ((0 + ((g.ops.map opD).map (·.map D.scrub)).length) * 64 ≤ 140737488355328) = true := decide_eq_true (by rw [es, List.length_map]; omega)
  rw [h.call]
  repeat (conv => lhs; whnf; arg 2; tactic => first | exact g1 | exact hc | exact hz | exact hd | exact congrArg not hc | exact congrArg not hz | exact congrArg not hd | exact g2)
  conv => lhs; whnf
  rw [es]
  rfl
end
end Go.Gn

namespace Go.Gn
open Go
set_option linter.unusedVariables false
set_option linter.unusedSimpArgs false
set_option maxRecDepth 100000
set_option maxHeartbeats 4000000
def logV (g : LogM) : List Obj := [.row 2 0 2 (g.base.slots.map slotD), .row 2 g.base.vols.length 1 (g.base.vols.map volD), .row 5 0 5 (g.ops.map opD)]
theorem doAll_some {g : LogM} (hp : poolOk g.base = true) : doAllM g.base g.ops = runM g.base g.ops := run_eq g.ops hp
section
variable {W : CallF} {L : LoopF} {E : EqF} {T : Prop → Bool} (h : IsK G W L E T)
include h
theorem ev_LogOk (g : LogM) (hs : LogSz g) : W f_impl_LogOk [logA g] [] = some (.bool (logOk g), []) := by
  unfold logOk
  have hd := ev_doAll h g.base hs.p g.ops hs.o
  have hlen : ((g.ops.map opD).length : Nat) = g.ops.length := List.length_map ..
  rw [h.call]
  cases hp : poolOk g.base
  · rw [hp] at hd
    repeat (conv => lhs; whnf; arg 2; tactic => first | exact g1 | exact hd | exact congrArg not hd | exact g2)
    rfl
  · rw [hp, doAll_some hp] at hd
    cases hr : runM g.base g.ops with
    | none =>
      rw [hr] at hd
      have e : (true && (!(decide ((g.ops.length : Int) > 20)) && (inR g.safe 0 g.ops.length && (none : Option PoolM).isSome))) = false := by simp
      rw [e]
      repeat (conv => lhs; whnf; arg 2; tactic => first | exact g1 | exact hd | exact congrArg not hd | exact g2)
      rfl
    | some q =>
      rw [hr] at hd
      have h20 : decide (((g.ops.map opD).length : Int) ≤ 20) = !(decide ((g.ops.length : Int) > 20)) := by
        rw [hlen, ← decide_not]
        exact decide_eq_decide.mpr (by omega)
      have hin := ev_within h g.safe 0 ((g.ops.map opD).length : Nat)
      cases hb : decide ((g.ops.length : Int) > 20)
      · rw [hb] at h20
        cases hi : inR g.safe 0 g.ops.length
        · have hi' : inR g.safe 0 ((g.ops.map opD).length : Nat) = false := by rw [hlen]; exact hi
          rw [hi'] at hin
          repeat (conv => lhs; whnf; arg 2; tactic => first | exact g1 | exact hd | exact h20 | exact hin | exact congrArg not hd | exact congrArg not h20 | exact congrArg not hin | exact g2)
          rfl
        · have hi' : inR g.safe 0 ((g.ops.map opD).length : Nat) = true := by rw [hlen]; exact hi
          rw [hi'] at hin
          repeat (conv => lhs; whnf; arg 2; tactic => first | exact g1 | exact hd | exact h20 | exact hin | exact congrArg not hd | exact congrArg not h20 | exact congrArg not hin | exact g2)
          rfl
      · rw [hb] at h20
        repeat (conv => lhs; whnf; arg 2; tactic => first | exact g1 | exact hd | exact h20 | exact congrArg not hd | exact congrArg not h20 | exact g2)
        rfl
theorem ev_Log_pool (g : LogM) (hs : LogSz g) (hp : poolOk g.base = true) (q : PoolM) (hq : runM g.base g.ops = some q) : W f_impl_Log_pool [logA g] [] = some (.agg [.hw 0, .hw 1], poolV q) := by
  have hd := ev_doAll h g.base hs.p g.ops hs.o
  rw [hp, doAll_some hp, hq] at hd
  rw [h.call]
  repeat (conv => lhs; whnf; arg 2; tactic => first | exact g1 | exact hd | exact congrArg not hd | exact g2)
  rfl
theorem ev_Log_clone (g : LogM) (hs : LogSz g) (hp : poolOk g.base = true) : W f_impl_Log_clone [logA g] [] = some (.agg [.hw 0, .hw 1, .hw 2, .int .i64 g.safe], logV g) := by
  have hg := poolOk_G hp
  have hc := ev_Pool_clone h g.base hs.p.v (by have := hg.h8; omega) (by have := hg.hl; omega) (fun v hv => by have := hg.hb v hv; omega)
  have ho := ev_cloneOp h g.ops (by have := hs.o.1; omega)
  rw [h.call]
  repeat (conv => lhs; whnf; arg 2; tactic => first | exact g1 | exact hc | exact ho | exact congrArg not hc | exact congrArg not ho | exact g2)
  rfl
end
end Go.Gn

namespace Go.Gn
open Go
set_option linter.unusedVariables false
set_option linter.unusedSimpArgs false
set_option maxRecDepth 100000
set_option maxHeartbeats 8000000
def midL {α : Type} (f : α → List D) (z : List D) (xs : List α) (i : Nat) : List (List D) := (xs.take i).map f ++ List.replicate (xs.length - i) z
theorem midL_zero {α : Type} (f : α → List D) (z : List D) (xs : List α) : midL f z xs 0 = List.replicate xs.length z := by simp [midL]
theorem midL_all {α : Type} (f : α → List D) (z : List D) (xs : List α) {i : Nat} (h : xs.length ≤ i) : midL f z xs i = xs.map f := by
  rw [midL, List.take_of_length_le h, show xs.length - i = 0 by omega]; simp
theorem midL_len {α : Type} (f : α → List D) (z : List D) (xs : List α) {i : Nat} (h : i ≤ xs.length) : (midL f z xs i).length = xs.length := by
  simp [midL]; omega
theorem midL_get {α : Type} (f : α → List D) (z : List D) (xs : List α) {i : Nat} (h : i < xs.length) : (midL f z xs i)[i]? = some z := by
  have hl : ((xs.take i).map f).length = i := by simp; omega
  rw [midL, List.getElem?_append_right (by omega), hl, List.getElem?_replicate, if_pos (by omega)]
theorem midL_set {α : Type} (f : α → List D) (z : List D) (xs : List α) {i : Nat} {x : α} (h : xs[i]? = some x) : (midL f z xs i).set i (f x) = midL f z xs (i + 1) := by
  have hi := (List.getElem?_eq_some_iff.mp h).1
  have hl : ((xs.take i).map f).length = i := by simp; omega
  rw [midL, midL, List.set_append_right _ _ (by omega), hl, Nat.sub_self, take_snoc h, List.map_append, show xs.length - i = (xs.length - (i + 1)) + 1 by omega, List.replicate_succ]
  simp
def zSlot : List D := [.str ⟨#[]⟩, .int .i64 0]
def zVol : List D := [.str ⟨#[]⟩, .sl []]
def zInt : List D := [.int .i64 0]
def zOp : List D := [.int .i64 0, .str ⟨#[]⟩, .str ⟨#[]⟩, .int .i64 0, .str ⟨#[]⟩]
section
variable {W : CallF} {L : LoopF} {E : EqF} {T : Prop → Bool} (h : IsK G W L E T)
include h
theorem ev_toSlot (x : SlotM) : W f_laws_toSlot [.agg [.str x.text, .int .i64 x.uses]] [] = some (.agg [.str x.text, .int .i64 x.uses], []) := by
  rw [h.call]
  repeat (conv => lhs; whnf; arg 2; tactic => first | exact g1 | exact g2)
  rfl
theorem ev_toOp (o : OpM) : W f_laws_toOp [.agg (opC o)] [] = some (.agg (opC o), []) := by
  rw [h.call]
  repeat (conv => lhs; whnf; arg 2; tactic => first | exact g1 | exact g2)
  rfl
theorem toIntS_loop (xs : List Int) (hs : xs.length < 2000000) : ∀ (m i : Nat), i + m = xs.length → L (norm 0 cf195.live) (exitN 0 cf195.out (evCW W L G cf195 0 c195l0)) ⟨[(0, .sl .br (xs.map intD)), (3, .hw 0), (4, .int .i64 (i : Nat))], [.row 1 0 0 (midL intD zInt xs i)]⟩ =
    some (.ext 0, ⟨[(2, .top), (3, .hw 0)], [.row 1 0 0 (xs.map intD)]⟩)
  | 0, i, hm => by
    rw [h.loop, midL_all intD zInt xs (by omega)]
    repeat (conv => lhs; whnf; arg 2; tactic => first | exact g1 | exact g2)
    rfl
  | m + 1, i, hm => by
    obtain ⟨x, hxi⟩ := get_some (xs := xs) (i := i) (by omega)
    have hmx := map_get (f := intD) hxi
    have hws := wrap_succ (i := i) (by omega)
    have hg := midL_get intD zInt xs (i := i) (by omega)
    have hml := midL_len intD zInt xs (i := i) (by omega)
    have ih := toIntS_loop xs hs m (i + 1) (by omega)
    rw [← midL_set intD zInt xs hxi, ← hws] at ih
    rw [← ih, h.loop]
    repeat (conv => lhs; whnf; arg 2; tactic => first | exact g1 | exact hmx | exact hg | exact congrArg not hmx | exact congrArg not hg | exact g2)
    rfl
theorem ev_toIntS (xs : List Int) (hs : xs.length < 2000000) : W f_laws_toIntS [.sl .br (xs.map intD)] [] = some (.hw 0, [.row 1 0 0 (xs.map intD)]) := by
  have e := toIntS_loop h xs hs xs.length 0 (by omega)
  rw [midL_zero, (by rw [List.length_map] : List.replicate xs.length zInt = List.replicate (xs.map intD).length zInt), nc0] at e
  rw [h.call]
  repeat (conv => lhs; whnf; arg 2; tactic => first | exact g1 | exact e | exact congrArg not e | exact g2)
  rfl
theorem toSlotS_loop (xs : List SlotM) (hs : xs.length < 2000000) : ∀ (m i : Nat), i + m = xs.length → L (norm 0 cf123.live) (exitN 0 cf123.out (evCW W L G cf123 0 c123l0)) ⟨[(0, .sl .br (xs.map slotD)), (3, .hw 0), (4, .int .i64 (i : Nat))], [.row 2 0 0 (midL slotD zSlot xs i)]⟩ =
    some (.ext 0, ⟨[(2, .top), (3, .hw 0)], [.row 2 0 0 (xs.map slotD)]⟩)
  | 0, i, hm => by
    rw [h.loop, midL_all slotD zSlot xs (by omega)]
    repeat (conv => lhs; whnf; arg 2; tactic => first | exact g1 | exact g2)
    rfl
  | m + 1, i, hm => by
    obtain ⟨x, hxi⟩ := get_some (xs := xs) (i := i) (by omega)
    have hmx := map_get (f := slotD) hxi
    have hws := wrap_succ (i := i) (by omega)
    have hg := midL_get slotD zSlot xs (i := i) (by omega)
    have hml := midL_len slotD zSlot xs (i := i) (by omega)
    have ih := toSlotS_loop xs hs m (i + 1) (by omega)
    rw [← midL_set slotD zSlot xs hxi, ← hws] at ih
    rw [← ih, h.loop]
    repeat (conv => lhs; whnf; arg 2; tactic => first | exact g1 | exact hmx | exact hg | exact ev_toSlot h x | exact congrArg not hmx | exact congrArg not hg | exact g2)
    rfl
theorem ev_toSlotS (xs : List SlotM) (hs : xs.length < 2000000) : W f_laws_toSlotS [.sl .br (xs.map slotD)] [] = some (.hw 0, [.row 2 0 0 (xs.map slotD)]) := by
  have e := toSlotS_loop h xs hs xs.length 0 (by omega)
  rw [midL_zero, (by rw [List.length_map] : List.replicate xs.length zSlot = List.replicate (xs.map slotD).length zSlot), nc0] at e
  rw [h.call]
  repeat (conv => lhs; whnf; arg 2; tactic => first | exact g1 | exact e | exact congrArg not e | exact g2)
  rfl
theorem toOpS_loop (xs : List OpM) (hs : xs.length < 2000000) : ∀ (m i : Nat), i + m = xs.length → L (norm 0 cf76.live) (exitN 0 cf76.out (evCW W L G cf76 0 c76l0)) ⟨[(0, .sl .br (xs.map opD)), (3, .hw 0), (4, .int .i64 (i : Nat))], [.row 5 0 0 (midL opD zOp xs i)]⟩ =
    some (.ext 0, ⟨[(2, .top), (3, .hw 0)], [.row 5 0 0 (xs.map opD)]⟩)
  | 0, i, hm => by
    rw [h.loop, midL_all opD zOp xs (by omega)]
    repeat (conv => lhs; whnf; arg 2; tactic => first | exact g1 | exact g2)
    rfl
  | m + 1, i, hm => by
    obtain ⟨x, hxi⟩ := get_some (xs := xs) (i := i) (by omega)
    have hmx := map_get (f := opD) hxi
    have hws := wrap_succ (i := i) (by omega)
    have hg := midL_get opD zOp xs (i := i) (by omega)
    have hml := midL_len opD zOp xs (i := i) (by omega)
    have ih := toOpS_loop xs hs m (i + 1) (by omega)
    rw [← midL_set opD zOp xs hxi, ← hws] at ih
    rw [← ih, h.loop]
    repeat (conv => lhs; whnf; arg 2; tactic => first | exact g1 | exact hmx | exact hg | exact ev_toOp h x | exact congrArg not hmx | exact congrArg not hg | exact g2)
    rfl
theorem ev_toOpS (xs : List OpM) (hs : xs.length < 2000000) : W f_laws_toOpS [.sl .br (xs.map opD)] [] = some (.hw 0, [.row 5 0 0 (xs.map opD)]) := by
  have e := toOpS_loop h xs hs xs.length 0 (by omega)
  rw [midL_zero, (by rw [List.length_map] : List.replicate xs.length zOp = List.replicate (xs.map opD).length zOp), nc0] at e
  rw [h.call]
  repeat (conv => lhs; whnf; arg 2; tactic => first | exact g1 | exact e | exact congrArg not e | exact g2)
  rfl
theorem ev_toVol (v : VolM) (hs : v.blocks.length < 2000000) : W f_laws_toVol [.agg [.str v.name, .sl .br (v.blocks.map intD)]] [] = some (.agg [.str v.name, .hw 0], [.row 1 0 0 (v.blocks.map intD)]) := by
  rw [h.call]
  repeat (conv => lhs; whnf; arg 2; tactic => first | exact g1 | exact ev_toIntS h _ hs | exact g2)
  rfl
theorem toVolS_loop (xs : List VolM) (hs : xs.length < 2000000) (hb : ∀ v ∈ xs, v.blocks.length < 2000000) : ∀ (m i c : Nat), i + m = xs.length → c = (if i = 0 then 0 else 1) → L (norm 0 cf124.live) (exitN 0 cf124.out (evCW W L G cf124 0 c124l0)) ⟨[(0, .sl .br (xs.map volD)), (3, .hw 0), (4, .int .i64 (i : Nat))], [.row 2 i c (midL volD zVol xs i)]⟩ =
    some (.ext 0, ⟨[(2, .top), (3, .hw 0)], [.row 2 xs.length (if xs.length = 0 then 0 else 1) (xs.map volD)]⟩)
  | 0, i, c, hm, hc => by
    have : i = xs.length := by omega
    subst this
    rw [h.loop, midL_all volD zVol xs (by omega), hc]
    repeat (conv => lhs; whnf; arg 2; tactic => first | exact g1 | exact g2)
    rfl
  | m + 1, i, c, hm, hc => by
    obtain ⟨x, hxi⟩ := get_some (xs := xs) (i := i) (by omega)
    have hmx := map_get (f := volD) hxi
    have hws := wrap_succ (i := i) (by omega)
    have hg := midL_get volD zVol xs (i := i) (by omega)
    have hml := midL_len volD zVol xs (i := i) (by omega)
    have hx := ev_toVol h x (hb x (List.mem_of_getElem? hxi))
    have ih := toVolS_loop xs hs hb m (i + 1) 1 (by omega) (by simp)
    rw [← midL_set volD zVol xs hxi, ← hws] at ih
    rw [← ih]
    by_cases hi : i = 0
    · subst hi
      rw [if_pos rfl] at hc
      subst hc
      rw [h.loop]
      repeat (conv => lhs; whnf; arg 2; tactic => first | exact g1 | exact hmx | exact hg | exact hx | exact congrArg not hmx | exact congrArg not hg | exact congrArg not hx | exact g2)
      rfl
    · rw [if_neg hi] at hc
      subst hc
      have hwd : wideIx true 2 i i 1 2 (.agg [.str x.name, .hw 1]) = some (1, 1) := by simp [wideIx, hwIx, AV.cells, Nat.blt]
      rw [h.loop]
      repeat (conv => lhs; whnf; arg 2; tactic => first | exact g1 | exact hmx | exact hg | exact hx | exact hwd | exact congrArg not hmx | exact congrArg not hg | exact congrArg not hx | exact congrArg not hwd | exact g2)
      rfl
theorem ev_toVolS (xs : List VolM) (hs : xs.length < 2000000) (hb : ∀ v ∈ xs, v.blocks.length < 2000000) : W f_laws_toVolS [.sl .br (xs.map volD)] [] = some (.hw 0, [.row 2 xs.length (if xs.length = 0 then 0 else 1) (xs.map volD)]) := by
  have e := toVolS_loop h xs hs hb xs.length 0 0 (by omega) rfl
  rw [midL_zero, (by rw [List.length_map] : List.replicate xs.length zVol = List.replicate (xs.map volD).length zVol), nc0] at e
  rw [h.call]
  repeat (conv => lhs; whnf; arg 2; tactic => first | exact g1 | exact e | exact congrArg not e | exact g2)
  rfl
structure PoolLn (p : PoolM) : Prop where
  s : p.slots.length < 2000000
  v : p.vols.length < 2000000
  b : ∀ v ∈ p.vols, v.blocks.length < 2000000
def volRow (vs : List VolM) : Obj := .row 2 vs.length (if vs.length = 0 then 0 else 1) (vs.map volD)
theorem ev_toPool (p : PoolM) (hp : PoolLn p) : W f_laws_toPool [poolA p] [] = some (.agg [.hw 0, .hw 1], [.row 2 0 0 (p.slots.map slotD), volRow p.vols]) := by
  rw [h.call]
  repeat (conv => lhs; whnf; arg 2; tactic => first | exact g1 | exact ev_toSlotS h _ hp.s | exact ev_toVolS h _ hp.v hp.b | exact g2)
  rfl
theorem ev_toLog (g : LogM) (hp : PoolLn g.base) (ho : g.ops.length < 2000000) : W f_laws_toLog [logA g] [] = some (.agg [.hw 0, .hw 1, .hw 2, .int .i64 g.safe], [.row 2 0 0 (g.base.slots.map slotD), volRow g.base.vols, .row 5 0 0 (g.ops.map opD)]) := by
  rw [h.call]
  repeat (conv => lhs; whnf; arg 2; tactic => first | exact g1 | exact ev_toPool h _ hp | exact ev_toOpS h _ ho | exact g2)
  rfl
end
end Go.Gn

namespace Go.Gn
open Go
set_option linter.unusedVariables false
set_option linter.unusedSimpArgs false
set_option maxRecDepth 100000
set_option maxHeartbeats 8000000
section
variable {W : CallF} {L : LoopF} {E : EqF} {T : Prop → Bool} (h : IsK G W L E T)
include h
theorem ev_eqSlot (x : SlotM) : W f_laws_eqSlot [.agg [.str x.text, .int .i64 x.uses], .agg [.str x.text, .int .i64 x.uses]] [] = some (.bool true, []) := by
  rw [h.call]
  repeat (conv => lhs; whnf; arg 2; tactic => first | exact g1 | exact congrArg not (seq_refl x.text) | exact bne_self_eq_false _ | exact g2)
  rfl
theorem ev_eqOp (x : OpM) : W f_laws_eqOp [.agg (opC x), .agg (opC x)] [] = some (.bool true, []) := by
  rw [h.call]
  repeat (conv => lhs; whnf; arg 2; tactic => first | exact g1 | exact congrArg not (seq_refl x.name) | exact congrArg not (seq_refl x.to) | exact congrArg not (seq_refl x.text) | exact bne_self_eq_false _ | exact bne_self_eq_false _ | exact g2)
  rfl
theorem eqSlotS_loop (xs : List SlotM) (hs : xs.length < 2000000) : ∀ (m i : Nat), i + m = xs.length → L (norm 0 cf79.live) (exitN 0 cf79.out (evCW W L G cf79 0 c79l0)) ⟨[(0, .sl .br (xs.map slotD)), (1, .sl .br (xs.map slotD)), (5, .int .i64 (i : Nat))], []⟩ =
    some (.ext 0, ⟨[(4, .top)], []⟩)
  | 0, i, hm => by
    rw [h.loop]
    repeat (conv => lhs; whnf; arg 2; tactic => first | exact g1 | exact g2)
    rfl
  | m + 1, i, hm => by
    obtain ⟨x, hxi⟩ := get_some (xs := xs) (i := i) (by omega)
    have hmx := map_get (f := slotD) hxi
    have hws := wrap_succ (i := i) (by omega)
    have ih := eqSlotS_loop xs hs m (i + 1) (by omega)
    rw [← hws] at ih
    rw [← ih, h.loop]
    repeat (conv => lhs; whnf; arg 2; tactic => first | exact g1 | exact hmx | exact ev_eqSlot h x | exact congrArg not hmx | exact g2)
    rfl
theorem ev_eqSlotS (xs : List SlotM) (hs : xs.length < 2000000) : W f_laws_eqSlotS [.sl .br (xs.map slotD), .sl .br (xs.map slotD)] [] = some (.bool true, []) := by
  have e := eqSlotS_loop h xs hs xs.length 0 (by omega)
  rw [nc0] at e
  rw [h.call]
  repeat (conv => lhs; whnf; arg 2; tactic => first | exact g1 | exact bne_self_eq_false _ | exact e | exact congrArg not e | exact g2)
  rfl
theorem eqIntS_loop (xs : List Int) (hs : xs.length < 2000000) : ∀ (m i : Nat), i + m = xs.length → L (norm 0 cf169.live) (exitN 0 cf169.out (evCW W L G cf169 0 c169l0)) ⟨[(0, .sl .br (xs.map intD)), (1, .sl .br (xs.map intD)), (5, .int .i64 (i : Nat))], []⟩ =
    some (.ext 0, ⟨[(4, .top)], []⟩)
  | 0, i, hm => by
    rw [h.loop]
    repeat (conv => lhs; whnf; arg 2; tactic => first | exact g1 | exact g2)
    rfl
  | m + 1, i, hm => by
    obtain ⟨x, hxi⟩ := get_some (xs := xs) (i := i) (by omega)
    have hmx := map_get (f := intD) hxi
    have hws := wrap_succ (i := i) (by omega)
    have ih := eqIntS_loop xs hs m (i + 1) (by omega)
    rw [← hws] at ih
    rw [← ih, h.loop]
    repeat (conv => lhs; whnf; arg 2; tactic => first | exact g1 | exact hmx | exact bne_self_eq_false _ | exact congrArg not hmx | exact g2)
    rfl
theorem ev_eqIntS (xs : List Int) (hs : xs.length < 2000000) : W f_laws_eqIntS [.sl .br (xs.map intD), .sl .br (xs.map intD)] [] = some (.bool true, []) := by
  have e := eqIntS_loop h xs hs xs.length 0 (by omega)
  rw [nc0] at e
  rw [h.call]
  repeat (conv => lhs; whnf; arg 2; tactic => first | exact g1 | exact bne_self_eq_false _ | exact e | exact congrArg not e | exact g2)
  rfl
theorem ev_eqVol (x : VolM) (hs : x.blocks.length < 2000000) : W f_laws_eqVol [.agg [.str x.name, .sl .br (x.blocks.map intD)], .agg [.str x.name, .sl .br (x.blocks.map intD)]] [] = some (.bool true, []) := by
  rw [h.call]
  repeat (conv => lhs; whnf; arg 2; tactic => first | exact g1 | exact congrArg not (seq_refl x.name) | exact ev_eqIntS h x.blocks hs | exact g2)
  rfl
theorem eqVolS_loop (xs : List VolM) (hs : xs.length < 2000000) (hb : ∀ v ∈ xs, v.blocks.length < 2000000) : ∀ (m i : Nat), i + m = xs.length → L (norm 0 cf80.live) (exitN 0 cf80.out (evCW W L G cf80 0 c80l0)) ⟨[(0, .sl .br (xs.map volD)), (1, .sl .br (xs.map volD)), (5, .int .i64 (i : Nat))], []⟩ =
    some (.ext 0, ⟨[(4, .top)], []⟩)
  | 0, i, hm => by
    rw [h.loop]
    repeat (conv => lhs; whnf; arg 2; tactic => first | exact g1 | exact g2)
    rfl
  | m + 1, i, hm => by
    obtain ⟨x, hxi⟩ := get_some (xs := xs) (i := i) (by omega)
    have hmx := map_get (f := volD) hxi
    have hx := ev_eqVol h x (hb x (List.mem_of_getElem? hxi))
    have hws := wrap_succ (i := i) (by omega)
    have ih := eqVolS_loop xs hs hb m (i + 1) (by omega)
    rw [← hws] at ih
    rw [← ih, h.loop]
    repeat (conv => lhs; whnf; arg 2; tactic => first | exact g1 | exact hmx | exact hx | exact congrArg not hmx | exact congrArg not hx | exact g2)
    rfl
theorem ev_eqVolS (xs : List VolM) (hs : xs.length < 2000000) (hb : ∀ v ∈ xs, v.blocks.length < 2000000) : W f_laws_eqVolS [.sl .br (xs.map volD), .sl .br (xs.map volD)] [] = some (.bool true, []) := by
  have e := eqVolS_loop h xs hs hb xs.length 0 (by omega)
  rw [nc0] at e
  rw [h.call]
  repeat (conv => lhs; whnf; arg 2; tactic => first | exact g1 | exact bne_self_eq_false _ | exact e | exact congrArg not e | exact g2)
  rfl
theorem eqOpS_loop (xs : List OpM) (hs : xs.length < 2000000) : ∀ (m i : Nat), i + m = xs.length → L (norm 0 cf81.live) (exitN 0 cf81.out (evCW W L G cf81 0 c81l0)) ⟨[(0, .sl .br (xs.map opD)), (1, .sl .br (xs.map opD)), (5, .int .i64 (i : Nat))], []⟩ =
    some (.ext 0, ⟨[(4, .top)], []⟩)
  | 0, i, hm => by
    rw [h.loop]
    repeat (conv => lhs; whnf; arg 2; tactic => first | exact g1 | exact g2)
    rfl
  | m + 1, i, hm => by
    obtain ⟨x, hxi⟩ := get_some (xs := xs) (i := i) (by omega)
    have hmx := map_get (f := opD) hxi
    have hws := wrap_succ (i := i) (by omega)
    have ih := eqOpS_loop xs hs m (i + 1) (by omega)
    rw [← hws] at ih
    rw [← ih, h.loop]
    repeat (conv => lhs; whnf; arg 2; tactic => first | exact g1 | exact hmx | exact ev_eqOp h x | exact congrArg not hmx | exact g2)
    rfl
theorem ev_eqOpS (xs : List OpM) (hs : xs.length < 2000000) : W f_laws_eqOpS [.sl .br (xs.map opD), .sl .br (xs.map opD)] [] = some (.bool true, []) := by
  have e := eqOpS_loop h xs hs xs.length 0 (by omega)
  rw [nc0] at e
  rw [h.call]
  repeat (conv => lhs; whnf; arg 2; tactic => first | exact g1 | exact bne_self_eq_false _ | exact e | exact congrArg not e | exact g2)
  rfl
theorem ev_eqPool (p : PoolM) (hp : PoolLn p) : W f_laws_eqPool [poolA p, poolA p] [] = some (.bool true, []) := by
  rw [h.call]
  repeat (conv => lhs; whnf; arg 2; tactic => first | exact g1 | exact ev_eqSlotS h _ hp.s | exact ev_eqVolS h _ hp.v hp.b | exact g2)
  rfl
theorem ev_eqLog (g : LogM) (hp : PoolLn g.base) (ho : g.ops.length < 2000000) : W f_laws_eqLog [logA g, logA g] [] = some (.bool true, []) := by
  rw [h.call]
  repeat (conv => lhs; whnf; arg 2; tactic => first | exact g1 | exact ev_eqPool h _ hp | exact ev_eqOpS h _ ho | exact bne_self_eq_false _ | exact g2)
  rfl
end
end Go.Gn

namespace Go.Gn
open Go
set_option linter.unusedVariables false
set_option linter.unusedSimpArgs false
set_option maxRecDepth 100000
set_option maxHeartbeats 8000000
section
variable {W : CallF} {L : LoopF} {E : EqF} {T : Prop → Bool} (h : IsK G W L E T)
include h
theorem markText_loop : ∀ (m : Nat) (k : Int) (s : Str), 0 ≤ k → k < 10 ^ m → k ≤ 9000000000 → s.size + m ≤ 1000 → ∃ s' : Str, ∃ b0 : AV, s'.size ≤ s.size + m ∧ L (norm 0 cf128.live) (exitN 0 cf128.out (evCW W L G cf128 0 c128l0)) ⟨[(0, .int .i64 k), (3, .str s)], []⟩ =
    some (.ext 0, ⟨[(2, b0), (3, .str s')], []⟩)
  | 0, k, s, h1, h2, hb, h3 => by
    have : k = 0 := by simp at h2; omega
    subst this
    refine ⟨s, .top, by omega, ?_⟩
    rw [h.loop]
    repeat (conv => lhs; whnf; arg 2; tactic => first | exact g1 | exact g2)
    rfl
  | m + 1, k, s, h1, h2, hb, h3 => by
    by_cases hk : k = 0
    · subst hk
      refine ⟨s, .top, by omega, ?_⟩
      rw [h.loop]
      repeat (conv => lhs; whnf; arg 2; tactic => first | exact g1 | exact g2)
      rfl
    · have hsz : (strOfNums [IntKind.u8.wrap (IntKind.i64.wrap (48 + k.tmod 10))] ++ s).size = 1 + s.size := by rw [ByteArray.size_append]; rfl
      have hd : decide ((strOfNums [IntKind.u8.wrap (IntKind.i64.wrap (48 + k.tmod 10))]).size + ByteArray.size s ≤ 9223372036854775807) = true := decide_eq_true (by rw [← ByteArray.size_append, hsz]; omega)
      have hq : k.tdiv 10 = k / 10 := Int.tdiv_eq_ediv_of_nonneg h1
      have h10 : k < 10 ^ m * 10 := by rw [Int.pow_succ] at h2; exact h2
      have hk10 : k / 10 < 10 ^ m := by omega
      have hw : IntKind.i64.wrap (k.tdiv 10) = k / 10 := by rw [hq]; exact wrap_id (by omega) (by omega)
      obtain ⟨s', b0, hs', ih⟩ := markText_loop m (k / 10) _ (by omega) hk10 (by omega) (by rw [hsz]; omega)
      refine ⟨s', b0, by omega, ?_⟩
      rw [← ih, ← hw, h.loop]
      repeat (conv => lhs; whnf; arg 2; tactic => first | exact g1 | exact hd | exact congrArg not hd | exact g2)
      rfl
theorem ev_markText (k : Int) (h1 : 0 ≤ k) (h2 : k ≤ 1000000000) : ∃ s : Str, s.size < 1000 ∧ W f_laws_markText [.int .i64 k] [] = some (.str s, []) := by
  by_cases hk : k = 0
  · subst hk
    refine ⟨⟨#[109, 48]⟩, by decide, ?_⟩
    rw [h.call]
    repeat (conv => lhs; whnf; arg 2; tactic => first | exact g1 | exact g2)
    rfl
  · obtain ⟨s, b0, hs, e⟩ := markText_loop h 10 k ⟨#[]⟩ h1 (by omega) (by omega) (by decide)
    have hsz : ((⟨#[109]⟩ : Str) ++ s).size = 1 + s.size := by rw [ByteArray.size_append]; rfl
    have hs0 : s.size ≤ 0 + 10 := hs
    have hd : decide ((⟨#[109]⟩ : Str).size + ByteArray.size s ≤ 9223372036854775807) = true := decide_eq_true (by rw [← ByteArray.size_append, hsz]; omega)
    refine ⟨⟨#[109]⟩ ++ s, by rw [hsz]; omega, ?_⟩
    rw [h.call]
    repeat (conv => lhs; whnf; arg 2; tactic => first | exact g1 | exact e | exact hd | exact congrArg not e | exact congrArg not hd | exact g2)
    rfl
end
end Go.Gn

namespace Go.Gn
open Go
set_option linter.unusedVariables false
set_option linter.unusedSimpArgs false
set_option linter.unusedSectionVars false
set_option maxRecDepth 100000
set_option maxHeartbeats 1000000
noncomputable def mt (W : CallF) (k : Int) : Str := match W f_laws_markText [.int .i64 k] [] with
  | some (.str s, _) => s
  | _ => noText
noncomputable def mkSlots (W : CallF) : List SlotM → Int → List SlotM
  | [], _ => []
  | _ :: xs, k => ⟨mt W k, k + 1⟩ :: mkSlots W xs (k + 2)
def mkInts : List Int → Int → List Int
  | [], _ => []
  | _ :: xs, k => k :: mkInts xs (k + 1)
noncomputable def mkVols (W : CallF) : List VolM → Int → List VolM
  | [], _ => []
  | v :: vs, k => ⟨mt W k, mkInts v.blocks (k + 1)⟩ :: mkVols W vs (k + 1 + v.blocks.length)
def endVols : List VolM → Int → Int
  | [], k => k
  | v :: vs, k => endVols vs (k + 1 + v.blocks.length)
noncomputable def mkOps (W : CallF) : List OpM → Int → List OpM
  | [], _ => []
  | _ :: xs, k => ⟨k, mt W (k + 1), mt W (k + 2), k + 3, mt W (k + 4)⟩ :: mkOps W xs (k + 5)
theorem set_cut {α : Type} {xs : List α} {i : Nat} {x y : α} (h : xs[i]? = some x) : (xs.set i y).take (i + 1) = xs.take i ++ [y] ∧ (xs.set i y).drop (i + 1) = xs.drop (i + 1) := by
  have hi := (List.getElem?_eq_some_iff.mp h).1
  constructor
  · rw [List.take_add_one, List.take_set_of_le (Nat.le_refl i), get_set_self hi]; rfl
  · rw [List.drop_set_of_lt (by omega)]
theorem endVols_ge : ∀ (vs : List VolM) (k : Int), k ≤ endVols vs k
  | [], k => Int.le_refl _
  | v :: vs, k => by have := endVols_ge vs (k + 1 + v.blocks.length); simp only [endVols]; omega
section
variable {W : CallF} {L : LoopF} {E : EqF} {T : Prop → Bool} (h : IsK G W L E T)
include h
theorem ev_mt (k : Int) (h1 : 0 ≤ k) (h2 : k ≤ 1000000000) : W f_laws_markText [.int .i64 k] [] = some (.str (mt W k), []) := by
  obtain ⟨s, _, e⟩ := ev_markText h k h1 h2
  rw [mt, e]
theorem markSlotS_loop (c : Nat) (hc : c = 0 ∨ c = 2) : ∀ (m i : Nat) (k : Int) (ys : List SlotM), i + m = ys.length → 0 ≤ k → k + 2 * m ≤ 1000000000 → ys.length < 2000000 → L (norm 1 cf83.live) (exitN 1 cf83.out (evCW W L G cf83 1 c83l0)) ⟨[(0, .hw 0), (1, .int .i64 k), (5, .int .i64 (i : Nat))], [.row 2 0 c (ys.map slotD)]⟩ =
    some (.ext 0, ⟨[(1, .int .i64 (k + 2 * m)), (4, .top)], [.row 2 0 c ((ys.take i ++ mkSlots W (ys.drop i) k).map slotD)]⟩)
  | 0, i, k, ys, hm, h1, h2, hl => by
    rw [List.drop_eq_nil_of_le (show ys.length ≤ i by omega), List.take_of_length_le (show ys.length ≤ i by omega), mkSlots, List.append_nil]
    have e0 : k + 2 * ((0 : Nat) : Int) = k := by omega
    rw [e0, h.loop]
    repeat (conv => lhs; whnf; arg 2; tactic => first | exact g1 | exact g2)
    rfl
  | m + 1, i, k, ys, hm, h1, h2, hl => by
    obtain ⟨x, hxi⟩ := get_some (xs := ys) (i := i) (by omega)
    have hmx := map_get (f := slotD) hxi
    have ek := ev_mt h k h1 (by omega)
    have hw1 : IntKind.i64.wrap (k + 1) = k + 1 := wrap_id (by omega) (by omega)
    have hw2 : IntKind.i64.wrap (k + 1 + 1) = k + 2 := by rw [wrap_id (by omega) (by omega)]; omega
    have ih := markSlotS_loop c hc m (i + 1) (k + 2) (ys.set i ⟨mt W k, k + 1⟩) (by rw [List.length_set]; omega) (by omega) (by omega) (by rw [List.length_set]; omega)
    obtain ⟨t1, t2⟩ := set_cut (y := (⟨mt W k, k + 1⟩ : SlotM)) hxi
    rw [t1, t2, List.append_assoc] at ih
    have e0 : k + 2 * ((m + 1 : Nat) : Int) = k + 2 + 2 * (m : Int) := by omega
    have hg1 : ((ys.map slotD).set i [D.str (mt W k), .int .i64 x.uses])[i]? = some [D.str (mt W k), .int .i64 x.uses] := get_set_self (by rw [List.length_map]; omega)
    have hss : ((ys.map slotD).set i [D.str (mt W k), .int .i64 x.uses]).set i [D.str (mt W k), .int .i64 (k + 1)] = (ys.set i ⟨mt W k, k + 1⟩).map slotD := by
      rw [List.set_set]; exact set_map slotD ys i ⟨mt W k, k + 1⟩
    rw [drop_cons hxi, mkSlots, e0]
    refine Eq.trans ?_ ih
    rw [← hss, h.loop]
    rcases hc with rfl | rfl
    all_goals
     conv => lhs; whnf; arg 2; tactic => exact dT
     conv => lhs; whnf; arg 2; tactic => exact ek
     conv => lhs; whnf; arg 2; tactic => exact dT
     conv => lhs; whnf; arg 2; tactic => exact hmx
     conv => lhs; whnf; arg 2; tactic => exact dT
     conv => lhs; whnf; arg 2; tactic => exact hg1
     conv => lhs; whnf
     rw [hw1, hw2, wrap_succ (by omega)]
     rfl
theorem ev_markSlotS (c : Nat) (hc : c = 0 ∨ c = 2) (ys : List SlotM) (k : Int) (h1 : 0 ≤ k) (h2 : k + 2 * ys.length ≤ 1000000000) (hl : ys.length < 2000000) : W f_laws_markSlotS [.hw 0, .int .i64 k] [.row 2 0 c (ys.map slotD)] = some (.int .i64 (k + 2 * ys.length), [.row 2 0 c ((mkSlots W ys k).map slotD)]) := by
  have e := markSlotS_loop h c hc ys.length 0 k ys (by omega) h1 h2 hl
  rw [nc0, List.take_zero, List.nil_append, List.drop_zero] at e
  rw [h.call]
  repeat (conv => lhs; whnf; arg 2; tactic => first | exact g1 | exact e | exact congrArg not e | exact g2)
  rfl
theorem markIntS_loop (N : Nat) (j : Nat) (hj : j < N) (nm : Str) : ∀ (m i : Nat) (k : Int) (bs : List Int) (vs : List VolM), vs[j]? = some ⟨nm, bs⟩ → i + m = bs.length → 0 ≤ k → k + m ≤ 1000000000 → bs.length < 2000000 → L (norm 1 cf129.live) (exitN 1 cf129.out (evCW W L G cf129 1 c129l0)) ⟨[(0, .sub 0 j bs.length), (1, .int .i64 k), (5, .int .i64 (i : Nat))], [.row 2 N 1 (vs.map volD)]⟩ =
    some (.ext 0, ⟨[(1, .int .i64 (k + m)), (4, .top)], [.row 2 N 1 ((vs.set j ⟨nm, bs.take i ++ mkInts (bs.drop i) k⟩).map volD)]⟩)
  | 0, i, k, bs, vs, hv, hm, h1, h2, hl => by
    rw [List.drop_eq_nil_of_le (show bs.length ≤ i by omega), List.take_of_length_le (show bs.length ≤ i by omega), mkInts, List.append_nil]
    have e0 : k + ((0 : Nat) : Int) = k := by omega
    have e1 : vs.set j ⟨nm, bs⟩ = vs := by
      apply List.ext_getElem?
      intro q
      rw [List.getElem?_set]
      split
      · rename_i hq; subst hq; rw [if_pos (lt_of_get hv), hv]
      · rfl
    rw [e0, e1, h.loop]
    repeat (conv => lhs; whnf; arg 2; tactic => first | exact g1 | exact g2)
    rfl
  | m + 1, i, k, bs, vs, hv, hm, h1, h2, hl => by
    obtain ⟨x, hx⟩ := get_some (xs := bs) (i := i) (by omega)
    have hjl := lt_of_get hv
    have ih := markIntS_loop N j hj nm m (i + 1) (k + 1) (bs.set i k) (vs.set j ⟨nm, bs.set i k⟩) (get_set_self hjl) (by rw [List.length_set]; omega) (by omega) (by omega) (by rw [List.length_set]; omega)
    have t1 : (bs.set i k).take (i + 1) = bs.take i ++ [k] := by rw [List.take_add_one, List.take_set_of_le (Nat.le_refl i), get_set_self (by omega)]; rfl
    have t2 : (bs.set i k).drop (i + 1) = bs.drop (i + 1) := List.drop_set_of_lt (by omega)
    rw [List.length_set, List.set_set, t1, t2, List.append_assoc] at ih
    have e0 : k + ((m + 1 : Nat) : Int) = k + 1 + (m : Int) := by omega
    rw [drop_cons hx, mkInts, e0]
    refine Eq.trans ?_ ih
    rw [h.loop]
    repeat (conv => lhs; whnf; arg 2; tactic => first | exact g1 | exact map_get hv | exact map_get hx | exact g2)
    conv => lhs; whnf
    rw [wrap_succ (by omega), wrap_id (n := k + 1) (by omega) (by omega)]
    have es := wr_es vs ⟨nm, bs⟩ j i k
    rw [← es]
theorem ev_markIntS (N : Nat) (j : Nat) (hj : j < N) (nm : Str) (k : Int) (bs : List Int) (vs : List VolM) (hv : vs[j]? = some ⟨nm, bs⟩) (h1 : 0 ≤ k) (h2 : k + bs.length ≤ 1000000000) (hl : bs.length < 2000000) : W f_laws_markIntS [.sub 0 j bs.length, .int .i64 k] [.row 2 N 1 (vs.map volD)] =
    some (.int .i64 (k + bs.length), [.row 2 N 1 ((vs.set j ⟨nm, mkInts bs k⟩).map volD)]) := by
  have e := markIntS_loop h N j hj nm bs.length 0 k bs vs hv (by omega) h1 h2 hl
  rw [nc0, List.take_zero, List.nil_append, List.drop_zero] at e
  rw [h.call]
  repeat (conv => lhs; whnf; arg 2; tactic => first | exact g1 | exact e | exact congrArg not e | exact g2)
  rfl
theorem markVolS_loop (N : Nat) : ∀ (m i : Nat) (k : Int) (ys : List VolM), ys.length = N → i + m = ys.length → 0 ≤ k → endVols (ys.drop i) k ≤ 1000000000 → ys.length < 2000000 → (∀ v ∈ ys.drop i, v.blocks.length < 2000000) → L (norm 1 cf84.live) (exitN 1 cf84.out (evCW W L G cf84 1 c84l0)) ⟨[(0, .hw 0), (1, .int .i64 k), (5, .int .i64 (i : Nat))], [.row 2 N 1 (ys.map volD)]⟩ =
    some (.ext 0, ⟨[(1, .int .i64 (endVols (ys.drop i) k)), (4, .top)], [.row 2 N 1 ((ys.take i ++ mkVols W (ys.drop i) k).map volD)]⟩)
  | 0, i, k, ys, hN, hm, h1, h2, hl, hb => by
    rw [List.drop_eq_nil_of_le (show ys.length ≤ i by omega), List.take_of_length_le (show ys.length ≤ i by omega), mkVols, List.append_nil, endVols]
    rw [h.loop]
    repeat (conv => lhs; whnf; arg 2; tactic => first | exact g1 | exact g2)
    rfl
  | m + 1, i, k, ys, hN, hm, h1, h2, hl, hb => by
    obtain ⟨v, hv⟩ := get_some (xs := ys) (i := i) (by omega)
    have hil := lt_of_get hv
    rw [drop_cons hv, endVols] at h2
    rw [drop_cons hv] at hb
    have hvb := hb v List.mem_cons_self
    have hend := endVols_ge (ys.drop (i + 1)) (k + 1 + v.blocks.length)
    have ek := ev_mt h k h1 (by omega)
    have hw1 : IntKind.i64.wrap (k + 1) = k + 1 := wrap_id (by omega) (by omega)
    have hg1 : ((ys.map volD).set i [D.str (mt W k), .sl (v.blocks.map intD)])[i]? = some [D.str (mt W k), .sl (v.blocks.map intD)] := get_set_self (by rw [List.length_map]; omega)
    have em : W f_laws_markIntS [.sub 0 i (v.blocks.map intD).length, .int .i64 (IntKind.i64.wrap (k + 1))] [.row 2 N 1 ((ys.map volD).set i (volD ⟨mt W k, v.blocks⟩))] = some (.int .i64 (k + 1 + v.blocks.length), [.row 2 N 1 ((ys.set i ⟨mt W k, mkInts v.blocks (k + 1)⟩).map volD)]) := by
      rw [hw1, set_map, List.length_map]
      have e := ev_markIntS h N i (by omega) (mt W k) (k + 1) v.blocks (ys.set i ⟨mt W k, v.blocks⟩) (get_set_self hil) (by omega) (by omega) hvb
      rw [List.set_set] at e
      exact e
    have ih := markVolS_loop N m (i + 1) (k + 1 + v.blocks.length) (ys.set i ⟨mt W k, mkInts v.blocks (k + 1)⟩) (by rw [List.length_set]; exact hN) (by rw [List.length_set]; omega) (by omega)
    have t1 : (ys.set i ⟨mt W k, mkInts v.blocks (k + 1)⟩).take (i + 1) = ys.take i ++ [⟨mt W k, mkInts v.blocks (k + 1)⟩] := by rw [List.take_add_one, List.take_set_of_le (Nat.le_refl i), get_set_self hil]; rfl
    have t2 : (ys.set i ⟨mt W k, mkInts v.blocks (k + 1)⟩).drop (i + 1) = ys.drop (i + 1) := List.drop_set_of_lt (by omega)
    rw [t1, t2, List.append_assoc] at ih
    rw [drop_cons hv, mkVols, endVols]
    refine Eq.trans ?_ (ih h2 (by rw [List.length_set]; exact hl) (fun u hu => hb u (List.mem_cons_of_mem _ hu)))
    rw [h.loop]
    conv => lhs; whnf; arg 2; tactic => exact dT
    conv => lhs; whnf; arg 2; tactic => exact ek
    conv => lhs; whnf; arg 2; tactic => exact dT
    conv => lhs; whnf; arg 2; tactic => exact map_get hv
    conv => lhs; whnf; arg 2; tactic => exact dT
    conv => lhs; whnf; arg 2; tactic => exact hg1
    conv => lhs; whnf; arg 2; tactic => exact blt_t (by omega)
    conv => lhs; whnf; arg 2; tactic => exact em
    conv => lhs; whnf
    rw [wrap_succ (by omega)]
theorem ev_markVolS (ys : List VolM) (k : Int) (h1 : 0 ≤ k) (h2 : endVols ys k ≤ 1000000000) (hl : ys.length < 2000000) (hb : ∀ v ∈ ys, v.blocks.length < 2000000) : W f_laws_markVolS [.hw 0, .int .i64 k] [.row 2 ys.length 1 (ys.map volD)] = some (.int .i64 (endVols ys k), [.row 2 ys.length 1 ((mkVols W ys k).map volD)]) := by
  have e := markVolS_loop h ys.length ys.length 0 k ys rfl (by omega) h1 h2 hl hb
  rw [nc0, List.take_zero, List.nil_append, List.drop_zero] at e
  rw [h.call]
  repeat (conv => lhs; whnf; arg 2; tactic => first | exact g1 | exact e | exact congrArg not e | exact g2)
  rfl
theorem markOpS_loop (c : Nat) (hc : c = 0 ∨ c = 5) : ∀ (m i : Nat) (k : Int) (ys : List OpM), i + m = ys.length → 0 ≤ k → k + 5 * m ≤ 1000000000 → ys.length < 2000000 → L (norm 1 cf82.live) (exitN 1 cf82.out (evCW W L G cf82 1 c82l0)) ⟨[(0, .hw 0), (1, .int .i64 k), (5, .int .i64 (i : Nat))], [.row 5 0 c (ys.map opD)]⟩ =
    some (.ext 0, ⟨[(1, .int .i64 (k + 5 * m)), (4, .top)], [.row 5 0 c ((ys.take i ++ mkOps W (ys.drop i) k).map opD)]⟩)
  | 0, i, k, ys, hm, h1, h2, hl => by
    rw [List.drop_eq_nil_of_le (show ys.length ≤ i by omega), List.take_of_length_le (show ys.length ≤ i by omega), mkOps, List.append_nil]
    have e0 : k + 5 * ((0 : Nat) : Int) = k := by omega
    rw [e0, h.loop]
    repeat (conv => lhs; whnf; arg 2; tactic => first | exact g1 | exact g2)
    rfl
  | m + 1, i, k, ys, hm, h1, h2, hl => by
    obtain ⟨x, hxi⟩ := get_some (xs := ys) (i := i) (by omega)
    have hil := lt_of_get hxi
    have w1 : IntKind.i64.wrap (k + 1) = k + 1 := wrap_id (by omega) (by omega)
    have w2 : IntKind.i64.wrap (k + 1 + 1) = k + 2 := by rw [wrap_id (by omega) (by omega)]; omega
    have w3 : IntKind.i64.wrap (k + 2 + 1) = k + 3 := by rw [wrap_id (by omega) (by omega)]; omega
    have w4 : IntKind.i64.wrap (k + 3 + 1) = k + 4 := by rw [wrap_id (by omega) (by omega)]; omega
    have w5 : IntKind.i64.wrap (k + 4 + 1) = k + 5 := by rw [wrap_id (by omega) (by omega)]; omega
    have k1 := ev_mt h (k + 1) (by omega) (by omega)
    have k2 := ev_mt h (k + 2) (by omega) (by omega)
    have k4 := ev_mt h (k + 4) (by omega) (by omega)
    rw [← w1] at k1
    rw [← w2, ← w1] at k2
    rw [← w4, ← w3, ← w2, ← w1] at k4
    have ih := markOpS_loop c hc m (i + 1) (k + 5) (ys.set i ⟨k, mt W (k + 1), mt W (k + 2), k + 3, mt W (k + 4)⟩) (by rw [List.length_set]; omega) (by omega) (by omega) (by rw [List.length_set]; omega)
    have t1 : (ys.set i ⟨k, mt W (k + 1), mt W (k + 2), k + 3, mt W (k + 4)⟩).take (i + 1) = ys.take i ++ [⟨k, mt W (k + 1), mt W (k + 2), k + 3, mt W (k + 4)⟩] := by rw [List.take_add_one, List.take_set_of_le (Nat.le_refl i), get_set_self hil]; rfl
    have t2 : (ys.set i ⟨k, mt W (k + 1), mt W (k + 2), k + 3, mt W (k + 4)⟩).drop (i + 1) = ys.drop (i + 1) := List.drop_set_of_lt (by omega)
    rw [t1, t2, List.append_assoc] at ih
    have e0 : k + 5 * ((m + 1 : Nat) : Int) = k + 5 + 5 * (m : Int) := by omega
    rw [drop_cons hxi, mkOps, e0]
    refine Eq.trans ?_ ih
    rw [h.loop]
    rcases hc with rfl | rfl
    all_goals
     conv => lhs; whnf; arg 2; tactic => exact dT
     conv => lhs; whnf; arg 2; tactic => exact dT
     conv => lhs; whnf; arg 2; tactic => exact map_get hxi
     conv => lhs; whnf; arg 2; tactic => exact k1
     conv => lhs; whnf; arg 2; tactic => exact dT
     conv => lhs; whnf; arg 2; tactic => exact get_set_self (by simp; omega)
     conv => lhs; whnf; arg 2; tactic => exact k2
     conv => lhs; whnf; arg 2; tactic => exact dT
     conv => lhs; whnf; arg 2; tactic => exact get_set_self (by simp; omega)
     conv => lhs; whnf; arg 2; tactic => exact dT
     conv => lhs; whnf; arg 2; tactic => exact get_set_self (by simp; omega)
     conv => lhs; whnf; arg 2; tactic => exact k4
     conv => lhs; whnf; arg 2; tactic => exact dT
     conv => lhs; whnf; arg 2; tactic => exact get_set_self (by simp; omega)
     conv => lhs; whnf
     simp only [List.set_set, w1, w2, w3, w4, w5]
     rw [wrap_succ (by omega), ← set_map]
     rfl
theorem ev_markOpS (c : Nat) (hc : c = 0 ∨ c = 5) (ys : List OpM) (k : Int) (h1 : 0 ≤ k) (h2 : k + 5 * ys.length ≤ 1000000000) (hl : ys.length < 2000000) : W f_laws_markOpS [.hw 0, .int .i64 k] [.row 5 0 c (ys.map opD)] = some (.int .i64 (k + 5 * ys.length), [.row 5 0 c ((mkOps W ys k).map opD)]) := by
  have e := markOpS_loop h c hc ys.length 0 k ys (by omega) h1 h2 hl
  rw [nc0, List.take_zero, List.nil_append, List.drop_zero] at e
  rw [h.call]
  repeat (conv => lhs; whnf; arg 2; tactic => first | exact g1 | exact e | exact congrArg not e | exact g2)
  rfl
theorem ev_markVolS' (c : Nat) (ys : List VolM) (hc : c = 1 ∨ ys = []) (k : Int) (h1 : 0 ≤ k) (h2 : endVols ys k ≤ 1000000000) (hl : ys.length < 2000000) (hb : ∀ v ∈ ys, v.blocks.length < 2000000) : W f_laws_markVolS [.hw 0, .int .i64 k] [.row 2 ys.length c (ys.map volD)] = some (.int .i64 (endVols ys k), [.row 2 ys.length c ((mkVols W ys k).map volD)]) := by
  rcases hc with rfl | rfl
  · exact ev_markVolS h ys k h1 h2 hl hb
  · have e : L (norm 1 cf84.live) (exitN 1 cf84.out (evCW W L G cf84 1 c84l0)) ⟨[(0, .hw 0), (1, .int .i64 k), (5, .int .i64 ((0 : Nat) : Int))], [.row 2 0 c []]⟩ = some (.ext 0, ⟨[(1, .int .i64 k), (4, .top)], [.row 2 0 c []]⟩) := by
      rw [h.loop]
      repeat (conv => lhs; whnf; arg 2; tactic => first | exact g1 | exact g2)
      rfl
    rw [nc0] at e
    rw [h.call]
    repeat (conv => lhs; whnf; arg 2; tactic => first | exact g1 | exact e | exact congrArg not e | exact g2)
    rfl
end
end Go.Gn

namespace Go.Gn
open Go
set_option linter.unusedVariables false
set_option linter.unusedSimpArgs false
set_option linter.unusedSectionVars false
set_option maxRecDepth 100000
set_option maxHeartbeats 8000000
theorem drop_head {α : Type} {xs : List α} {i : Nat} {x : α} {l : List α} (h : xs.drop i = x :: l) : xs[i]? = some x ∧ xs.drop (i + 1) = l := by
  have h1 : xs[i]? = some x := by rw [← List.head?_drop, h]; rfl
  have h2 := drop_cons h1
  rw [h, List.cons.injEq] at h2
  exact ⟨h1, h2.2.symm⟩
theorem bne_self_int (n : Int) : (n != n) = false := bne_self_eq_false _
noncomputable def mkPool (W : CallF) (p : PoolM) (k : Int) : PoolM := ⟨mkSlots W p.slots k, mkVols W p.vols (k + 2 * p.slots.length)⟩
def endPool (p : PoolM) (k : Int) : Int := endVols p.vols (k + 2 * p.slots.length)
noncomputable def mkLog (W : CallF) (g : LogM) (k : Int) : LogM := ⟨mkPool W g.base k, mkOps W g.ops (endPool g.base k), g.safe⟩
def endLog (g : LogM) (k : Int) : Int := endPool g.base k + 5 * g.ops.length
section
variable {W : CallF} {L : LoopF} {E : EqF} {T : Prop → Bool} (h : IsK G W L E T)
include h
omit h in
theorem mkSlots_len : ∀ (ys : List SlotM) (k : Int), (mkSlots W ys k).length = ys.length
  | [], _ => rfl
  | _ :: ys, k => by simp [mkSlots, mkSlots_len ys]
omit h in
theorem mkInts_len : ∀ (ys : List Int) (k : Int), (mkInts ys k).length = ys.length
  | [], _ => rfl
  | _ :: ys, k => by simp [mkInts, mkInts_len ys]
omit h in
theorem mkVols_len : ∀ (ys : List VolM) (k : Int), (mkVols W ys k).length = ys.length
  | [], _ => rfl
  | _ :: ys, k => by simp [mkVols, mkVols_len ys]
omit h in
theorem mkOps_len : ∀ (ys : List OpM) (k : Int), (mkOps W ys k).length = ys.length
  | [], _ => rfl
  | _ :: ys, k => by simp [mkOps, mkOps_len ys]
theorem heldSlotS_loop (Z : List SlotM) : ∀ (ys : List SlotM) (i : Nat) (k : Int), Z.drop i = mkSlots W ys k → 0 ≤ k → k + 2 * ys.length ≤ 1000000000 → i + ys.length = Z.length → Z.length < 2000000 → L (norm 0 cf85.live) (exitN 0 cf85.out (evCW W L G cf85 0 c85l0)) ⟨[(0, .sl .br (Z.map slotD)), (1, .int .i64 k), (5, .int .i64 (i : Nat))], []⟩ =
    some (.ext 0, ⟨[(1, .int .i64 (k + 2 * ys.length)), (4, .top)], []⟩)
  | [], i, k, hz, h1, h2, hm, hl => by
    simp only [List.length_nil] at hm h2
    have e0 : k + 2 * (([] : List SlotM).length : Int) = k := by simp
    rw [e0, h.loop]
    repeat (conv => lhs; whnf; arg 2; tactic => first | exact g1 | exact g2)
    rfl
  | y :: ys, i, k, hz, h1, h2, hm, hl => by
    obtain ⟨hx, hz'⟩ := drop_head hz
    simp only [List.length_cons] at hm h2
    have ek := ev_mt h k h1 (by omega)
    have hw1 : IntKind.i64.wrap (k + 1) = k + 1 := wrap_id (by omega) (by omega)
    have hw2 : IntKind.i64.wrap (k + 1 + 1) = k + 2 := by rw [wrap_id (by omega) (by omega)]; omega
    have ih := heldSlotS_loop Z ys (i + 1) (k + 2) hz' (by omega) (by omega) (by omega) hl
    have e0 : k + 2 * ((y :: ys).length : Int) = k + 2 + 2 * (ys.length : Int) := by simp; omega
    rw [e0]
    refine Eq.trans ?_ ih
    rw [h.loop]
    have hbn : ((⟨mt W k, k + 1⟩ : SlotM).uses != IntKind.i64.wrap (k + 1)) = false := by rw [hw1]; exact bne_self_int _
    repeat (conv => lhs; whnf; arg 2; tactic => first | exact g1 | exact ek | exact congrArg not (seq_refl (mt W k)) | exact hbn | exact map_get hx | exact congrArg not ek | exact congrArg not hbn | exact g2)
    conv => lhs; whnf
    rw [hw1, hw2, wrap_succ (by omega)]
theorem ev_heldSlotS (ys : List SlotM) (k : Int) (h1 : 0 ≤ k) (h2 : k + 2 * ys.length ≤ 1000000000) (hl : ys.length < 2000000) : W f_laws_heldSlotS [.sl .br ((mkSlots W ys k).map slotD), .int .i64 k] [] = some (.int .i64 (k + 2 * ys.length), []) := by
  have e := heldSlotS_loop h (mkSlots W ys k) ys 0 k rfl h1 h2 (by rw [mkSlots_len]; omega) (by rw [mkSlots_len]; omega)
  rw [nc0] at e
  rw [h.call]
  repeat (conv => lhs; whnf; arg 2; tactic => first | exact g1 | exact e | exact congrArg not e | exact g2)
  rfl
theorem heldIntS_loop (Z : List Int) : ∀ (ys : List Int) (i : Nat) (k : Int), Z.drop i = mkInts ys k → 0 ≤ k → k + ys.length ≤ 1000000000 → i + ys.length = Z.length → Z.length < 2000000 → L (norm 0 cf130.live) (exitN 0 cf130.out (evCW W L G cf130 0 c130l0)) ⟨[(0, .sl .br (Z.map intD)), (1, .int .i64 k), (5, .int .i64 (i : Nat))], []⟩ =
    some (.ext 0, ⟨[(1, .int .i64 (k + ys.length)), (4, .top)], []⟩)
  | [], i, k, hz, h1, h2, hm, hl => by
    simp only [List.length_nil] at hm h2
    have e0 : k + (([] : List Int).length : Int) = k := by simp
    rw [e0, h.loop]
    repeat (conv => lhs; whnf; arg 2; tactic => first | exact g1 | exact g2)
    rfl
  | y :: ys, i, k, hz, h1, h2, hm, hl => by
    obtain ⟨hx, hz'⟩ := drop_head hz
    simp only [List.length_cons] at hm h2
    have hw1 : IntKind.i64.wrap (k + 1) = k + 1 := wrap_id (by omega) (by omega)
    have ih := heldIntS_loop Z ys (i + 1) (k + 1) hz' (by omega) (by omega) (by omega) hl
    have e0 : k + ((y :: ys).length : Int) = k + 1 + (ys.length : Int) := by simp; omega
    rw [e0]
    refine Eq.trans ?_ ih
    rw [h.loop]
    conv => lhs; whnf; arg 2; tactic => exact dT
    conv => lhs; whnf; arg 2; tactic => exact map_get hx
    conv => lhs; whnf; arg 2; tactic => exact bne_self_int k
    conv => lhs; whnf
    rw [hw1, wrap_succ (by omega)]
theorem ev_heldIntS (ys : List Int) (k : Int) (h1 : 0 ≤ k) (h2 : k + ys.length ≤ 1000000000) (hl : ys.length < 2000000) : W f_laws_heldIntS [.sl .br ((mkInts ys k).map intD), .int .i64 k] [] = some (.int .i64 (k + ys.length), []) := by
  have e := heldIntS_loop h (mkInts ys k) ys 0 k rfl h1 h2 (by rw [mkInts_len]; omega) (by rw [mkInts_len]; omega)
  rw [nc0] at e
  rw [h.call]
  repeat (conv => lhs; whnf; arg 2; tactic => first | exact g1 | exact e | exact congrArg not e | exact g2)
  rfl
theorem heldVolS_loop (Z : List VolM) : ∀ (ys : List VolM) (i : Nat) (k : Int), Z.drop i = mkVols W ys k → 0 ≤ k → endVols ys k ≤ 1000000000 → i + ys.length = Z.length → Z.length < 2000000 → (∀ v ∈ ys, v.blocks.length < 2000000) → L (norm 0 cf86.live) (exitN 0 cf86.out (evCW W L G cf86 0 c86l0)) ⟨[(0, .sl .br (Z.map volD)), (1, .int .i64 k), (5, .int .i64 (i : Nat))], []⟩ =
    some (.ext 0, ⟨[(1, .int .i64 (endVols ys k)), (4, .top)], []⟩)
  | [], i, k, hz, h1, h2, hm, hl, hb => by
    simp only [List.length_nil] at hm h2
    rw [endVols, h.loop]
    repeat (conv => lhs; whnf; arg 2; tactic => first | exact g1 | exact g2)
    rfl
  | y :: ys, i, k, hz, h1, h2, hm, hl, hb => by
    obtain ⟨hx, hz'⟩ := drop_head hz
    simp only [List.length_cons] at hm
    rw [endVols] at h2 ⊢
    have hend := endVols_ge ys (k + 1 + y.blocks.length)
    have ek := ev_mt h k h1 (by omega)
    have hw1 : IntKind.i64.wrap (k + 1) = k + 1 := wrap_id (by omega) (by omega)
    have eh : W f_laws_heldIntS [.sl .br ((mkInts y.blocks (k + 1)).map intD), .int .i64 (IntKind.i64.wrap (k + 1))] [] = some (.int .i64 (k + 1 + y.blocks.length), []) := by
      rw [hw1]; exact ev_heldIntS h y.blocks (k + 1) (by omega) (by omega) (hb y List.mem_cons_self)
    have ih := heldVolS_loop Z ys (i + 1) (k + 1 + y.blocks.length) hz' (by omega) h2 (by omega) hl (fun v hv => hb v (List.mem_cons_of_mem _ hv))
    refine Eq.trans ?_ ih
    rw [h.loop]
    repeat (conv => lhs; whnf; arg 2; tactic => first | exact g1 | exact ek | exact congrArg not (seq_refl (mt W k)) | exact map_get hx | exact eh | exact congrArg not ek | exact congrArg not eh | exact g2)
    conv => lhs; whnf
    rw [wrap_succ (by omega)]
theorem ev_heldVolS (ys : List VolM) (k : Int) (h1 : 0 ≤ k) (h2 : endVols ys k ≤ 1000000000) (hl : ys.length < 2000000) (hb : ∀ v ∈ ys, v.blocks.length < 2000000) : W f_laws_heldVolS [.sl .br ((mkVols W ys k).map volD), .int .i64 k] [] = some (.int .i64 (endVols ys k), []) := by
  have e := heldVolS_loop h (mkVols W ys k) ys 0 k rfl h1 h2 (by rw [mkVols_len]; omega) (by rw [mkVols_len]; omega) hb
  rw [nc0] at e
  rw [h.call]
  repeat (conv => lhs; whnf; arg 2; tactic => first | exact g1 | exact e | exact congrArg not e | exact g2)
  rfl
theorem heldOpS_loop (Z : List OpM) : ∀ (ys : List OpM) (i : Nat) (k : Int), Z.drop i = mkOps W ys k → 0 ≤ k → k + 5 * ys.length ≤ 1000000000 → i + ys.length = Z.length → Z.length < 2000000 → L (norm 0 cf100.live) (exitN 0 cf100.out (evCW W L G cf100 0 c100l0)) ⟨[(0, .sl .br (Z.map opD)), (1, .int .i64 k), (5, .int .i64 (i : Nat))], []⟩ =
    some (.ext 0, ⟨[(1, .int .i64 (k + 5 * ys.length)), (4, .top)], []⟩)
  | [], i, k, hz, h1, h2, hm, hl => by
    simp only [List.length_nil] at hm h2
    have e0 : k + 5 * (([] : List OpM).length : Int) = k := by simp
    rw [e0, h.loop]
    repeat (conv => lhs; whnf; arg 2; tactic => first | exact g1 | exact g2)
    rfl
  | y :: ys, i, k, hz, h1, h2, hm, hl => by
    obtain ⟨hx, hz'⟩ := drop_head hz
    simp only [List.length_cons] at hm h2
    have w1 : IntKind.i64.wrap (k + 1) = k + 1 := wrap_id (by omega) (by omega)
    have w2 : IntKind.i64.wrap (k + 1 + 1) = k + 2 := by rw [wrap_id (by omega) (by omega)]; omega
    have w3 : IntKind.i64.wrap (k + 2 + 1) = k + 3 := by rw [wrap_id (by omega) (by omega)]; omega
    have w4 : IntKind.i64.wrap (k + 3 + 1) = k + 4 := by rw [wrap_id (by omega) (by omega)]; omega
    have w5 : IntKind.i64.wrap (k + 4 + 1) = k + 5 := by rw [wrap_id (by omega) (by omega)]; omega
    have k1 : W f_laws_markText [.int .i64 (IntKind.i64.wrap (k + 1))] [] = some (.str (mt W (k + 1)), []) := by rw [w1]; exact ev_mt h (k + 1) (by omega) (by omega)
    have k2 : W f_laws_markText [.int .i64 (IntKind.i64.wrap (IntKind.i64.wrap (k + 1) + 1))] [] = some (.str (mt W (k + 2)), []) := by rw [w1, w2]; exact ev_mt h (k + 2) (by omega) (by omega)
    have k4 : W f_laws_markText [.int .i64 (IntKind.i64.wrap (IntKind.i64.wrap (IntKind.i64.wrap (IntKind.i64.wrap (k + 1) + 1) + 1) + 1))] [] = some (.str (mt W (k + 4)), []) := by rw [w1, w2, w3, w4]; exact ev_mt h (k + 4) (by omega) (by omega)
    have b3 : (k + 3 != IntKind.i64.wrap (IntKind.i64.wrap (IntKind.i64.wrap (k + 1) + 1) + 1)) = false := by rw [w1, w2, w3]; exact bne_self_int _
    have ih := heldOpS_loop Z ys (i + 1) (k + 5) hz' (by omega) (by omega) (by omega) hl
    have e0 : k + 5 * ((y :: ys).length : Int) = k + 5 + 5 * (ys.length : Int) := by simp; omega
    rw [e0]
    refine Eq.trans ?_ ih
    rw [h.loop]
    repeat (conv => lhs; whnf; arg 2; tactic => first | exact g1 | exact k1 | exact k2 | exact k4 | exact map_get hx | exact bne_self_int k | exact congrArg not (seq_refl (mt W (k + 1))) | exact congrArg not (seq_refl (mt W (k + 2))) | exact b3 | exact congrArg not (seq_refl (mt W (k + 4))) | exact congrArg not k1 | exact congrArg not k2 | exact congrArg not k4 | exact congrArg not b3 | exact g2)
    conv => lhs; whnf
    rw [w1, w2, w3, w4, w5, wrap_succ (by omega)]
theorem ev_heldOpS (ys : List OpM) (k : Int) (h1 : 0 ≤ k) (h2 : k + 5 * ys.length ≤ 1000000000) (hl : ys.length < 2000000) : W f_laws_heldOpS [.sl .br ((mkOps W ys k).map opD), .int .i64 k] [] = some (.int .i64 (k + 5 * ys.length), []) := by
  have e := heldOpS_loop h (mkOps W ys k) ys 0 k rfl h1 h2 (by rw [mkOps_len]; omega) (by rw [mkOps_len]; omega)
  rw [nc0] at e
  rw [h.call]
  repeat (conv => lhs; whnf; arg 2; tactic => first | exact g1 | exact e | exact congrArg not e | exact g2)
  rfl
omit h in
theorem endVols_slots (p : PoolM) (k : Int) : k + 2 * p.slots.length ≤ endVols p.vols (k + 2 * p.slots.length) := endVols_ge _ _
theorem ev_markPool (c cv : Nat) (p : PoolM) (hc : c = 0 ∨ c = 2) (hcv : cv = 1 ∨ p.vols = []) (k : Int) (h1 : 0 ≤ k) (h2 : endPool p k ≤ 1000000000) (hp : PoolLn p) : W f_laws_markPool [.agg [.hw 0, .hw 1], .int .i64 k] [.row 2 0 c (p.slots.map slotD), .row 2 p.vols.length cv (p.vols.map volD)] =
    some (.int .i64 (endPool p k), [.row 2 0 c ((mkPool W p k).slots.map slotD), .row 2 p.vols.length cv ((mkPool W p k).vols.map volD)]) := by
  have he := endVols_slots (p := p) k
  unfold endPool at h2
  have e1 := ev_markSlotS h c hc p.slots k h1 (by omega) hp.s
  have e2 := ev_markVolS' h cv p.vols hcv (k + 2 * p.slots.length) (by omega) h2 hp.v hp.b
  rw [h.call]
  repeat (conv => lhs; whnf; arg 2; tactic => first | exact g1 | exact e1 | exact e2 | exact congrArg not e1 | exact congrArg not e2 | exact g2)
  rfl
theorem ev_markPool0 (k : Int) : W f_laws_markPool [.agg [.nils, .nils], .int .i64 k] [] = some (.int .i64 k, []) := by
  have e1 : W f_laws_markSlotS [.nils, .int .i64 k] [] = some (.int .i64 k, []) := by
    have e : L (norm 0 cf83.live) (exitN 0 cf83.out (evCW W L G cf83 0 c83l0)) ⟨[(0, .nils), (1, .int .i64 k), (5, .int .i64 0)], []⟩ = some (.ext 0, ⟨[(1, .int .i64 k), (4, .top)], []⟩) := by
      rw [h.loop]
      repeat (conv => lhs; whnf; arg 2; tactic => first | exact g1 | exact g2)
      rfl
    rw [h.call]
    repeat (conv => lhs; whnf; arg 2; tactic => first | exact g1 | exact e | exact congrArg not e | exact g2)
    rfl
  have e2 : W f_laws_markVolS [.nils, .int .i64 k] [] = some (.int .i64 k, []) := by
    have e : L (norm 0 cf84.live) (exitN 0 cf84.out (evCW W L G cf84 0 c84l0)) ⟨[(0, .nils), (1, .int .i64 k), (5, .int .i64 0)], []⟩ = some (.ext 0, ⟨[(1, .int .i64 k), (4, .top)], []⟩) := by
      rw [h.loop]
      repeat (conv => lhs; whnf; arg 2; tactic => first | exact g1 | exact g2)
      rfl
    rw [h.call]
    repeat (conv => lhs; whnf; arg 2; tactic => first | exact g1 | exact e | exact congrArg not e | exact g2)
    rfl
  rw [h.call]
  repeat (conv => lhs; whnf; arg 2; tactic => first | exact g1 | exact e1 | exact e2 | exact congrArg not e1 | exact congrArg not e2 | exact g2)
  rfl
theorem ev_heldPool (p : PoolM) (k : Int) (h1 : 0 ≤ k) (h2 : endPool p k ≤ 1000000000) (hp : PoolLn p) : W f_laws_heldPool [poolA (mkPool W p k), .int .i64 k] [] = some (.int .i64 (endPool p k), []) := by
  have he := endVols_slots (p := p) k
  have he2 := endVols_ge p.vols (k + 2 * p.slots.length)
  unfold endPool at h2 ⊢
  have e1 := ev_heldSlotS h p.slots k h1 (by omega) hp.s
  have e2 := ev_heldVolS h p.vols (k + 2 * p.slots.length) (by omega) h2 hp.v hp.b
  rw [h.call]
  repeat (conv => lhs; whnf; arg 2; tactic => first | exact g1 | exact e1 | exact e2 | exact congrArg not e1 | exact congrArg not e2 | exact g2)
  rfl
theorem ev_markLog (c cv co : Nat) (g : LogM) (hc : c = 0 ∨ c = 2) (hcv : cv = 1 ∨ g.base.vols = []) (hco : co = 0 ∨ co = 5) (k : Int) (h1 : 0 ≤ k) (h2 : endLog g k ≤ 1000000000) (hp : PoolLn g.base) (ho : g.ops.length < 2000000) : W f_laws_markLog [.agg [.hw 0, .hw 1, .hw 2, .int .i64 g.safe], .int .i64 k] [.row 2 0 c (g.base.slots.map slotD), .row 2 g.base.vols.length cv (g.base.vols.map volD), .row 5 0 co (g.ops.map opD)] =
    some (.int .i64 (endLog g k), [.row 2 0 c ((mkLog W g k).base.slots.map slotD), .row 2 g.base.vols.length cv ((mkLog W g k).base.vols.map volD), .row 5 0 co ((mkLog W g k).ops.map opD)]) := by
  unfold endLog at h2
  have h3 : k ≤ endPool g.base k := by have := endVols_slots (p := g.base) k; unfold endPool; omega
  have e1 := ev_markPool h c cv g.base hc hcv k h1 (by omega) hp
  have e2 := ev_markOpS h co hco g.ops (endPool g.base k) (by omega) h2 ho
  rw [h.call]
  repeat (conv => lhs; whnf; arg 2; tactic => first | exact g1 | exact e1 | exact e2 | exact congrArg not e1 | exact congrArg not e2 | exact g2)
  rfl
theorem ev_heldLog (g : LogM) (k : Int) (h1 : 0 ≤ k) (h2 : endLog g k ≤ 1000000000) (hp : PoolLn g.base) (ho : g.ops.length < 2000000) : W f_laws_heldLog [logA (mkLog W g k), .int .i64 k] [] = some (.int .i64 (endLog g k), []) := by
  unfold endLog at h2 ⊢
  have h3 : k ≤ endPool g.base k := by have := endVols_slots (p := g.base) k; unfold endPool; omega
  have e1 := ev_heldPool h g.base k h1 (by omega) hp
  have e2 := ev_heldOpS h g.ops (endPool g.base k) (by omega) h2 ho
  rw [h.call]
  repeat (conv => lhs; whnf; arg 2; tactic => first | exact g1 | exact e1 | exact e2 | exact congrArg not e1 | exact congrArg not e2 | exact g2)
  rfl
end
end Go.Gn

namespace Go.Gn
open Go
set_option linter.unusedVariables false
set_option linter.unusedSimpArgs false
set_option maxRecDepth 100000
set_option maxHeartbeats 4000000
theorem subI_ge {l n : Int} (h : 0 ≤ subI l n) : n ≤ l ∧ subI l n = l - n := by unfold subI at *; split at h <;> omega
theorem szL_all {α : Type} {f : α → Int → Int} (hf : ∀ x l, 0 ≤ f x l → f x l ≤ l) : ∀ (xs : List α) (l : Int), 0 ≤ szL f xs l → szL f xs l ≤ l ∧ ∀ x ∈ xs, ∃ l', l' ≤ l ∧ 0 ≤ f x l'
  | [], l, h => ⟨Int.le_refl _, fun x hx => by cases hx⟩
  | x :: xs, l, h => by
    rw [szL] at h ⊢
    split at h
    · omega
    · rename_i hc
      rw [if_neg hc]
      have h1 := hf x l (by omega)
      obtain ⟨h2, h3⟩ := szL_all hf xs _ h
      refine ⟨by omega, fun y hy => ?_⟩
      rcases List.mem_cons.1 hy with rfl | hy
      · exact ⟨l, Int.le_refl _, by omega⟩
      · obtain ⟨l', h4, h5⟩ := h3 y hy; exact ⟨l', by omega, h5⟩
theorem szLs_all {α : Type} {f : α → Int → Int} (hf : ∀ x l, 0 ≤ f x l → f x l ≤ l) (xs : List α) (l : Int) (h : 0 ≤ szLs f xs l) : szLs f xs l ≤ l ∧ (xs.length : Int) ≤ l ∧ ∀ x ∈ xs, ∃ l', l' ≤ l ∧ 0 ≤ f x l' := by
  rw [szLs] at h ⊢
  split at h
  · omega
  · rename_i hc
    rw [if_neg hc]
    obtain ⟨h1, h2⟩ := szL_all hf xs _ h
    exact ⟨by omega, by omega, fun x hx => by obtain ⟨l', h3, h4⟩ := h2 x hx; exact ⟨l', by omega, h4⟩⟩
theorem szSlot_le (x : SlotM) (l : Int) (h : 0 ≤ szSlot x l) : szSlot x l ≤ l := by have := subI_ge h; unfold szSlot; omega
theorem szVol_ge {x : VolM} {l : Int} (h : 0 ≤ szVol x l) : szVol x l = l - x.name.size - x.blocks.length := by
  unfold szVol at h ⊢
  split at h
  · omega
  · rename_i hc
    rw [if_neg hc]
    have h1 := subI_ge (l := l) (n := x.name.size) (by omega)
    have h2 := subI_ge h
    omega
theorem szVol_le (x : VolM) (l : Int) (h : 0 ≤ szVol x l) : szVol x l ≤ l := by have := szVol_ge h; omega
theorem szOp_ge {x : OpM} {l : Int} (h : 0 ≤ szOp x l) : szOp x l = l - x.name.size - x.to.size - x.text.size := by
  unfold szOp at h ⊢
  split at h
  · omega
  · rename_i hc
    rw [if_neg hc]
    split at h
    · omega
    · rename_i hc2
      rw [if_neg hc2]
      have h1 := subI_ge (l := l) (n := x.name.size) (by omega)
      have h2 := subI_ge (l := subI l x.name.size) (n := x.to.size) (by omega)
      have h3 := subI_ge h
      omega
theorem szOp_le (x : OpM) (l : Int) (h : 0 ≤ szOp x l) : szOp x l ≤ l := by have := szOp_ge h; omega
theorem szVol_end : ∀ (vs : List VolM) (l k : Int), 0 ≤ szL szVol vs l → endVols vs k + szL szVol vs l ≤ k + vs.length + l
  | [], l, k, h => by simp only [szL, endVols, List.length_nil]; omega
  | v :: vs, l, k, h => by
    rw [szL] at h ⊢
    split at h
    · omega
    · rename_i hc
      rw [if_neg hc]
      have h1 := szVol_ge (x := v) (l := l) (by omega)
      have h2 := szVol_end vs _ (k + 1 + v.blocks.length) h
      simp only [endVols, List.length_cons]
      omega
structure PoolBd (p : PoolM) : Prop where
  sl : (p.slots.length : Int) ≤ 1048576
  s : ∀ x ∈ p.slots, (x.text.size : Int) ≤ 1048576
  vl : (p.vols.length : Int) ≤ 1048576
  vn : ∀ v ∈ p.vols, (v.name.size : Int) ≤ 1048576
  vb : ∀ v ∈ p.vols, (v.blocks.length : Int) ≤ 1048576
  e : ∀ k, endPool p k ≤ k + 4194304
theorem szPool_bd {p : PoolM} {l : Int} (h : 0 ≤ szPool p l) (hl : InL l) : PoolBd p := by
  unfold szPool at h
  split at h
  · omega
  · rename_i hc
    obtain ⟨h1, h2, h3⟩ := szLs_all szSlot_le p.slots l (by omega)
    obtain ⟨h4, h5, h6⟩ := szLs_all szVol_le p.vols _ h
    have h7 : ∀ k, endVols p.vols k ≤ k + p.vols.length + 1048576 := fun k => by
      rw [szLs] at h
      split at h
      · omega
      · have := szVol_end p.vols _ k h; unfold InL at hl; omega
    unfold InL at hl
    refine ⟨by omega, fun x hx => ?_, by omega, fun v hv => ?_, fun v hv => ?_, fun k => ?_⟩
    · obtain ⟨l', h8, h9⟩ := h3 x hx
      have := subI_ge h9; omega
    · obtain ⟨l', h8, h9⟩ := h6 v hv
      have := szVol_ge h9; omega
    · obtain ⟨l', h8, h9⟩ := h6 v hv
      have := szVol_ge h9; omega
    · have := h7 (k + 2 * p.slots.length)
      unfold endPool; omega
structure OpsBd (os : List OpM) : Prop where
  l : (os.length : Int) ≤ 1048576
  n : ∀ o ∈ os, (o.name.size : Int) ≤ 1048576 ∧ (o.to.size : Int) ≤ 1048576 ∧ (o.text.size : Int) ≤ 1048576
theorem szOps_bd {os : List OpM} {l : Int} (h : 0 ≤ szLs szOp os l) (hl : InL l) : OpsBd os := by
  obtain ⟨h1, h2, h3⟩ := szLs_all szOp_le os l h
  unfold InL at hl
  refine ⟨by omega, fun o ho => ?_⟩
  obtain ⟨l', h8, h9⟩ := h3 o ho
  have := szOp_ge h9; omega
theorem szLog_bd {g : LogM} (h : 0 ≤ szLog g 1048576) : PoolBd g.base ∧ OpsBd g.ops := by
  unfold szLog at h
  split at h
  · omega
  · rename_i hc
    have hin := (szPool_in g.base 1048576 ⟨by omega, by omega⟩).resolve_left hc
    exact ⟨szPool_bd (l := 1048576) (by omega) ⟨by omega, by omega⟩, szOps_bd h hin⟩
theorem PoolBd.sz {p : PoolM} (h : PoolBd p) : PoolSz p := ⟨⟨by have := h.sl; omega, fun x hx => by have := h.s x hx; omega⟩, ⟨by have := h.vl; omega, fun v hv => by have := h.vb v hv; omega⟩⟩
theorem PoolBd.ln {p : PoolM} (h : PoolBd p) : PoolLn p := ⟨by have := h.sl; omega, by have := h.vl; omega, fun v hv => by have := h.vb v hv; omega⟩
theorem PoolG.ln {p : PoolM} (h : PoolG p) : PoolLn p := ⟨by have := h.h8; omega, by have := h.hl; omega, fun v hv => by have := h.hb v hv; omega⟩
theorem endVols_small : ∀ (vs : List VolM) (k : Int), (∀ v ∈ vs, v.blocks.length ≤ 6) → endVols vs k ≤ k + 7 * vs.length
  | [], k, _ => by simp [endVols]
  | v :: vs, k, h => by
    have h1 := h v List.mem_cons_self
    have h2 := endVols_small vs (k + 1 + v.blocks.length) fun u hu => h u (List.mem_cons_of_mem _ hu)
    simp only [endVols, List.length_cons]
    omega
theorem PoolG.end {p : PoolM} (h : PoolG p) (k : Int) : endPool p k ≤ k + 1000 := by
  have := endVols_small p.vols (k + 2 * p.slots.length) h.hb
  have h8 := h.h8
  have hl := h.hl
  unfold endPool; omega
theorem PoolBd.cv (p : PoolM) : (if p.vols.length = 0 then 0 else 1) = 1 ∨ p.vols = [] := by
  cases p.vols with
  | nil => right; rfl
  | cons v vs => left; rfl
def nilPool : PoolM := ⟨[], []⟩
section
variable {W : CallF} {L : LoopF} {E : EqF} {T : Prop → Bool} (h : IsK G W L E T)
include h
end
end Go.Gn

namespace Go.Gn
open Go
set_option linter.unusedVariables false
set_option linter.unusedSimpArgs false
set_option maxRecDepth 100000
set_option maxHeartbeats 4000000
def nilLog : LogM := ⟨nilPool, [], 0⟩
theorem nilPool_ln : PoolLn nilPool := ⟨by show 0 < _; omega, by show 0 < _; omega, fun v hv => by cases hv⟩
theorem LogSz.of {g : LogM} (hb : PoolBd g.base) (ho : OpsBd g.ops) : LogSz g := ⟨hb.sz, by have := ho.l; omega, fun o h1 => by have := ho.n o h1; exact ⟨by omega, by omega, by omega⟩⟩
theorem endLog_bd {g : LogM} (hb : PoolBd g.base) (ho : OpsBd g.ops) : endLog g 1 ≤ 1000000000 := by have := hb.e 1; have := ho.l; unfold endLog; omega
theorem endLog_ge (g : LogM) : 1 ≤ endLog g 1 := by have := endVols_slots (p := g.base) 1; unfold endLog endPool; omega
theorem endLog_ok {g : LogM} (hg : PoolG g.base) (ho : g.ops.length < 2000000) : endLog g 1 ≤ 1000000000 := by have := hg.end 1; unfold endLog; omega
section
variable {W : CallF} {L : LoopF} {E : EqF} {T : Prop → Bool} (h : IsK G W L E T)
include h
theorem ev_markLog0 (k : Int) : W f_laws_markLog [.agg [.nils, .nils, .nils, .int .i64 0], .int .i64 k] [] = some (.int .i64 k, []) := by
  have e2 : W f_laws_markOpS [.nils, .int .i64 k] [] = some (.int .i64 k, []) := by
    have e : L (norm 0 cf82.live) (exitN 0 cf82.out (evCW W L G cf82 0 c82l0)) ⟨[(0, .nils), (1, .int .i64 k), (5, .int .i64 0)], []⟩ = some (.ext 0, ⟨[(1, .int .i64 k), (4, .top)], []⟩) := by
      rw [h.loop]
      repeat (conv => lhs; whnf; arg 2; tactic => first | exact g1 | exact g2)
      rfl
    rw [h.call]
    repeat (conv => lhs; whnf; arg 2; tactic => first | exact g1 | exact e | exact congrArg not e | exact g2)
    rfl
  rw [h.call]
  repeat (conv => lhs; whnf; arg 2; tactic => first | exact g1 | exact ev_markPool0 h k | exact e2 | exact congrArg not e2 | exact g2)
  rfl
end
end Go.Gn

namespace Go.Gn
open Go
set_option linter.unusedVariables false
set_option linter.unusedSimpArgs false
set_option maxRecDepth 100000
set_option maxHeartbeats 4000000
theorem agree0 {l : List Nat} {os os' : List Obj} (hl : l = []) : Agree l os os' := by
  subst hl
  intro r hr
  cases hr
theorem gS {α : Sort _} {a b : α} (q : a = b := by exact (h.t _).2 (by repeat (first | exact trivial | refine ⟨rdV_os rfl (fun _ => agree0 rfl), ?_⟩ | refine ⟨rdV_os rfl (fun _ => agree1 rfl rfl), ?_⟩ | refine ⟨rfl, ?_⟩))) : a = b := q
theorem runM_take : ∀ (os : List OpM) (k : Nat) (p : PoolM), (runM p os).isSome = true → (runM p (os.take k)).isSome = true
  | [], k, p, h => by simpa using h
  | o :: os, 0, p, h => rfl
  | o :: os, k + 1, p, h => by
    rw [List.take_succ_cons]
    simp only [runM] at h ⊢
    split at h
    · rename_i hc
      rw [if_pos hc]
      exact runM_take os k _ h
    · cases h
def addOk (g : LogM) (o : OpM) : Bool := match runM g.base g.ops with
  | some q => (sDo q o).2 && !(decide ((g.ops.length : Int) ≥ 20))
  | none => false
theorem view_drop {α : Type} (f : α → List D) (xs : List α) (i : Nat) : view (xs.map f) i ((xs.map f).length - i) = (xs.drop i).map f := by
  unfold view
  rw [List.take_of_length_le (by rw [List.length_drop]; exact Nat.le_refl _), List.map_drop]
def packB (g : LogM) : PoolM := (runM g.base (g.ops.take g.safe.toNat)).getD g.base
def packN (g : LogM) : List OpM := g.ops.drop g.safe.toNat
section
variable {W : CallF} {L : LoopF} {E : EqF} {T : Prop → Bool} (h : IsK G W L E T)
include h
theorem ev_sLogPack (g : LogM) (hs : LogSz g) : W f_spec_LogPack [logA g] [] = some (if logOk g then (.agg [.hw 0, .hw 1, .hs 2 g.safe.toNat ((g.ops.map opD).length - g.safe.toNat), .int .i64 0], [.row 2 0 2 ((packB g).slots.map slotD), .row 2 0 2 ((packB g).vols.map volD), .row 5 0 5 (g.ops.map opD)])
    else (.agg [.nils, .nils, .nils, .int .i64 0], [])) := by
  have hok := ev_sLogOk h g hs
  rw [h.call]
  cases hl : logOk g
  · repeat (conv => lhs; whnf; arg 2; tactic => first | exact g1 | exact hok | exact hl | exact congrArg not hok | exact congrArg not hl | exact g2)
    rfl
  · have hl' := hl
    simp only [logOk, Bool.and_eq_true] at hl'
    obtain ⟨hp, h20, hin, hsome⟩ := hl'
    have hg := poolOk_G hp
    simp only [inR, Bool.and_eq_true, decide_eq_true_eq] at hin
    obtain ⟨n, hn⟩ : ∃ n : Nat, g.safe = n := ⟨g.safe.toNat, by omega⟩
    have hnl : n ≤ g.ops.length := by omega
    have hnt : g.safe.toNat = n := by omega
    obtain ⟨q, hq⟩ := Option.isSome_iff_exists.mp (runM_take g.ops n g.base hsome)
    have hpb : packB g = q := by unfold packB; rw [hnt, hq]; rfl
    have hcp := ev_l13Copy h g hg hs.o.1
    have hc := ev_l11Copy h g.base (by have := hg.hl; omega) (by have := hg.h8; omega) (fun v hv => by have := hg.hb v hv; omega)
    have hv : view (g.ops.map opD) 0 (n - 0) = (g.ops.take n).map opD := view_take opD g.ops n
    obtain ⟨a, b, x, e, hr, hab⟩ := ev_l13Run h keeps g.base hp (g.ops.take n) ⟨by rw [List.length_take]; have := hs.o.1; omega, fun o ho => hs.o.2 o (List.mem_of_mem_take ho)⟩
    obtain ⟨rfl, rfl⟩ := hab q hq
    rw [← hv] at e
    rw [hpb, hnt]
    simp only [hq, Option.isSome_some] at hr
    have hn0 := hn
    rcases hr with rfl | ⟨ys, rfl⟩ | ⟨xs, ys, rfl⟩
    all_goals
     repeat (conv => lhs; whnf; arg 2; tactic => first | exact g1 | exact hok | exact hl | exact hcp | exact hc | exact hn | exact e | exact gS | exact congrArg not hok | exact congrArg not hl | exact congrArg not hcp | exact congrArg not hc | exact congrArg not hn | exact congrArg not e | exact congrArg not gS | exact g2)
     rfl
theorem ev_sLogAdd (g : LogM) (hs : LogSz g) (o : OpM) (ho : o.Sz) : W f_spec_LogAdd [logA g, .agg (opC o)] [] = some (if logOk g && opOk o then (if addOk g o then (.tup [.agg [.hw 0, .hw 1, .hw 2, .int .i64 g.safe], .bool true], [.row 2 0 2 (g.base.slots.map slotD), .row 2 0 2 (g.base.vols.map volD), .row 5 0 5 ((g.ops ++ [o]).map opD)])
      else (.tup [.agg [.hw 0, .hw 1, .hw 2, .int .i64 g.safe], .bool false], [.row 2 0 2 (g.base.slots.map slotD), .row 2 0 2 (g.base.vols.map volD), .row 5 0 5 (g.ops.map opD)]))
    else (.tup [.agg [.nils, .nils, .nils, .int .i64 0], .bool false], [])) := by
  have hok := ev_sLogOk h g hs
  have hoo := ev_sOpOk h o ho
  rw [sOpOk_eq] at hoo
  rw [h.call]
  cases hl : logOk g
  · repeat (conv => lhs; whnf; arg 2; tactic => first | exact g1 | exact hok | exact hl | exact congrArg not hok | exact congrArg not hl | exact g2)
    rfl
  · cases hop : opOk o
    · repeat (conv => lhs; whnf; arg 2; tactic => first | exact g1 | exact hok | exact hl | exact hoo | exact hop | exact congrArg not hok | exact congrArg not hl | exact congrArg not hoo | exact congrArg not hop | exact g2)
      rfl
    · have hl' := hl
      simp only [logOk, Bool.and_eq_true] at hl'
      obtain ⟨hp, h20, hin, hsome⟩ := hl'
      have hg := poolOk_G hp
      obtain ⟨q, hq⟩ := Option.isSome_iff_exists.mp hsome
      have hqg := poolOk_G (runM_ok g.ops hp hq)
      have hcp := ev_l13Copy h g hg hs.o.1
      have hc := ev_l11Copy h g.base (by have := hg.hl; omega) (by have := hg.h8; omega) (fun v hv => by have := hg.hb v hv; omega)
      obtain ⟨a, b, x, e, hr, hab⟩ := ev_l13Run h keeps g.base hp g.ops hs.o
      obtain ⟨rfl, rfl⟩ := hab q hq
      obtain ⟨y, ed, hd⟩ := ev_l12Do h q hqg o ho
      have hlen : ((g.ops.map opD).length : Nat) = g.ops.length := List.length_map ..
      simp only [hq, Option.isSome_some] at hr
      unfold addOk
      simp only [hq]
      have hd' : ∃ a b z, y = z ∧ Res3 (sDo q o).2 a b z := by
        rcases hd with rfl | ⟨ys, rfl⟩ | ⟨xs, ys, rfl⟩
        · exact ⟨_, _, _, rfl, .inl rfl⟩
        · exact ⟨_, _, _, rfl, .inr (.inl ⟨_, rfl⟩)⟩
        · exact ⟨_, _, _, rfl, .inr (.inr ⟨_, _, rfl⟩)⟩
      clear hd
      obtain ⟨a2, b2, _, rfl, hd⟩ := hd'
      have hf' : decide (((g.ops.map opD).length : Int) ≥ 20) = decide ((g.ops.length : Int) ≥ 20) := by rw [hlen]
      cases hok2 : (sDo q o).2
      · rw [hok2] at hd
        rcases hr with rfl | ⟨ys, rfl⟩ | ⟨xs, ys, rfl⟩ <;> rcases hd with rfl | ⟨zs, rfl⟩ | ⟨ws, zs, rfl⟩
        all_goals
         repeat (conv => lhs; whnf; arg 2; tactic => first | exact g1 | exact hok | exact hl | exact hoo | exact hop | exact hcp | exact hc | exact e | exact ed | exact gS | exact congrArg not hok | exact congrArg not hl | exact congrArg not hoo | exact congrArg not hop | exact congrArg not hcp | exact congrArg not hc | exact congrArg not e | exact congrArg not ed | exact congrArg not gS | exact g2)
         rfl
      · rw [hok2] at hd
        cases hfull : decide ((g.ops.length : Int) ≥ 20)
        · rw [hfull] at hf'
          have hcap : decide (((g.ops.map opD).length + (chunks 5 1 [D.int .i64 o.kind, .str o.name, .str o.to, .int .i64 o.n, .str o.text]).length) * 64 ≤ 140737488355328) = true := decide_eq_true (by
            have h0 : ¬ ((g.ops.length : Int) ≥ 20) := of_decide_eq_false hfull
            rw [hlen]
            show (g.ops.length + 1) * 64 ≤ _
            omega)
          rcases hr with rfl | ⟨ys, rfl⟩ | ⟨xs, ys, rfl⟩ <;> rcases hd with rfl | ⟨zs, rfl⟩ | ⟨ws, zs, rfl⟩
          all_goals
           repeat (conv => lhs; whnf; arg 2; tactic => first | exact g1 | exact hok | exact hl | exact hoo | exact hop | exact hcp | exact hc | exact e | exact ed | exact gS | exact hf' | exact hcap | exact congrArg not hok | exact congrArg not hl | exact congrArg not hoo | exact congrArg not hop | exact congrArg not hcp | exact congrArg not hc | exact congrArg not e | exact congrArg not ed | exact congrArg not gS | exact congrArg not hf' | exact congrArg not hcap | exact g2)
           conv => lhs; whnf
           simp only [app_row]
           rfl
        · rw [hfull] at hf'
          rcases hr with rfl | ⟨ys, rfl⟩ | ⟨xs, ys, rfl⟩ <;> rcases hd with rfl | ⟨zs, rfl⟩ | ⟨ws, zs, rfl⟩
          all_goals
           repeat (conv => lhs; whnf; arg 2; tactic => first | exact g1 | exact hok | exact hl | exact hoo | exact hop | exact hcp | exact hc | exact e | exact ed | exact gS | exact hf' | exact congrArg not hok | exact congrArg not hl | exact congrArg not hoo | exact congrArg not hop | exact congrArg not hcp | exact congrArg not hc | exact congrArg not e | exact congrArg not ed | exact congrArg not gS | exact congrArg not hf' | exact g2)
           rfl
end
end Go.Gn

namespace Go.Gn
open Go
set_option linter.unusedVariables false
set_option linter.unusedSimpArgs false
set_option maxRecDepth 100000
set_option maxHeartbeats 4000000
section
variable {W : CallF} {L : LoopF} {E : EqF} {T : Prop → Bool} (h : IsK G W L E T)
include h
theorem ev_LogPack (g : LogM) (hs : LogSz g) : W f_impl_LogPack [logA g] [] = some (if logOk g then (.agg [.hw 0, .hw 1, .hw 2, .int .i64 0], logV ⟨packB g, packN g, 0⟩)
    else (.agg [.nils, .nils, .nils, .int .i64 0], [])) := by
  have hok := ev_LogOk h g hs
  rw [h.call]
  cases hl : logOk g
  · repeat (conv => lhs; whnf; arg 2; tactic => first | exact g1 | exact hok | exact hl | exact congrArg not hok | exact congrArg not hl | exact g2)
    rfl
  · have hl' := hl
    simp only [logOk, Bool.and_eq_true] at hl'
    obtain ⟨hp, h20, hin, hsome⟩ := hl'
    have hg := poolOk_G hp
    simp only [inR, Bool.and_eq_true, decide_eq_true_eq] at hin
    obtain ⟨n, hn⟩ : ∃ n : Nat, g.safe = n := ⟨g.safe.toNat, by omega⟩
    have hnl : n ≤ g.ops.length := by omega
    have hnt : g.safe.toNat = n := by omega
    obtain ⟨q, hq⟩ := Option.isSome_iff_exists.mp (runM_take g.ops n g.base hsome)
    have hpb : packB g = q := by unfold packB; rw [hnt, hq]; rfl
    have hv : view (g.ops.map opD) 0 (n - 0) = (g.ops.take n).map opD := view_take opD g.ops n
    have hv2 : view (g.ops.map opD) n ((g.ops.map opD).length - n) = (g.ops.drop n).map opD := view_drop opD g.ops n
    have hd := ev_doAll h g.base hs.p (g.ops.take n) ⟨by rw [List.length_take]; have := hs.o.1; omega, fun o ho => hs.o.2 o (List.mem_of_mem_take ho)⟩
    rw [hp, run_eq _ hp, hq, ← hv] at hd
    have hc := ev_cloneOp h (g.ops.drop n) (by rw [List.length_drop]; have := hs.o.1; omega)
    rw [← hv2] at hc
    have hz : szOk 5 (g.ops.map opD) = true := szOk_map opD 5 (fun _ => rfl) g.ops
    have hall : ((g.ops.map opD).all fun el => Nat.beq el.length 5) = true := List.all_eq_true.2 fun el hel => by
      obtain ⟨o, _, rfl⟩ := List.mem_map.1 hel
      rfl
    unfold packN
    rw [hpb, hnt]
    repeat (conv => lhs; whnf; arg 2; tactic => first | exact g1 | exact hok | exact hl | exact hn | exact hd | exact hc | exact gS | exact hall | exact congrArg not hok | exact congrArg not hl | exact congrArg not hn | exact congrArg not hd | exact congrArg not hc | exact congrArg not gS | exact congrArg not hall | exact g2)
    conv => lhs; whnf
    rw [hv2]
    rfl
theorem ev_LogAdd (g : LogM) (hs : LogSz g) (o : OpM) (ho : o.Sz) : W f_impl_LogAdd [logA g, .agg (opC o)] [] = some (if logOk g && opOk o then (if addOk g o then (.tup [.agg [.hw 0, .hw 1, .hw 2, .int .i64 g.safe], .bool true], logV ⟨g.base, g.ops ++ [o], g.safe⟩)
      else (.tup [.agg [.hw 0, .hw 1, .hw 2, .int .i64 g.safe], .bool false], logV g))
    else (.tup [.agg [.nils, .nils, .nils, .int .i64 0], .bool false], [])) := by
  have hok := ev_LogOk h g hs
  have hoo := ev_OpOk h o ho
  rw [h.call]
  cases hl : logOk g
  · repeat (conv => lhs; whnf; arg 2; tactic => first | exact g1 | exact hok | exact hl | exact congrArg not hok | exact congrArg not hl | exact g2)
    rfl
  · cases hop : opOk o
    · repeat (conv => lhs; whnf; arg 2; tactic => first | exact g1 | exact hok | exact hl | exact hoo | exact hop | exact congrArg not hok | exact congrArg not hl | exact congrArg not hoo | exact congrArg not hop | exact g2)
      rfl
    · have hl' := hl
      simp only [logOk, Bool.and_eq_true] at hl'
      obtain ⟨hp, h20, hin, hsome⟩ := hl'
      have hg := poolOk_G hp
      obtain ⟨q, hq⟩ := Option.isSome_iff_exists.mp hsome
      have hqo := runM_ok g.ops hp hq
      have hqs : PoolSz q := doAllM_sz g.ops g.base q hs.p hs.o.2 (by rw [run_eq _ hp]; exact hq)
      have hcl := ev_Log_clone h g hs hp
      have hpl := ev_Log_pool h g hs hp q hq
      have hdo := ev_OpDo h q hqs o ho
      unfold opDo at hdo
      rw [if_pos hqo, if_pos hop, poolDo_eq hqo] at hdo
      have hlen : ((g.ops.map opD).length : Nat) = g.ops.length := List.length_map ..
      have h20' : (g.ops.length : Int) ≤ 20 := by simpa using h20
      unfold addOk
      simp only [hq]
      have hf' : decide (((g.ops.map opD).length : Int) ≥ 20) = decide ((g.ops.length : Int) ≥ 20) := by rw [hlen]
      have he' : ((((g.ops.map opD).length : Nat) : Int) == 20) = decide ((g.ops.length : Int) ≥ 20) := by
        rw [hlen, Bool.eq_iff_iff]
        simp only [beq_iff_eq, decide_eq_true_eq]
        omega
      cases hok2 : (sDo q o).2
      · rw [poolR, hok2] at hdo
        repeat (conv => lhs; whnf; arg 2; tactic => first | exact g1 | exact hok | exact hl | exact hoo | exact hop | exact hcl | exact hpl | exact hdo | exact gS | exact congrArg not hok | exact congrArg not hl | exact congrArg not hoo | exact congrArg not hop | exact congrArg not hcl | exact congrArg not hpl | exact congrArg not hdo | exact congrArg not gS | exact g2)
        rfl
      · rw [poolR, hok2] at hdo
        cases hfull : decide ((g.ops.length : Int) ≥ 20)
        · rw [hfull] at he'
          have hcap : decide (((g.ops.map opD).length + (chunks 5 1 [D.int .i64 o.kind, .str o.name, .str o.to, .int .i64 o.n, .str o.text]).length) * 64 ≤ 140737488355328) = true := decide_eq_true (by
            rw [hlen]
            show (g.ops.length + 1) * 64 ≤ _
            omega)
          repeat (conv => lhs; whnf; arg 2; tactic => first | exact g1 | exact hok | exact hl | exact hoo | exact hop | exact hcl | exact hpl | exact hdo | exact gS | exact he' | exact hcap | exact congrArg not hok | exact congrArg not hl | exact congrArg not hoo | exact congrArg not hop | exact congrArg not hcl | exact congrArg not hpl | exact congrArg not hdo | exact congrArg not gS | exact congrArg not he' | exact congrArg not hcap | exact g2)
          conv => lhs; whnf
          simp only [app_row]
          rfl
        · rw [hfull] at he'
          repeat (conv => lhs; whnf; arg 2; tactic => first | exact g1 | exact hok | exact hl | exact hoo | exact hop | exact hcl | exact hpl | exact hdo | exact gS | exact he' | exact congrArg not hok | exact congrArg not hl | exact congrArg not hoo | exact congrArg not hop | exact congrArg not hcl | exact congrArg not hpl | exact congrArg not hdo | exact congrArg not gS | exact congrArg not he' | exact g2)
          rfl
end
end Go.Gn

namespace Go.Gn
open Go
set_option linter.unusedVariables false
set_option linter.unusedSimpArgs false
set_option maxRecDepth 100000
set_option maxHeartbeats 4000000
theorem lend_log2 {os : List Obj} {a b c lo k s1 k1 c1 s2 k2 c2 s3 k3 c3 : Nat} {xs ys zs : List (List D)} {s : Int} (ha : os.getD a .dead = .row s1 k1 c1 xs) (hb : os.getD b .dead = .row s2 k2 c2 ys) (hc : os.getD c .dead = .row s3 k3 c3 zs) (hk : lo + k ≤ zs.length) :
    lend os [] (.agg [.hw a, .hw b, .hs c lo k, .int .i64 s]) = some (.agg [.sl .br xs, .sl .br ys, .sl .br (view zs lo k), .int .i64 s]) := by
  simp only [lend, lendL, List.contains_nil, Bool.false_eq_true, if_false, ha, hb, hc, if_pos hk]
section
variable {W : CallF} {L : LoopF} {E : EqF} {T : Prop → Bool} (h : IsK G W L E T)
include h
theorem ev_FnExactLogPack (g : LogM) (hs : LogSm g) : W f_laws_FnExactLogPack [logA g] [] = some (.bool true, []) := by
  have hz := ev_szLog h g hs 1048576 ⟨by omega, by omega⟩
  rw [h.call]
  cases hneg : decide (szLog g 1048576 < 0)
  · have hnn : ¬ szLog g 1048576 < 0 := of_decide_eq_false hneg
    obtain ⟨hb, ho⟩ := szLog_bd (g := g) (by omega)
    have hls := LogSz.of hb ho
    have hol : g.ops.length < 2000000 := by have := ho.l; omega
    have e1 := ev_toLog h g hb.ln hol
    have e5 := ev_eqLog h g hb.ln hol
    have e6 := ev_markLog h 0 _ 0 g (.inl rfl) (PoolBd.cv g.base) (.inl rfl) 1 (by omega) (endLog_bd hb ho) hb.ln hol
    have hend1 := endLog_ge g
    have e2 := ev_sLogPack h g hls
    have e3 := ev_LogPack h g hls
    cases hl : logOk g
    · rw [hl] at e2 e3
      have e4 := ev_eqLog h nilLog nilPool_ln (by show 0 < _; omega)
      have e7 := ev_markLog0 h 1
      have e8 := ev_heldLog h nilLog 1 (by omega) (by simp [endLog, endPool, nilLog, nilPool, endVols]) nilPool_ln (by show 0 < _; omega)
      repeat (conv => lhs; whnf; arg 2; tactic => first | exact g1 | exact hz | exact hneg | exact e1 | exact e2 | exact e3 | exact e4 | exact e5 | exact e6 | exact e7 | exact e8 | exact congrArg not hz | exact congrArg not hneg | exact congrArg not e1 | exact congrArg not e2 | exact congrArg not e3 | exact congrArg not e4 | exact congrArg not e5 | exact congrArg not e6 | exact congrArg not e7 | exact congrArg not e8 | exact g2)
      rfl
    · have hl' := hl
      simp only [logOk, Bool.and_eq_true] at hl'
      obtain ⟨hp, h20, hin, hsome⟩ := hl'
      simp only [inR, Bool.and_eq_true, decide_eq_true_eq] at hin
      obtain ⟨q, hq⟩ := Option.isSome_iff_exists.mp (runM_take g.ops g.safe.toNat g.base hsome)
      have hpb : packB g = q := by unfold packB; rw [hq]; rfl
      have hg : PoolG (packB g) := by rw [hpb]; exact poolOk_G (runM_ok _ hp hq)
      have hv : view (g.ops.map opD) g.safe.toNat ((g.ops.map opD).length - g.safe.toNat) = (packN g).map opD := view_drop opD g.ops _
      rw [hl] at e2 e3
      have hol' : (packN g).length < 2000000 := by unfold packN; rw [List.length_drop]; omega
      have e4 := ev_eqLog h ⟨packB g, packN g, 0⟩ hg.ln hol'
      have e4' : W f_laws_eqLog [logA ⟨packB g, packN g, 0⟩, .agg [.sl .br ((packB g).slots.map slotD), .sl .br ((packB g).vols.map volD), .sl .br (view (g.ops.map opD) g.safe.toNat ((g.ops.map opD).length - g.safe.toNat)), .int .i64 0]] [] = some (.bool true, []) := by rw [hv]; exact e4
      have e7 := ev_markLog h 2 1 5 ⟨packB g, packN g, 0⟩ (.inr rfl) (.inl rfl) (.inr rfl) 1 (by omega) (endLog_ok hg hol') hg.ln hol'
      have e8 := ev_heldLog h ⟨packB g, packN g, 0⟩ 1 (by omega) (endLog_ok hg hol') hg.ln hol'
      have hq2 := endLog_ge ⟨packB g, packN g, 0⟩
      repeat (conv => lhs; whnf; arg 2; tactic => first | exact g1 | exact hz | exact hneg | exact e1 | exact e2 | exact e3 | exact e4' | exact e5 | exact e6 | exact e7 | exact e8 | exact bne_self_int _ | exact lend_log2 rfl rfl rfl (by rw [List.length_map]; omega) | exact congrArg not hz | exact congrArg not hneg | exact congrArg not e1 | exact congrArg not e2 | exact congrArg not e3 | exact congrArg not e4' | exact congrArg not e5 | exact congrArg not e6 | exact congrArg not e7 | exact congrArg not e8 | exact g2)
      rfl
  · repeat (conv => lhs; whnf; arg 2; tactic => first | exact g1 | exact hz | exact hneg | exact congrArg not hz | exact congrArg not hneg | exact g2)
    rfl
end
end Go.Gn

namespace Go.Gn
open Go
set_option linter.unusedVariables false
set_option linter.unusedSimpArgs false
set_option maxRecDepth 100000
set_option maxHeartbeats 4000000
theorem szLog_in (g : LogM) (l : Int) (h : InL l) : szLog g l < 0 ∨ InL (szLog g l) := by
  unfold szLog
  split
  · exact .inl (by omega)
  · rename_i hc; exact szLs_in szOp_in g.ops _ ((szPool_in g.base l h).resolve_left hc)
section
variable {W : CallF} {L : LoopF} {E : EqF} {T : Prop → Bool} (h : IsK G W L E T)
include h
theorem ev_FnExactLogAdd (g : LogM) (hs : LogSm g) (o : OpM) (hso : OpSm o) : W f_laws_FnExactLogAdd [logA g, .agg (opC o)] [] = some (.bool true, []) := by
  have hz := ev_szLog h g hs 1048576 ⟨by omega, by omega⟩
  rw [h.call]
  cases hneg : decide (szLog g 1048576 < 0)
  · have hnn : ¬ szLog g 1048576 < 0 := of_decide_eq_false hneg
    have hin := (szLog_in g 1048576 ⟨by omega, by omega⟩).resolve_left hnn
    have hz2 := ev_szOp h o hso (szLog g 1048576) hin
    cases hneg2 : decide (szOp o (szLog g 1048576) < 0)
    · have hnn2 : ¬ szOp o (szLog g 1048576) < 0 := of_decide_eq_false hneg2
      obtain ⟨hb, ho⟩ := szLog_bd (g := g) (by omega)
      have hob := szOp_ge (x := o) (l := szLog g 1048576) (by omega)
      have hoz : o.Sz := by unfold InL at hin; exact ⟨by omega, by omega, by omega⟩
      have hls := LogSz.of hb ho
      have hol : g.ops.length < 2000000 := by have := ho.l; omega
      have e1 := ev_toLog h g hb.ln hol
      have e0 := ev_toOp h o
      have e5 := ev_eqLog h g hb.ln hol
      have e6 := ev_markLog h 0 _ 0 g (.inl rfl) (PoolBd.cv g.base) (.inl rfl) 1 (by omega) (endLog_bd hb ho) hb.ln hol
      have hend1 := endLog_ge g
      have e2 := ev_sLogAdd h g hls o hoz
      have e3 := ev_LogAdd h g hls o hoz
      cases hl : logOk g && opOk o
      · rw [hl] at e2 e3
        have e4 := ev_eqLog h nilLog nilPool_ln (by show 0 < _; omega)
        have e7 := ev_markLog0 h 1
        have e8 := ev_heldLog h nilLog 1 (by omega) (by simp [endLog, endPool, nilLog, nilPool, endVols]) nilPool_ln (by show 0 < _; omega)
        repeat (conv => lhs; whnf; arg 2; tactic => first | exact g1 | exact hz | exact hneg | exact hz2 | exact hneg2 | exact e0 | exact e1 | exact e2 | exact e3 | exact e4 | exact e5 | exact e6 | exact e7 | exact e8 | exact gS | exact congrArg not hz | exact congrArg not hneg | exact congrArg not hz2 | exact congrArg not hneg2 | exact congrArg not e0 | exact congrArg not e1 | exact congrArg not e2 | exact congrArg not e3 | exact congrArg not e4 | exact congrArg not e5 | exact congrArg not e6 | exact congrArg not e7 | exact congrArg not e8 | exact congrArg not gS | exact g2)
        rfl
      · have hl2 := hl
        rw [Bool.and_eq_true] at hl2
        have hl' := hl2.1
        simp only [logOk, Bool.and_eq_true] at hl'
        have hg := poolOk_G hl'.1
        have h20 : (g.ops.length : Int) ≤ 20 := by simpa using hl'.2.1
        rw [hl] at e2 e3
        cases ha : addOk g o
        · rw [ha] at e2 e3
          have e4 := ev_eqLog h g hg.ln hol
          have e7 := ev_markLog h 2 1 5 g (.inr rfl) (.inl rfl) (.inr rfl) 1 (by omega) (endLog_ok hg hol) hg.ln hol
          have e8 := ev_heldLog h g 1 (by omega) (endLog_ok hg hol) hg.ln hol
          repeat (conv => lhs; whnf; arg 2; tactic => first | exact g1 | exact hz | exact hneg | exact hz2 | exact hneg2 | exact e0 | exact e1 | exact e2 | exact e3 | exact e4 | exact e6 | exact e7 | exact e8 | exact bne_self_int _ | exact gS | exact congrArg not hz | exact congrArg not hneg | exact congrArg not hz2 | exact congrArg not hneg2 | exact congrArg not e0 | exact congrArg not e1 | exact congrArg not e2 | exact congrArg not e3 | exact congrArg not e4 | exact congrArg not e6 | exact congrArg not e7 | exact congrArg not e8 | exact congrArg not gS | exact g2)
          rfl
        · rw [ha] at e2 e3
          have hol' : (g.ops ++ [o]).length < 2000000 := by simp; omega
          have e4 := ev_eqLog h ⟨g.base, g.ops ++ [o], g.safe⟩ hg.ln hol'
          have e7 := ev_markLog h 2 1 5 ⟨g.base, g.ops ++ [o], g.safe⟩ (.inr rfl) (.inl rfl) (.inr rfl) 1 (by omega) (endLog_ok hg hol') hg.ln hol'
          have e8 := ev_heldLog h ⟨g.base, g.ops ++ [o], g.safe⟩ 1 (by omega) (endLog_ok hg hol') hg.ln hol'
          have hq2 := endLog_ge ⟨g.base, g.ops ++ [o], g.safe⟩
          repeat (conv => lhs; whnf; arg 2; tactic => first | exact g1 | exact hz | exact hneg | exact hz2 | exact hneg2 | exact e0 | exact e1 | exact e2 | exact e3 | exact e4 | exact e5 | exact e6 | exact e7 | exact e8 | exact bne_self_int _ | exact gS | exact congrArg not hz | exact congrArg not hneg | exact congrArg not hz2 | exact congrArg not hneg2 | exact congrArg not e0 | exact congrArg not e1 | exact congrArg not e2 | exact congrArg not e3 | exact congrArg not e4 | exact congrArg not e5 | exact congrArg not e6 | exact congrArg not e7 | exact congrArg not e8 | exact congrArg not gS | exact g2)
          rfl
    · repeat (conv => lhs; whnf; arg 2; tactic => first | exact g1 | exact hz | exact hneg | exact hz2 | exact hneg2 | exact congrArg not hz | exact congrArg not hneg | exact congrArg not hz2 | exact congrArg not hneg2 | exact g2)
      rfl
  · repeat (conv => lhs; whnf; arg 2; tactic => first | exact g1 | exact hz | exact hneg | exact congrArg not hz | exact congrArg not hneg | exact g2)
    rfl
end
end Go.Gn

