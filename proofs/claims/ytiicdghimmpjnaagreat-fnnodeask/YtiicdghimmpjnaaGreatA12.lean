/- Part 12 of a proof: an evaluator of the program, proved sound, and what it answers. -/
import Derived.Test.YtiicdghimmpjnaaGreatA11
set_option linter.all false
namespace Go.Gn
open Go
set_option linter.unusedVariables false
set_option linter.unusedSimpArgs false
set_option maxRecDepth 100000
set_option maxHeartbeats 4000000
theorem findS_range (xs : List SlotM) (h8 : xs.length = 8) (t : Str) : ∀ m p fr, inR p 1 8 = true → 0 ≤ fr → fr ≤ 8 → 0 ≤ (findS xs t m p fr).1 ∧ (findS xs t m p fr).1 ≤ 8
 | 0, p, fr, hp, h1, h2 => ⟨h1, h2⟩
 | m + 1, p, fr, hp, h1, h2 => by
  have hp' := hp
  simp only [inR, Bool.and_eq_true, decide_eq_true_eq] at hp'
  have hnx : inR (textNext p) 1 8 = true := by have := textNext_range hp'.1; simp [inR]; omega
  simp only [findS]
  split
  ·split
   ·simp only; omega
   ·refine findS_range xs h8 t m _ _ hnx ?_ ?_
    ·split <;> omega
    ·split <;> omega
  ·simp
section
variable {W : CallF} {L : LoopF} {E : EqF} {T : Prop → Bool} (h : IsK G W L E T)
include h
theorem ev_sfree (xs : List SlotM) (h8 : xs.length = 8) (hu : SlotsB 1000000 xs) (old : Int) (h0 : 0 < old) (h1 : old ≤ 8) : W f_spec_l2Drop [.hw 0, .int .i64 old] [.row 2 0 2 (xs.map slotD)] = some (.hw 0, [.row 2 0 2 ((freeM xs old).map slotD)]) := by
 obtain ⟨j, rfl⟩ : ∃ j : Nat, old = (j : Int) + 1 := ⟨(old - 1).toNat, by omega⟩
 obtain ⟨x, hx⟩ := get_some (xs := xs) (i := j) (by omega)
 have hj : ((j : Int) + 1 - 1).toNat = j := by omega
 simp only [freeM, if_pos h0, hj, hx]
 exact ev_l2Drop h xs j x hx (by omega) (hu x (List.mem_of_getElem? hx))
theorem ev_sput (xs : List SlotM) (h8 : xs.length = 8) (hu : SlotsB 1000000 xs) (t : Str) (ht : textOk t = true) : W f_spec_l2Put [.hw 0, .str t] [.row 2 0 2 (xs.map slotD)] = some (.tup [.hw 0, .int .i64 (putS xs t).2.1, .bool (putS xs t).2.2], [.row 2 0 2 ((putS xs t).1.map slotD)]) :=
 ev_l2Put h xs h8 hu t ht (findS_range xs h8 t 8 _ 0 (by have := textPlace_range ht; simp [inR]; omega) (by omega) (by omega))
theorem ev_l11Write (p : PoolM) (hs : VolsSz p.vols) (hvl : p.vols.length < 1000) (h8 : p.slots.length = 8) (hu : SlotsB 99 p.slots) (hbl : ∀ v ∈ p.vols, v.blocks.length < 1000) (hb8 : ∀ v ∈ p.vols, ∀ b ∈ v.blocks, 0 ≤ b ∧ b ≤ 8) (nm : Str) (b : Int) (t : Str) (ht : SmS t) :
  ∃ x, W f_spec_l11Write [.agg [.hw 0, .hw 1], .str nm, .int .i64 b, .str t] (specP p) = some x ∧ Res (sWrite p nm b t) x := by
 have hv := ev_l11At h p (by omega) nm
 have htx := ev_sTextOk h t ht
 unfold sWrite hasB
 cases hx : volIx p.vols nm with
 | none =>
  rw [hx] at hv
  refine ⟨_, ?_, .inl rfl⟩
  rw [h.call]
  repeat (conv=>lhs;whnf;arg 2;tactic=>first|exact g1|exact hv|exact congrArg not hv|exact g2)
  rfl
 | some i =>
  rw [hx] at hv
  obtain ⟨_, hi, v, hvi, _⟩ := fnd_lt hx
  rw [Nat.sub_zero] at hvi
  have hvb := hbl v (List.mem_of_getElem? hvi)
  have hi0 : decide (fndI (some i) < 0) = false := decide_eq_false (by simp [fndI])
  have hlen : IntKind.i64.wrap (((v.blocks.map intD).length : Nat) - 1) = (v.blocks.length : Int) - 1 := by rw [List.length_map, wrap_id (by omega) (by omega)]
  have hw : W f_spec_l6In [.int .i64 b, .int .i64 0, .int .i64 (IntKind.i64.wrap (((v.blocks.map intD).length : Nat) - 1))] [] = some (.bool (inR b 0 ((v.blocks.length : Int) - 1)), []) := by rw [hlen]; exact ev_l6In h _ _ _
  simp only [hvi]
  cases hr : inR b 0 ((v.blocks.length : Int) - 1)
  ·rw [hr] at hw
   refine ⟨_, ?_, .inl rfl⟩
   rw [h.call]
   repeat (conv=>lhs;whnf;arg 2;tactic=>first|exact g1|exact hv|exact hi0|exact map_get hvi|exact hw|exact congrArg not hv|exact congrArg not hi0|exact congrArg not hw|exact g2)
   rfl
  ·rw [hr] at hw
   simp only [if_true]
   cases ct : textOk t
   ·rw [ct] at htx
    refine ⟨_, ?_, .inl rfl⟩
    rw [h.call]
    repeat (conv=>lhs;whnf;arg 2;tactic=>first|exact g1|exact hv|exact hi0|exact map_get hvi|exact hw|exact htx|exact congrArg not hv|exact congrArg not hi0|exact congrArg not hw|exact congrArg not htx|exact g2)
    rfl
   ·rw [ct] at htx
    simp only [inR, Bool.and_eq_true, decide_eq_true_eq] at hr
    obtain ⟨n, rfl⟩ : ∃ n : Nat, b = n := ⟨b.toNat, by omega⟩
    obtain ⟨old, ho⟩ := get_some (xs := v.blocks) (i := n) (by omega)
    have hil := lt_of_get hvi
    have ho8 := hb8 v (List.mem_of_getElem? hvi) old (List.mem_of_getElem? ho)
    have hcp := ev_l11Copy h p (by omega) (by omega) (fun v hv => by have := hbl v hv; omega)
    rw [if_neg (show ¬ p.vols.length = 0 by omega)] at hcp
    simp only [sWr, hvi, ho, Int.toNat_natCast, if_true]
    have hfB := freeM_B (old := old) hu
    have hf8 : (freeM p.slots old).length = 8 := by rw [freeM_length]; exact h8
    have hp := ev_sput h (freeM p.slots old) hf8 hfB t ct
    by_cases hold : old > 0
    ·have hf := ev_sfree h p.slots h8 (fun x hx => by have := hu x hx; omega) old (by omega) ho8.2
     have hdo := decide_eq_true hold
     cases hq : seq t noText
     ·simp only [Bool.false_eq_true, if_false]
      cases hok : (putS (freeM p.slots old) t).2.2
      ·rw [hok] at hp
       refine ⟨_, ?_, .inl rfl⟩
       rw [h.call]
       repeat (conv=>lhs;whnf;arg 2;tactic=>first|exact g1|exact hv|exact hi0|exact map_get hvi|exact hw|exact htx|exact hcp|exact map_get ho|exact hdo|exact hf|exact hq|exact hp|exact get_set_self (by simp; omega)|exact congrArg not hv|exact congrArg not hi0|exact congrArg not hw|exact congrArg not htx|exact congrArg not hcp|exact congrArg not hdo|exact congrArg not hf|exact congrArg not hq|exact congrArg not hp|exact g2)
       rfl
      ·rw [hok] at hp
       refine ⟨_, ?_, .inr (.inr ⟨p.slots.map slotD, p.vols.map volD, rfl⟩)⟩
       rw [h.call]
       repeat (conv=>lhs;whnf;arg 2;tactic=>first|exact g1|exact hv|exact hi0|exact map_get hvi|exact hw|exact htx|exact hcp|exact map_get ho|exact hdo|exact hf|exact hq|exact hp|exact get_set_self (by simp; omega)|exact congrArg not hv|exact congrArg not hi0|exact congrArg not hw|exact congrArg not htx|exact congrArg not hcp|exact congrArg not hdo|exact congrArg not hf|exact congrArg not hq|exact congrArg not hp|exact g2)
       conv => lhs; whnf
       simp only [List.set_set, wr_es]
       all_goals rfl
     ·simp only [if_true]
      refine ⟨_, ?_, .inr (.inr ⟨p.slots.map slotD, p.vols.map volD, rfl⟩)⟩
      rw [h.call]
      repeat (conv=>lhs;whnf;arg 2;tactic=>first|exact g1|exact hv|exact hi0|exact map_get hvi|exact hw|exact htx|exact hcp|exact map_get ho|exact hdo|exact hf|exact hq|exact get_set_self (by simp; omega)|exact congrArg not hv|exact congrArg not hi0|exact congrArg not hw|exact congrArg not htx|exact congrArg not hcp|exact congrArg not hdo|exact congrArg not hf|exact congrArg not hq|exact g2)
      conv => lhs; whnf
      simp only [List.set_set, wr_es]
      all_goals rfl
    ·have hfr : freeM p.slots old = p.slots := by unfold freeM; rw [if_neg hold]
     have hdo := decide_eq_false hold
     rw [hfr] at hp ⊢
     cases hq : seq t noText
     ·simp only [Bool.false_eq_true, if_false]
      cases hok : (putS p.slots t).2.2
      ·rw [hok] at hp
       refine ⟨_, ?_, .inl rfl⟩
       rw [h.call]
       repeat (conv=>lhs;whnf;arg 2;tactic=>first|exact g1|exact hv|exact hi0|exact map_get hvi|exact hw|exact htx|exact hcp|exact map_get ho|exact hdo|exact hq|exact hp|exact get_set_self (by simp; omega)|exact congrArg not hv|exact congrArg not hi0|exact congrArg not hw|exact congrArg not htx|exact congrArg not hcp|exact congrArg not hdo|exact congrArg not hq|exact congrArg not hp|exact g2)
       rfl
      ·rw [hok] at hp
       refine ⟨_, ?_, .inr (.inr ⟨p.slots.map slotD, p.vols.map volD, rfl⟩)⟩
       rw [h.call]
       repeat (conv=>lhs;whnf;arg 2;tactic=>first|exact g1|exact hv|exact hi0|exact map_get hvi|exact hw|exact htx|exact hcp|exact map_get ho|exact hdo|exact hq|exact hp|exact get_set_self (by simp; omega)|exact congrArg not hv|exact congrArg not hi0|exact congrArg not hw|exact congrArg not htx|exact congrArg not hcp|exact congrArg not hdo|exact congrArg not hq|exact congrArg not hp|exact g2)
       conv => lhs; whnf
       simp only [List.set_set, wr_es]
       all_goals rfl
     ·simp only [if_true]
      refine ⟨_, ?_, .inr (.inr ⟨p.slots.map slotD, p.vols.map volD, rfl⟩)⟩
      rw [h.call]
      repeat (conv=>lhs;whnf;arg 2;tactic=>first|exact g1|exact hv|exact hi0|exact map_get hvi|exact hw|exact htx|exact hcp|exact map_get ho|exact hdo|exact hq|exact get_set_self (by simp; omega)|exact congrArg not hv|exact congrArg not hi0|exact congrArg not hw|exact congrArg not htx|exact congrArg not hcp|exact congrArg not hdo|exact congrArg not hq|exact g2)
      conv => lhs; whnf
      simp only [List.set_set, wr_es]
      all_goals rfl
end
end Go.Gn

namespace Go.Gn
open Go
set_option linter.unusedVariables false
set_option linter.unusedSimpArgs false
set_option maxRecDepth 100000
set_option maxHeartbeats 4000000
def sclOs (xs : List SlotM) (vs : List VolM) (to : Str) (bs : List Int) : List Obj := [.row 2 0 2 (xs.map slotD), .row 2 0 2 (vs.map volD), .box [.hw 0, .hw 1], .box [.nils, .nils], .box [.str to, .hw 5], .row 1 0 0 (bs.map intD)]
theorem del_view (vs : List VolM) (i : Nat) (hi : i < vs.length) : view (vs.map volD) 0 (i - 0) ++ view (vs.map volD) (i + 1) ((vs.map volD).length - (i + 1)) = (delV vs i).map volD := by
 simp only [view, delV, List.map_append, List.map_take, List.map_drop, List.drop_zero, Nat.sub_zero, List.length_map]
 congr 1
 rw [List.take_of_length_le (by simp)]
section
variable {W : CallF} {L : LoopF} {E : EqF} {T : Prop → Bool} (h : IsK G W L E T)
include h
theorem sinc_loop (vs : List VolM) (to : Str) (bs : List Int) (hbl : bs.length < 1000) (hb8 : ∀ b ∈ bs, 0 ≤ b ∧ b ≤ 8) : ∀ (m i : Nat) (xs : List SlotM), i + m = bs.length → xs.length = 8 → SlotsB (1000 + i) xs →
  L (norm 2 cf155.live) (exitN 2 cf155.out (evCW W L G cf155 2 c155l0)) ⟨[(3, .ptr 2 0), (6, .ptr 3 0), (9, .ptr 4 0), (10, .int .i64 (i : Nat))], sclOs xs vs to bs⟩ =
  some (.ext 0, ⟨[(3, .ptr 2 0), (6, .ptr 3 0), (7, .top), (9, .ptr 4 0)], sclOs (incL xs (bs.drop i)) vs to bs⟩)
 | 0, i, xs, hm, h8, hu => by
  rw [h.loop, List.drop_eq_nil_of_le (show bs.length ≤ i by omega)]
  repeat (conv=>lhs;whnf;arg 2;tactic=>first|exact g1|exact g2)
  rfl
 | m + 1, i, xs, hm, h8, hu => by
  obtain ⟨b, hb⟩ := get_some (xs := bs) (i := i) (by omega)
  have hbb := hb8 b (List.mem_of_getElem? hb)
  have hu' := incM_B (b := b) hu
  have hu2 : SlotsB (1000 + (i + 1 : Nat)) (incM xs b) := fun x hx => by have := hu' x hx; omega
  rw [h.loop, drop_cons hb, incL]
  by_cases hp : b > 0
  ·obtain ⟨j, rfl⟩ : ∃ j : Nat, b = (j : Int) + 1 := ⟨(b - 1).toNat, by omega⟩
   obtain ⟨x, hx⟩ := get_some (xs := xs) (i := j) (by omega)
   have hux := hu x (List.mem_of_getElem? hx)
   have hj : ((j : Int) + 1 - 1).toNat = j := by omega
   have hinc : incM xs ((j : Int) + 1) = xs.set j x.inc := by simp only [incM, if_pos hp, hj, hx]
   rw [hinc] at hu2 ⊢
   have ih := sinc_loop vs to bs hbl hb8 m (i + 1) (xs.set j x.inc) (by omega) (by simp [h8]) hu2
   repeat (conv=>lhs;whnf;arg 2;tactic=>first|exact g1|exact map_get hb|exact decide_eq_true hp|exact map_get hx|exact g2)
   conv => lhs; whnf
   rw [wrap_succ (by omega), wrap_id (n := x.uses + 1) (by omega) (by omega)]
   have es : (xs.map slotD).set j (splice (slotD x) (0 + 1) [D.int .i64 (x.uses + 1)]) = (xs.set j x.inc).map slotD := by rw [← set_map]; rfl
   rw [es]
   exact ih
  ·have hinc : incM xs b = xs := by simp only [incM, if_neg hp]
   rw [hinc] at hu2 ⊢
   have ih := sinc_loop vs to bs hbl hb8 m (i + 1) xs (by omega) h8 hu2
   repeat (conv=>lhs;whnf;arg 2;tactic=>first|exact g1|exact map_get hb|exact decide_eq_false hp|exact g2)
   conv => lhs; whnf
   rw [wrap_succ (by omega)]
   exact ih
theorem ev_l11Clone (p : PoolM) (hvl : p.vols.length < 1000) (h8 : p.slots.length = 8) (hu : SlotsB 99 p.slots) (hbl : ∀ v ∈ p.vols, v.blocks.length < 1000) (hb8 : ∀ v ∈ p.vols, ∀ b ∈ v.blocks, 0 ≤ b ∧ b ≤ 8) (fr to : Str) :
  ∃ x, W f_spec_l11Clone [.agg [.hw 0, .hw 1], .str fr, .str to] (specP p) = some x ∧ Res (sClone p fr to) x := by
 have hv := ev_l11At h p (by omega) fr
 have hv2 := ev_l11At h p (by omega) to
 have hn := ev_l3Name h to
 unfold sClone sCloneBad
 cases hx : volIx p.vols fr with
 | none =>
  rw [hx] at hv
  refine ⟨_, ?_, .inl rfl⟩
  rw [h.call]
  repeat (conv=>lhs;whnf;arg 2;tactic=>first|exact g1|exact hv|exact congrArg not hv|exact g2)
  rfl
 | some i =>
  rw [hx] at hv
  have hi0 : decide (fndI (some i) < 0) = false := decide_eq_false (by simp [fndI])
  obtain ⟨_, hi, v, hvi, _⟩ := fnd_lt hx
  rw [Nat.sub_zero] at hvi
  have hvb := hbl v (List.mem_of_getElem? hvi)
  have hk : (fndI (some i)).toNat = i := by simp [fndI]
  rw [hi0, hk]
  cases c1 : sName to
  ·rw [c1] at hn
   refine ⟨_, ?_, .inl rfl⟩
   rw [h.call]
   repeat (conv=>lhs;whnf;arg 2;tactic=>first|exact g1|exact hv|exact hi0|exact hn|exact congrArg not hv|exact congrArg not hi0|exact congrArg not hn|exact g2)
   rfl
  ·rw [c1] at hn
   cases c2 : decide (fndI (volIx p.vols to) ≥ 0)
   ·simp only [hvi]
    have e := sinc_loop h p.vols to v.blocks hvb (hb8 v (List.mem_of_getElem? hvi)) v.blocks.length 0 p.slots (by omega) h8 (fun x hx => by have := hu x hx; omega)
    rw [nc0, List.drop_zero] at e
    have hins := ev_l11Add h ⟨incL p.slots v.blocks, p.vols⟩ hvl ⟨to, v.blocks⟩ 0
    have hd : decide ((0 + (v.blocks.map intD).length) * 8 ≤ 140737488355328) = true := decide_eq_true (by rw [List.length_map]; omega)
    refine ⟨_, ?_, .inr (.inl ⟨p.vols.map volD, 2, rfl⟩)⟩
    rw [h.call]
    repeat (conv=>lhs;whnf;arg 2;tactic=>first|exact g1|exact hv|exact hi0|exact hn|exact hv2|exact c2|exact map_get hvi|exact szOk_map intD 1 (fun _ => rfl) v.blocks|exact hd|exact e|exact hins|exact congrArg not hv|exact congrArg not hi0|exact congrArg not hn|exact congrArg not hv2|exact congrArg not c2|exact congrArg not hd|exact congrArg not e|exact congrArg not hins|exact g2)
    rfl
   ·refine ⟨_, ?_, .inl rfl⟩
    rw [h.call]
    repeat (conv=>lhs;whnf;arg 2;tactic=>first|exact g1|exact hv|exact hi0|exact hn|exact hv2|exact c2|exact congrArg not hv|exact congrArg not hi0|exact congrArg not hn|exact congrArg not hv2|exact congrArg not c2|exact g2)
    rfl
def sgoOs (xs : List SlotM) (vs : List VolM) : List Obj := [.row 2 0 2 (xs.map slotD), .row 2 0 2 (vs.map volD), .box [.hw 0, .hw 1], .box [.nils, .nils]]
theorem sgone_loop (vs : List VolM) (k : Nat) (v : VolM) (hv : vs[k]? = some v) (hk : vs.length < 1000) (hbl : v.blocks.length < 1000) (hb8 : ∀ b ∈ v.blocks, 0 ≤ b ∧ b ≤ 8) : ∀ (m i : Nat) (xs : List SlotM), i + m = v.blocks.length → xs.length = 8 → SlotsB (1000 + i) xs →
  L (norm 2 cf156.live) (exitN 2 cf156.out (evCW W L G cf156 2 c156l0)) ⟨[(2, .ptr 2 0), (4, .ptr 3 0), (6, .int .i64 (k : Nat)), (7, .int .i64 (i : Nat))], sgoOs xs vs⟩ =
  some (.ext 0, ⟨[(2, .ptr 2 0), (4, .ptr 3 0), (5, .top), (6, .int .i64 (k : Nat))], sgoOs (freeL xs (v.blocks.drop i)) vs⟩)
 | 0, i, xs, hm, h8, hu => by
  have hkl := lt_of_get hv
  rw [h.loop, List.drop_eq_nil_of_le (show v.blocks.length ≤ i by omega)]
  repeat (conv=>lhs;whnf;arg 2;tactic=>first|exact g1|exact map_get hv|exact g2)
  rfl
 | m + 1, i, xs, hm, h8, hu => by
  have hkl := lt_of_get hv
  obtain ⟨b, hb⟩ := get_some (xs := v.blocks) (i := i) (by omega)
  have hbb := hb8 b (List.mem_of_getElem? hb)
  have hu' := freeM_B' (b := b) hu (by omega)
  have hu2 : SlotsB (1000 + (i + 1 : Nat)) (freeM xs b) := fun x hx => by have := hu' x hx; omega
  rw [h.loop, drop_cons hb, freeL]
  by_cases hp : b > 0
  ·have hf := ev_sfree h xs h8 (fun x hx => by have := hu x hx; omega) b hp hbb.2
   have ih := sgone_loop vs k v hv hk hbl hb8 m (i + 1) (freeM xs b) (by omega) (by rw [freeM_length]; exact h8) hu2
   have hdo := decide_eq_true hp
   repeat (conv=>lhs;whnf;arg 2;tactic=>first|exact g1|exact map_get hv|exact map_get hb|exact hdo|exact hf|exact congrArg not hdo|exact congrArg not hf|exact g2)
   conv => lhs; whnf
   rw [wrap_succ (by omega)]
   exact ih
  ·have hinc : freeM xs b = xs := by simp only [freeM, if_neg hp]
   rw [hinc] at hu2 ⊢
   have ih := sgone_loop vs k v hv hk hbl hb8 m (i + 1) xs (by omega) h8 hu2
   have hdo := decide_eq_false hp
   repeat (conv=>lhs;whnf;arg 2;tactic=>first|exact g1|exact map_get hv|exact map_get hb|exact hdo|exact congrArg not hdo|exact g2)
   conv => lhs; whnf
   rw [wrap_succ (by omega)]
   exact ih
theorem ev_l11Gone (p : PoolM) (hvl : p.vols.length < 1000) (h8 : p.slots.length = 8) (hu : SlotsB 99 p.slots) (hbl : ∀ v ∈ p.vols, v.blocks.length < 1000) (hb8 : ∀ v ∈ p.vols, ∀ b ∈ v.blocks, 0 ≤ b ∧ b ≤ 8) (nm : Str) :
  ∃ x, W f_spec_l11Gone [.agg [.hw 0, .hw 1], .str nm] (specP p) = some x ∧ Res (sGone p nm) x := by
 have hv := ev_l11At h p (by omega) nm
 unfold sGone
 cases hx : volIx p.vols nm with
 | none =>
  rw [hx] at hv
  refine ⟨_, ?_, .inl rfl⟩
  rw [h.call]
  repeat (conv=>lhs;whnf;arg 2;tactic=>first|exact g1|exact hv|exact congrArg not hv|exact g2)
  rfl
 | some i =>
  rw [hx] at hv
  have hi0 : decide (fndI (some i) < 0) = false := decide_eq_false (by simp [fndI])
  obtain ⟨_, hi, v, hvi, _⟩ := fnd_lt hx
  rw [Nat.sub_zero] at hvi
  have e := sgone_loop h p.vols i v hvi hvl (hbl v (List.mem_of_getElem? hvi)) (hb8 v (List.mem_of_getElem? hvi)) v.blocks.length 0 p.slots (by omega) h8 (fun x hx => by have := hu x hx; omega)
  rw [nc0, List.drop_zero] at e
  have hlen : ((p.vols.map volD).length) = p.vols.length := List.length_map ..
  have v1 : (view (p.vols.map volD) 0 (i - 0)).length = i := by simp [view]; omega
  have hd : decide ((0 + (view (p.vols.map volD) 0 (i - 0)).length) * 40 ≤ 140737488355328) = true := decide_eq_true (by rw [v1]; omega)
  have v2 : (view (p.vols.map volD) (i + 1) ((p.vols.map volD).length - (i + 1))).length ≤ p.vols.length := by simp [view]
  have hd2 : decide (((chunks 2 0 ([] : List D) ++ view (p.vols.map volD) 0 (i - 0)).length + (view (p.vols.map volD) (i + 1) ((p.vols.map volD).length - (i + 1))).length) * 40 ≤ 140737488355328) = true := decide_eq_true (by rw [List.length_append, v1]; simp only [chunks, List.length_nil]; omega)
  simp only [goM, hvi]
  refine ⟨_, ?_, .inr (.inl ⟨p.vols.map volD, 0, rfl⟩)⟩
  rw [h.call]
  repeat (conv=>lhs;whnf;arg 2;tactic=>first|exact g1|exact hv|exact hi0|exact e|exact hd|exact hd2|exact congrArg not hv|exact congrArg not hi0|exact congrArg not e|exact congrArg not hd|exact congrArg not hd2|exact g2)
  conv => lhs; whnf
  rw [show chunks 2 0 ([] : List D) ++ view (p.vols.map volD) 0 (i - 0) ++ view (p.vols.map volD) (i + 1) ((p.vols.map volD).length - (i + 1)) = (delV p.vols i).map volD from del_view p.vols i (by omega)]
  all_goals rfl
end
end Go.Gn

namespace Go.Gn
open Go
set_option linter.unusedVariables false
set_option linter.unusedSimpArgs false
set_option maxRecDepth 100000
set_option maxHeartbeats 8000000
def sDo (p : PoolM) (o : OpM) : PoolM × Bool := if o.kind = 1 then sMake p o.name o.n else if o.kind = 2 then sWrite p o.name o.n o.text else if o.kind = 3 then sClone p o.name o.to else sGone p o.name
def Res2 (r : PoolM × Bool) (x : AV × List Obj) : Prop :=
 x = (.tup [.agg [.hw 0, .hw 1], .bool r.2], specP r.1) ∨
 (∃ ys, x = (.tup [.agg [.hw 0, .hw 2], .bool r.2], [.row 2 0 2 (r.1.slots.map slotD), .row 2 0 2 ys, .row 2 0 2 (r.1.vols.map volD)])) ∨
 (∃ xs ys, x = (.tup [.agg [.hw 2, .hw 3], .bool r.2], [.row 2 0 2 xs, .row 2 0 2 ys, .row 2 0 2 (r.1.slots.map slotD), .row 2 0 2 (r.1.vols.map volD)]))
section
variable {W : CallF} {L : LoopF} {E : EqF} {T : Prop → Bool} (h : IsK G W L E T)
include h
theorem ev_l12Do (p : PoolM) (hg : PoolG p) (o : OpM) (ho : o.Sz) : ∃ x, W f_spec_l12Do [.agg [.hw 0, .hw 1], .agg (opC o)] (specP p) = some x ∧ Res2 (sDo p o) x := by
 have hvl : p.vols.length < 1000 := by have := hg.hl; omega
 have hbl : ∀ v ∈ p.vols, v.blocks.length < 1000 := fun v hv => by have := hg.hb v hv; omega
 have n1 : ∀ {a b : Int}, ¬ a = b → (a == b) = false := fun hab => by simp [hab]
 unfold sDo
 by_cases k1 : o.kind = 1
 ·have e1 : (o.kind == 1) = true := by simp [k1]
  simp only [if_pos k1]
  obtain ⟨x, hx, hr⟩ := ev_l11Make h p hvl o.name o.n
  generalize sMake p o.name o.n = r at hr
  rcases hr with rfl | ⟨ys, c, rfl⟩ | ⟨xs, ys, rfl⟩
  ·refine ⟨_, ?_, .inl rfl⟩
   rw [h.call]
   repeat (conv=>lhs;whnf;arg 2;tactic=>first|exact g1|exact e1|exact hx|exact congrArg not e1|exact congrArg not hx|exact g2)
   rfl
  ·refine ⟨_, ?_, .inr (.inl ⟨ys, rfl⟩)⟩
   rw [h.call]
   repeat (conv=>lhs;whnf;arg 2;tactic=>first|exact g1|exact e1|exact hx|exact congrArg not e1|exact congrArg not hx|exact g2)
   rfl
  ·refine ⟨_, ?_, .inr (.inr ⟨xs, ys, rfl⟩)⟩
   rw [h.call]
   repeat (conv=>lhs;whnf;arg 2;tactic=>first|exact g1|exact e1|exact hx|exact congrArg not e1|exact congrArg not hx|exact g2)
   rfl
 ·have e1 := n1 k1
  by_cases k2 : o.kind = 2
  ·have e2 : (o.kind == 2) = true := by simp [k2]
   simp only [if_neg k1, if_pos k2]
   obtain ⟨x, hx, hr⟩ := ev_l11Write h p ⟨by omega, fun v hv => by have := hbl v hv; omega⟩ hvl hg.h8 hg.hu hbl hg.hb8 o.name o.n o.text ho.2.2
   generalize sWrite p o.name o.n o.text = r at hr
   rcases hr with rfl | ⟨ys, c, rfl⟩ | ⟨xs, ys, rfl⟩
   ·refine ⟨_, ?_, .inl rfl⟩
    rw [h.call]
    repeat (conv=>lhs;whnf;arg 2;tactic=>first|exact g1|exact e1|exact e2|exact hx|exact congrArg not e1|exact congrArg not e2|exact congrArg not hx|exact g2)
    rfl
   ·refine ⟨_, ?_, .inr (.inl ⟨ys, rfl⟩)⟩
    rw [h.call]
    repeat (conv=>lhs;whnf;arg 2;tactic=>first|exact g1|exact e1|exact e2|exact hx|exact congrArg not e1|exact congrArg not e2|exact congrArg not hx|exact g2)
    rfl
   ·refine ⟨_, ?_, .inr (.inr ⟨xs, ys, rfl⟩)⟩
    rw [h.call]
    repeat (conv=>lhs;whnf;arg 2;tactic=>first|exact g1|exact e1|exact e2|exact hx|exact congrArg not e1|exact congrArg not e2|exact congrArg not hx|exact g2)
    rfl
  ·have e2 := n1 k2
   by_cases k3 : o.kind = 3
   ·have e3 : (o.kind == 3) = true := by simp [k3]
    simp only [if_neg k1, if_neg k2, if_pos k3]
    obtain ⟨x, hx, hr⟩ := ev_l11Clone h p hvl hg.h8 hg.hu hbl hg.hb8 o.name o.to
    generalize sClone p o.name o.to = r at hr
    rcases hr with rfl | ⟨ys, c, rfl⟩ | ⟨xs, ys, rfl⟩
    ·refine ⟨_, ?_, .inl rfl⟩
     rw [h.call]
     repeat (conv=>lhs;whnf;arg 2;tactic=>first|exact g1|exact e1|exact e2|exact e3|exact hx|exact congrArg not e1|exact congrArg not e2|exact congrArg not e3|exact congrArg not hx|exact g2)
     rfl
    ·refine ⟨_, ?_, .inr (.inl ⟨ys, rfl⟩)⟩
     rw [h.call]
     repeat (conv=>lhs;whnf;arg 2;tactic=>first|exact g1|exact e1|exact e2|exact e3|exact hx|exact congrArg not e1|exact congrArg not e2|exact congrArg not e3|exact congrArg not hx|exact g2)
     rfl
    ·refine ⟨_, ?_, .inr (.inr ⟨xs, ys, rfl⟩)⟩
     rw [h.call]
     repeat (conv=>lhs;whnf;arg 2;tactic=>first|exact g1|exact e1|exact e2|exact e3|exact hx|exact congrArg not e1|exact congrArg not e2|exact congrArg not e3|exact congrArg not hx|exact g2)
     rfl
   ·have e3 := n1 k3
    simp only [if_neg k1, if_neg k2, if_neg k3]
    obtain ⟨x, hx, hr⟩ := ev_l11Gone h p hvl hg.h8 hg.hu hbl hg.hb8 o.name
    generalize sGone p o.name = r at hr
    rcases hr with rfl | ⟨ys, c, rfl⟩ | ⟨xs, ys, rfl⟩
    ·refine ⟨_, ?_, .inl rfl⟩
     rw [h.call]
     repeat (conv=>lhs;whnf;arg 2;tactic=>first|exact g1|exact e1|exact e2|exact e3|exact hx|exact congrArg not e1|exact congrArg not e2|exact congrArg not e3|exact congrArg not hx|exact g2)
     rfl
    ·refine ⟨_, ?_, .inr (.inl ⟨ys, rfl⟩)⟩
     rw [h.call]
     repeat (conv=>lhs;whnf;arg 2;tactic=>first|exact g1|exact e1|exact e2|exact e3|exact hx|exact congrArg not e1|exact congrArg not e2|exact congrArg not e3|exact congrArg not hx|exact g2)
     rfl
    ·refine ⟨_, ?_, .inr (.inr ⟨xs, ys, rfl⟩)⟩
     rw [h.call]
     repeat (conv=>lhs;whnf;arg 2;tactic=>first|exact g1|exact e1|exact e2|exact e3|exact hx|exact congrArg not e1|exact congrArg not e2|exact congrArg not e3|exact congrArg not hx|exact g2)
     rfl
end
end Go.Gn

namespace Go.Gn
open Go
set_option linter.unusedVariables false
set_option linter.unusedSimpArgs false
set_option maxRecDepth 100000
set_option maxHeartbeats 8000000
def runM : PoolM → List OpM → Option PoolM
 | p, [] => some p
 | p, o :: os => if sOpOk o && (sDo p o).2 then runM (sDo p o).1 os else none
def Sh (res : Bool) (a b : List (List D)) (q : Nat) (os : List Obj) : Prop :=
 (q = 3 ∧ os = [.row 2 0 2 a, .row 2 0 2 b, .box [.hw 0, .hw 1], .box (if res then [.hw 0, .hw 1] else [.nils, .nils])]) ∨
 (∃ y, q = 4 ∧ os = [.row 2 0 2 a, .row 2 0 2 y, .box [.hw 0, .hw 3], .row 2 0 2 b, .box (if res then [.hw 0, .hw 3] else [.nils, .nils])]) ∨
 (∃ x y, q = 5 ∧ os = [.row 2 0 2 x, .row 2 0 2 y, .box [.hw 3, .hw 4], .row 2 0 2 a, .row 2 0 2 b, .box (if res then [.hw 3, .hw 4] else [.nils, .nils])])
def Res3 (ok : Bool) (a b : List (List D)) (x : AV × List Obj) : Prop :=
 x = (.tup [.agg [.hw 0, .hw 1], .bool ok], [.row 2 0 2 a, .row 2 0 2 b]) ∨
 (∃ ys, x = (.tup [.agg [.hw 0, .hw 2], .bool ok], [.row 2 0 2 a, .row 2 0 2 ys, .row 2 0 2 b])) ∨
 (∃ xs ys, x = (.tup [.agg [.hw 2, .hw 3], .bool ok], [.row 2 0 2 xs, .row 2 0 2 ys, .row 2 0 2 a, .row 2 0 2 b]))
def Keeps : Prop := ∀ (p : PoolM) (o : OpM), poolOk p = true → sOpOk o = true → (sDo p o).2 = true → poolOk (sDo p o).1 = true
section
variable {W : CallF} {L : LoopF} {E : EqF} {T : Prop → Bool} (h : IsK G W L E T)
include h
theorem run_step1 (ops : List OpM) (hl : ops.length < 2000000) (i : Nat) (o : OpM) (ho : ops[i]? = some o) (hos : o.Sz) (p : PoolM) (hg : PoolG p) :
  if sOpOk o && (sDo p o).2 then ∃ q' os', Sh false ((sDo p o).1.slots.map slotD) ((sDo p o).1.vols.map volD) q' os' ∧ L (norm 2 cf73.live) (exitN 2 cf73.out (evCW W L G cf73 2 c73l0)) ⟨[(1, .sl .br (ops.map opD)), (2, .ptr 2 0), (4, .ptr 3 0), (6, .int .i64 (i : Nat))], [.row 2 0 2 (p.slots.map slotD), .row 2 0 2 (p.vols.map volD), .box [.hw 0, .hw 1], .box [.nils, .nils]]⟩ = L (norm 2 cf73.live) (exitN 2 cf73.out (evCW W L G cf73 2 c73l0)) ⟨[(1, .sl .br (ops.map opD)), (2, .ptr 2 0), (4, .ptr q' 0), (6, .int .i64 ((i + 1 : Nat) : Nat))], os'⟩
  else ∃ a b q' os', Sh true a b q' os' ∧ L (norm 2 cf73.live) (exitN 2 cf73.out (evCW W L G cf73 2 c73l0)) ⟨[(1, .sl .br (ops.map opD)), (2, .ptr 2 0), (4, .ptr 3 0), (6, .int .i64 (i : Nat))], [.row 2 0 2 (p.slots.map slotD), .row 2 0 2 (p.vols.map volD), .box [.hw 0, .hw 1], .box [.nils, .nils]]⟩ = some (.ret, ⟨[(2, .ptr 2 0), (4, .ptr q' 0), (5, .bool false)], os'⟩) := by
 obtain ⟨z, hz, hr⟩ := ev_l12Do h p hg o hos
 have hok := ev_sOpOk h o hos
 have hil := lt_of_get ho
 generalize sDo p o = r at hr
 obtain ⟨p', ok⟩ := r
 cases c1 : sOpOk o
 all_goals rw [c1] at hok
 ·simp only [Bool.false_and, Bool.false_eq_true, if_false]
  rcases hr with rfl | ⟨ys, rfl⟩ | ⟨xs, ys, rfl⟩
  ·refine ⟨p'.slots.map slotD, p'.vols.map volD, _, _, .inl ⟨rfl, rfl⟩, ?_⟩
   rw [h.loop]
   repeat (conv=>lhs;whnf;arg 2;tactic=>first|exact g1|exact map_get ho|exact hz|exact hok|exact congrArg not hz|exact congrArg not hok|exact g2)
   rfl
  ·refine ⟨p'.slots.map slotD, ys, _, _, .inl ⟨rfl, rfl⟩, ?_⟩
   rw [h.loop]
   repeat (conv=>lhs;whnf;arg 2;tactic=>first|exact g1|exact map_get ho|exact hz|exact hok|exact congrArg not hz|exact congrArg not hok|exact g2)
   rfl
  ·refine ⟨xs, ys, _, _, .inl ⟨rfl, rfl⟩, ?_⟩
   rw [h.loop]
   repeat (conv=>lhs;whnf;arg 2;tactic=>first|exact g1|exact map_get ho|exact hz|exact hok|exact congrArg not hz|exact congrArg not hok|exact g2)
   rfl
 ·cases ok
  ·simp only [Bool.and_false, Bool.false_eq_true, if_false]
   rcases hr with rfl | ⟨ys, rfl⟩ | ⟨xs, ys, rfl⟩
   ·refine ⟨p'.slots.map slotD, p'.vols.map volD, _, _, .inl ⟨rfl, rfl⟩, ?_⟩
    rw [h.loop]
    repeat (conv=>lhs;whnf;arg 2;tactic=>first|exact g1|exact map_get ho|exact hz|exact hok|exact congrArg not hz|exact congrArg not hok|exact g2)
    rfl
   ·refine ⟨p'.slots.map slotD, ys, _, _, .inl ⟨rfl, rfl⟩, ?_⟩
    rw [h.loop]
    repeat (conv=>lhs;whnf;arg 2;tactic=>first|exact g1|exact map_get ho|exact hz|exact hok|exact congrArg not hz|exact congrArg not hok|exact g2)
    rfl
   ·refine ⟨xs, ys, _, _, .inl ⟨rfl, rfl⟩, ?_⟩
    rw [h.loop]
    repeat (conv=>lhs;whnf;arg 2;tactic=>first|exact g1|exact map_get ho|exact hz|exact hok|exact congrArg not hz|exact congrArg not hok|exact g2)
    rfl
  ·simp only [Bool.and_true, if_true]
   rcases hr with rfl | ⟨ys, rfl⟩ | ⟨xs, ys, rfl⟩
   ·refine ⟨_, _, .inl ⟨rfl, rfl⟩, ?_⟩
    rw [h.loop]
    repeat (conv=>lhs;whnf;arg 2;tactic=>first|exact g1|exact map_get ho|exact hz|exact hok|exact congrArg not hz|exact congrArg not hok|exact g2)
    conv => lhs; whnf
    rw [wrap_succ (by omega)]
    rfl
   ·refine ⟨_, _, .inr (.inl ⟨ys, rfl, rfl⟩), ?_⟩
    rw [h.loop]
    repeat (conv=>lhs;whnf;arg 2;tactic=>first|exact g1|exact map_get ho|exact hz|exact hok|exact congrArg not hz|exact congrArg not hok|exact g2)
    conv => lhs; whnf
    rw [wrap_succ (by omega)]
    rfl
   ·refine ⟨_, _, .inr (.inr ⟨xs, ys, rfl, rfl⟩), ?_⟩
    rw [h.loop]
    repeat (conv=>lhs;whnf;arg 2;tactic=>first|exact g1|exact map_get ho|exact hz|exact hok|exact congrArg not hz|exact congrArg not hok|exact g2)
    conv => lhs; whnf
    rw [wrap_succ (by omega)]
    rfl
theorem run_step2 (ops : List OpM) (hl : ops.length < 2000000) (i : Nat) (o : OpM) (ho : ops[i]? = some o) (hos : o.Sz) (p : PoolM) (hg : PoolG p) (y : List (List D)) :
  if sOpOk o && (sDo p o).2 then ∃ q' os', Sh false ((sDo p o).1.slots.map slotD) ((sDo p o).1.vols.map volD) q' os' ∧ L (norm 2 cf73.live) (exitN 2 cf73.out (evCW W L G cf73 2 c73l0)) ⟨[(1, .sl .br (ops.map opD)), (2, .ptr 2 0), (4, .ptr 4 0), (6, .int .i64 (i : Nat))], [.row 2 0 2 (p.slots.map slotD), .row 2 0 2 y, .box [.hw 0, .hw 3], .row 2 0 2 (p.vols.map volD), .box [.nils, .nils]]⟩ = L (norm 2 cf73.live) (exitN 2 cf73.out (evCW W L G cf73 2 c73l0)) ⟨[(1, .sl .br (ops.map opD)), (2, .ptr 2 0), (4, .ptr q' 0), (6, .int .i64 ((i + 1 : Nat) : Nat))], os'⟩
  else ∃ a b q' os', Sh true a b q' os' ∧ L (norm 2 cf73.live) (exitN 2 cf73.out (evCW W L G cf73 2 c73l0)) ⟨[(1, .sl .br (ops.map opD)), (2, .ptr 2 0), (4, .ptr 4 0), (6, .int .i64 (i : Nat))], [.row 2 0 2 (p.slots.map slotD), .row 2 0 2 y, .box [.hw 0, .hw 3], .row 2 0 2 (p.vols.map volD), .box [.nils, .nils]]⟩ = some (.ret, ⟨[(2, .ptr 2 0), (4, .ptr q' 0), (5, .bool false)], os'⟩) := by
 obtain ⟨z, hz, hr⟩ := ev_l12Do h p hg o hos
 have hok := ev_sOpOk h o hos
 have hil := lt_of_get ho
 generalize sDo p o = r at hr
 obtain ⟨p', ok⟩ := r
 cases c1 : sOpOk o
 all_goals rw [c1] at hok
 ·simp only [Bool.false_and, Bool.false_eq_true, if_false]
  rcases hr with rfl | ⟨ys, rfl⟩ | ⟨xs, ys, rfl⟩
  ·refine ⟨p'.slots.map slotD, p'.vols.map volD, _, _, .inr (.inl ⟨y, rfl, rfl⟩), ?_⟩
   rw [h.loop]
   repeat (conv=>lhs;whnf;arg 2;tactic=>first|exact g1|exact map_get ho|exact hz|exact hok|exact congrArg not hz|exact congrArg not hok|exact g2)
   rfl
  ·refine ⟨p'.slots.map slotD, ys, _, _, .inr (.inl ⟨y, rfl, rfl⟩), ?_⟩
   rw [h.loop]
   repeat (conv=>lhs;whnf;arg 2;tactic=>first|exact g1|exact map_get ho|exact hz|exact hok|exact congrArg not hz|exact congrArg not hok|exact g2)
   rfl
  ·refine ⟨xs, ys, _, _, .inr (.inl ⟨y, rfl, rfl⟩), ?_⟩
   rw [h.loop]
   repeat (conv=>lhs;whnf;arg 2;tactic=>first|exact g1|exact map_get ho|exact hz|exact hok|exact congrArg not hz|exact congrArg not hok|exact g2)
   rfl
 ·cases ok
  ·simp only [Bool.and_false, Bool.false_eq_true, if_false]
   rcases hr with rfl | ⟨ys, rfl⟩ | ⟨xs, ys, rfl⟩
   ·refine ⟨p'.slots.map slotD, p'.vols.map volD, _, _, .inr (.inl ⟨y, rfl, rfl⟩), ?_⟩
    rw [h.loop]
    repeat (conv=>lhs;whnf;arg 2;tactic=>first|exact g1|exact map_get ho|exact hz|exact hok|exact congrArg not hz|exact congrArg not hok|exact g2)
    rfl
   ·refine ⟨p'.slots.map slotD, ys, _, _, .inr (.inl ⟨y, rfl, rfl⟩), ?_⟩
    rw [h.loop]
    repeat (conv=>lhs;whnf;arg 2;tactic=>first|exact g1|exact map_get ho|exact hz|exact hok|exact congrArg not hz|exact congrArg not hok|exact g2)
    rfl
   ·refine ⟨xs, ys, _, _, .inr (.inl ⟨y, rfl, rfl⟩), ?_⟩
    rw [h.loop]
    repeat (conv=>lhs;whnf;arg 2;tactic=>first|exact g1|exact map_get ho|exact hz|exact hok|exact congrArg not hz|exact congrArg not hok|exact g2)
    rfl
  ·simp only [Bool.and_true, if_true]
   rcases hr with rfl | ⟨ys, rfl⟩ | ⟨xs, ys, rfl⟩
   ·refine ⟨_, _, .inr (.inl ⟨y, rfl, rfl⟩), ?_⟩
    rw [h.loop]
    repeat (conv=>lhs;whnf;arg 2;tactic=>first|exact g1|exact map_get ho|exact hz|exact hok|exact congrArg not hz|exact congrArg not hok|exact g2)
    conv => lhs; whnf
    rw [wrap_succ (by omega)]
    rfl
   ·refine ⟨_, _, .inr (.inl ⟨y, rfl, rfl⟩), ?_⟩
    rw [h.loop]
    repeat (conv=>lhs;whnf;arg 2;tactic=>first|exact g1|exact map_get ho|exact hz|exact hok|exact congrArg not hz|exact congrArg not hok|exact g2)
    conv => lhs; whnf
    rw [wrap_succ (by omega)]
    rfl
   ·refine ⟨_, _, .inr (.inr ⟨xs, y, rfl, rfl⟩), ?_⟩
    rw [h.loop]
    repeat (conv=>lhs;whnf;arg 2;tactic=>first|exact g1|exact map_get ho|exact hz|exact hok|exact congrArg not hz|exact congrArg not hok|exact g2)
    conv => lhs; whnf
    rw [wrap_succ (by omega)]
    rfl
theorem run_step3 (ops : List OpM) (hl : ops.length < 2000000) (i : Nat) (o : OpM) (ho : ops[i]? = some o) (hos : o.Sz) (p : PoolM) (hg : PoolG p) (x y : List (List D)) :
  if sOpOk o && (sDo p o).2 then ∃ q' os', Sh false ((sDo p o).1.slots.map slotD) ((sDo p o).1.vols.map volD) q' os' ∧ L (norm 2 cf73.live) (exitN 2 cf73.out (evCW W L G cf73 2 c73l0)) ⟨[(1, .sl .br (ops.map opD)), (2, .ptr 2 0), (4, .ptr 5 0), (6, .int .i64 (i : Nat))], [.row 2 0 2 x, .row 2 0 2 y, .box [.hw 3, .hw 4], .row 2 0 2 (p.slots.map slotD), .row 2 0 2 (p.vols.map volD), .box [.nils, .nils]]⟩ = L (norm 2 cf73.live) (exitN 2 cf73.out (evCW W L G cf73 2 c73l0)) ⟨[(1, .sl .br (ops.map opD)), (2, .ptr 2 0), (4, .ptr q' 0), (6, .int .i64 ((i + 1 : Nat) : Nat))], os'⟩
  else ∃ a b q' os', Sh true a b q' os' ∧ L (norm 2 cf73.live) (exitN 2 cf73.out (evCW W L G cf73 2 c73l0)) ⟨[(1, .sl .br (ops.map opD)), (2, .ptr 2 0), (4, .ptr 5 0), (6, .int .i64 (i : Nat))], [.row 2 0 2 x, .row 2 0 2 y, .box [.hw 3, .hw 4], .row 2 0 2 (p.slots.map slotD), .row 2 0 2 (p.vols.map volD), .box [.nils, .nils]]⟩ = some (.ret, ⟨[(2, .ptr 2 0), (4, .ptr q' 0), (5, .bool false)], os'⟩) := by
 obtain ⟨z, hz, hr⟩ := ev_l12Do h p hg o hos
 have hok := ev_sOpOk h o hos
 have hil := lt_of_get ho
 generalize sDo p o = r at hr
 obtain ⟨p', ok⟩ := r
 cases c1 : sOpOk o
 all_goals rw [c1] at hok
 ·simp only [Bool.false_and, Bool.false_eq_true, if_false]
  rcases hr with rfl | ⟨ys, rfl⟩ | ⟨xs, ys, rfl⟩
  ·refine ⟨p'.slots.map slotD, p'.vols.map volD, _, _, .inr (.inr ⟨x, y, rfl, rfl⟩), ?_⟩
   rw [h.loop]
   repeat (conv=>lhs;whnf;arg 2;tactic=>first|exact g1|exact map_get ho|exact hz|exact hok|exact congrArg not hz|exact congrArg not hok|exact g2)
   rfl
  ·refine ⟨p'.slots.map slotD, ys, _, _, .inr (.inr ⟨x, y, rfl, rfl⟩), ?_⟩
   rw [h.loop]
   repeat (conv=>lhs;whnf;arg 2;tactic=>first|exact g1|exact map_get ho|exact hz|exact hok|exact congrArg not hz|exact congrArg not hok|exact g2)
   rfl
  ·refine ⟨xs, ys, _, _, .inr (.inr ⟨x, y, rfl, rfl⟩), ?_⟩
   rw [h.loop]
   repeat (conv=>lhs;whnf;arg 2;tactic=>first|exact g1|exact map_get ho|exact hz|exact hok|exact congrArg not hz|exact congrArg not hok|exact g2)
   rfl
 ·cases ok
  ·simp only [Bool.and_false, Bool.false_eq_true, if_false]
   rcases hr with rfl | ⟨ys, rfl⟩ | ⟨xs, ys, rfl⟩
   ·refine ⟨p'.slots.map slotD, p'.vols.map volD, _, _, .inr (.inr ⟨x, y, rfl, rfl⟩), ?_⟩
    rw [h.loop]
    repeat (conv=>lhs;whnf;arg 2;tactic=>first|exact g1|exact map_get ho|exact hz|exact hok|exact congrArg not hz|exact congrArg not hok|exact g2)
    rfl
   ·refine ⟨p'.slots.map slotD, ys, _, _, .inr (.inr ⟨x, y, rfl, rfl⟩), ?_⟩
    rw [h.loop]
    repeat (conv=>lhs;whnf;arg 2;tactic=>first|exact g1|exact map_get ho|exact hz|exact hok|exact congrArg not hz|exact congrArg not hok|exact g2)
    rfl
   ·refine ⟨xs, ys, _, _, .inr (.inr ⟨x, y, rfl, rfl⟩), ?_⟩
    rw [h.loop]
    repeat (conv=>lhs;whnf;arg 2;tactic=>first|exact g1|exact map_get ho|exact hz|exact hok|exact congrArg not hz|exact congrArg not hok|exact g2)
    rfl
  ·simp only [Bool.and_true, if_true]
   rcases hr with rfl | ⟨ys, rfl⟩ | ⟨xs, ys, rfl⟩
   ·refine ⟨_, _, .inr (.inr ⟨x, y, rfl, rfl⟩), ?_⟩
    rw [h.loop]
    repeat (conv=>lhs;whnf;arg 2;tactic=>first|exact g1|exact map_get ho|exact hz|exact hok|exact congrArg not hz|exact congrArg not hok|exact g2)
    conv => lhs; whnf
    rw [wrap_succ (by omega)]
    rfl
   ·refine ⟨_, _, .inr (.inr ⟨x, y, rfl, rfl⟩), ?_⟩
    rw [h.loop]
    repeat (conv=>lhs;whnf;arg 2;tactic=>first|exact g1|exact map_get ho|exact hz|exact hok|exact congrArg not hz|exact congrArg not hok|exact g2)
    conv => lhs; whnf
    rw [wrap_succ (by omega)]
    rfl
   ·refine ⟨_, _, .inr (.inr ⟨x, y, rfl, rfl⟩), ?_⟩
    rw [h.loop]
    repeat (conv=>lhs;whnf;arg 2;tactic=>first|exact g1|exact map_get ho|exact hz|exact hok|exact congrArg not hz|exact congrArg not hok|exact g2)
    conv => lhs; whnf
    rw [wrap_succ (by omega)]
    rfl
end
end Go.Gn

namespace Go.Gn
open Go
set_option linter.unusedVariables false
set_option linter.unusedSimpArgs false
set_option maxRecDepth 100000
set_option maxHeartbeats 8000000
section
variable {W : CallF} {L : LoopF} {E : EqF} {T : Prop → Bool} (h : IsK G W L E T)
include h
theorem run_loop (hK : Keeps) (ops : List OpM) (hs : OpsSz ops) : ∀ (m i : Nat) (p : PoolM) (q : Nat) (os : List Obj), i + m = ops.length → poolOk p = true → Sh false (p.slots.map slotD) (p.vols.map volD) q os →
  match runM p (ops.drop i) with
  | some p' => ∃ q' os', Sh false (p'.slots.map slotD) (p'.vols.map volD) q' os' ∧ L (norm 2 cf73.live) (exitN 2 cf73.out (evCW W L G cf73 2 c73l0)) ⟨[(1, .sl .br (ops.map opD)), (2, .ptr 2 0), (4, .ptr q 0), (6, .int .i64 (i : Nat))], os⟩ = some (.ext 0, ⟨[(2, .ptr 2 0), (4, .ptr q' 0), (5, .top)], os'⟩)
  | none => ∃ a b q' os', Sh true a b q' os' ∧ L (norm 2 cf73.live) (exitN 2 cf73.out (evCW W L G cf73 2 c73l0)) ⟨[(1, .sl .br (ops.map opD)), (2, .ptr 2 0), (4, .ptr q 0), (6, .int .i64 (i : Nat))], os⟩ = some (.ret, ⟨[(2, .ptr 2 0), (4, .ptr q' 0), (5, .bool false)], os'⟩)
 | 0, i, p, q, os, hm, hp, hsh => by
  rw [List.drop_eq_nil_of_le (show ops.length ≤ i by omega)]
  simp only [runM]
  refine ⟨q, os, hsh, ?_⟩
  rw [h.loop]
  rcases hsh with ⟨rfl, rfl⟩ | ⟨y, rfl, rfl⟩ | ⟨x, y, rfl, rfl⟩
  ·repeat (conv=>lhs;whnf;arg 2;tactic=>first|exact g1|exact g2)
   rfl
  ·repeat (conv=>lhs;whnf;arg 2;tactic=>first|exact g1|exact g2)
   rfl
  ·repeat (conv=>lhs;whnf;arg 2;tactic=>first|exact g1|exact g2)
   rfl
 | m + 1, i, p, q, os, hm, hp, hsh => by
  obtain ⟨o, ho⟩ := get_some (xs := ops) (i := i) (by omega)
  have hos := hs.2 o (List.mem_of_getElem? ho)
  have hg := poolOk_G hp
  rw [drop_cons ho, runM]
  have key : if sOpOk o && (sDo p o).2 then ∃ q' os', Sh false ((sDo p o).1.slots.map slotD) ((sDo p o).1.vols.map volD) q' os' ∧ L (norm 2 cf73.live) (exitN 2 cf73.out (evCW W L G cf73 2 c73l0)) ⟨[(1, .sl .br (ops.map opD)), (2, .ptr 2 0), (4, .ptr q 0), (6, .int .i64 (i : Nat))], os⟩ = L (norm 2 cf73.live) (exitN 2 cf73.out (evCW W L G cf73 2 c73l0)) ⟨[(1, .sl .br (ops.map opD)), (2, .ptr 2 0), (4, .ptr q' 0), (6, .int .i64 ((i + 1 : Nat) : Int))], os'⟩
    else ∃ a b q' os', Sh true a b q' os' ∧ L (norm 2 cf73.live) (exitN 2 cf73.out (evCW W L G cf73 2 c73l0)) ⟨[(1, .sl .br (ops.map opD)), (2, .ptr 2 0), (4, .ptr q 0), (6, .int .i64 (i : Nat))], os⟩ = some (.ret, ⟨[(2, .ptr 2 0), (4, .ptr q' 0), (5, .bool false)], os'⟩) := by
   rcases hsh with ⟨rfl, rfl⟩ | ⟨y, rfl, rfl⟩ | ⟨x, y, rfl, rfl⟩
   ·exact run_step1 h ops hs.1 i o ho hos p hg
   ·exact run_step2 h ops hs.1 i o ho hos p hg y
   ·exact run_step3 h ops hs.1 i o ho hos p hg x y
  by_cases hc : (sOpOk o && (sDo p o).2) = true
  ·rw [if_pos hc] at key ⊢
   obtain ⟨q', os', hsh', e⟩ := key
   rw [e]
   rw [Bool.and_eq_true] at hc
   exact run_loop hK ops hs m (i + 1) _ q' os' (by omega) (hK p o hp hc.1 hc.2) hsh'
  ·rw [if_neg hc] at key ⊢
   exact key
theorem ev_l13Run (hK : Keeps) (p : PoolM) (hp : poolOk p = true) (ops : List OpM) (hs : OpsSz ops) : ∃ a b x, W f_spec_l13Run [.agg [.hw 0, .hw 1], .sl .br (ops.map opD)] (specP p) = some x ∧ Res3 (runM p ops).isSome a b x ∧ ∀ p', runM p ops = some p' → a = p'.slots.map slotD ∧ b = p'.vols.map volD := by
 have e := run_loop h hK ops hs ops.length 0 p 3 _ (by omega) hp (.inl ⟨rfl, rfl⟩)
 rw [nc0, List.drop_zero] at e
 cases hr : runM p ops with
 | some p' =>
  rw [hr] at e
  obtain ⟨q', os', hsh, e⟩ := e
  rcases hsh with ⟨rfl, rfl⟩ | ⟨y, rfl, rfl⟩ | ⟨x, y, rfl, rfl⟩
  ·refine ⟨p'.slots.map slotD, p'.vols.map volD, _, ?_, .inl rfl, fun p2 h2 => by cases h2; exact ⟨rfl, rfl⟩⟩
   rw [h.call]
   repeat (conv=>lhs;whnf;arg 2;tactic=>first|exact g1|exact e|exact congrArg not e|exact g2)
   rfl
  ·refine ⟨p'.slots.map slotD, p'.vols.map volD, _, ?_, .inr (.inl ⟨y, rfl⟩), fun p2 h2 => by cases h2; exact ⟨rfl, rfl⟩⟩
   rw [h.call]
   repeat (conv=>lhs;whnf;arg 2;tactic=>first|exact g1|exact e|exact congrArg not e|exact g2)
   rfl
  ·refine ⟨p'.slots.map slotD, p'.vols.map volD, _, ?_, .inr (.inr ⟨x, y, rfl⟩), fun p2 h2 => by cases h2; exact ⟨rfl, rfl⟩⟩
   rw [h.call]
   repeat (conv=>lhs;whnf;arg 2;tactic=>first|exact g1|exact e|exact congrArg not e|exact g2)
   rfl
 | none =>
  rw [hr] at e
  obtain ⟨a, b, q', os', hsh, e⟩ := e
  rcases hsh with ⟨rfl, rfl⟩ | ⟨y, rfl, rfl⟩ | ⟨x, y, rfl, rfl⟩
  ·refine ⟨a, b, _, ?_, .inl rfl, fun p2 h2 => by cases h2⟩
   rw [h.call]
   repeat (conv=>lhs;whnf;arg 2;tactic=>first|exact g1|exact e|exact congrArg not e|exact g2)
   rfl
  ·refine ⟨a, b, _, ?_, .inr (.inl ⟨y, rfl⟩), fun p2 h2 => by cases h2⟩
   rw [h.call]
   repeat (conv=>lhs;whnf;arg 2;tactic=>first|exact g1|exact e|exact congrArg not e|exact g2)
   rfl
  ·refine ⟨a, b, _, ?_, .inr (.inr ⟨x, y, rfl⟩), fun p2 h2 => by cases h2⟩
   rw [h.call]
   repeat (conv=>lhs;whnf;arg 2;tactic=>first|exact g1|exact e|exact congrArg not e|exact g2)
   rfl
theorem ev_sStoreNew : W f_spec_StoreNew [] [] = some (.hw 0, [.row 2 0 0 (emptySlots.map slotD)]) := by
 rw [h.call]
 repeat (conv=>lhs;whnf;arg 2;tactic=>first|exact g1|exact g2)
 rfl
theorem ev_sPoolNew : W f_spec_PoolNew [] [] = some (.agg [.hw 0, .hw 1], [.row 2 0 2 (emptySlots.map slotD), .row 2 0 0 []]) := by
 rw [h.call]
 repeat (conv=>lhs;whnf;arg 2;tactic=>first|exact g1|exact ev_sStoreNew h|exact g2)
 rfl
end
end Go.Gn

namespace Go.Gn
open Go
set_option linter.unusedVariables false
set_option linter.unusedSimpArgs false
set_option maxRecDepth 100000
set_option maxHeartbeats 8000000
structure LogM where
 base : PoolM
 ops : List OpM
 safe : Int
 deriving DecidableEq
abbrev Sm (n : Nat) : Prop := n < 9223372036854775808
structure VolSm (v : VolM) : Prop where
 n : Sm v.name.size
 b : Sm v.blocks.length
structure OpSm (o : OpM) : Prop where
 n : Sm o.name.size
 t : Sm o.to.size
 x : Sm o.text.size
structure PoolSm (p : PoolM) : Prop where
 sl : Sm p.slots.length
 s : ∀ x ∈ p.slots, Sm x.text.size
 vl : Sm p.vols.length
 v : ∀ x ∈ p.vols, VolSm x
structure LogSm (g : LogM) : Prop where
 b : PoolSm g.base
 ol : Sm g.ops.length
 o : ∀ x ∈ g.ops, OpSm x
section
variable {W : CallF} {L : LoopF} {E : EqF} {T : Prop → Bool} (h : IsK G W L E T)
include h
end
end Go.Gn

namespace Go.Gn
open Go
set_option linter.unusedVariables false
def kyb : Str → Nat
 | ⟨⟨[a]⟩⟩ => a.toNat
 | _ => 0
theorem nm_cases {s : Str} (h : isName s = true) : s = ⟨#[65]⟩ ∨ s = ⟨#[66]⟩ ∨ s = ⟨#[67]⟩ ∨ s = ⟨#[68]⟩ := by
 simpa [isName, seq_eq] using h
theorem nm_key {s : Str} (h : isName s = true) : 65 ≤ kyb s ∧ kyb s ≤ 68 := by
 rcases nm_cases h with h | h | h | h <;> subst h <;> decide
theorem nm_inj {a b : Str} (ha : isName a = true) (hb : isName b = true) (h : kyb a = kyb b) : a = b := by
 rcases nm_cases ha with h1 | h1 | h1 | h1 <;> rcases nm_cases hb with h2 | h2 | h2 | h2 <;> subst h1 <;> subst h2 <;> first | rfl | (exfalso; revert h; decide)
theorem nm_less {a b : Str} (ha : isName a = true) (hb : isName b = true) : Op.bytesLess a.toList b.toList = decide (kyb a < kyb b) := by
 rcases nm_cases ha with h1 | h1 | h1 | h1 <;> rcases nm_cases hb with h2 | h2 | h2 | h2 <;> subst h1 <;> subst h2 <;> decide +kernel
theorem nm_geq {a b : Str} (ha : isName a = true) (hb : isName b = true) : geq a b = decide (kyb b ≤ kyb a) := by
 rw [geq, nm_less ha hb]; by_cases h : kyb a < kyb b
 ·simp [h]
 ·simp [h]; omega
theorem nm_gt {a b : Str} (ha : isName a = true) (hb : isName b = true) : gtS a b = decide (kyb b < kyb a) := by
 rcases nm_cases ha with h1 | h1 | h1 | h1 <;> rcases nm_cases hb with h2 | h2 | h2 | h2 <;> subst h1 <;> subst h2 <;> decide +kernel
theorem nm_cmp {a b : Str} (ha : isName a = true) (hb : isName b = true) : decide (cmpStr a b < 0) = decide (kyb a < kyb b) := by
 rw [cmpStr, nm_less ha hb, nm_less hb ha]
 by_cases h : kyb a < kyb b
 ·simp [h]
 ·simp [h]; split <;> omega
theorem sName_eq (s : Str) : sName s = isName s := by
 cases hs : isName s with
 | true => rcases nm_cases hs with h | h | h | h <;> subst h <;> decide
 | false =>
  match s with
  | ⟨⟨[]⟩⟩ => rfl
  | ⟨⟨[a]⟩⟩ =>
   have e : sName ⟨⟨[a]⟩⟩ = inR (byteAt ⟨⟨[a]⟩⟩ 0) 65 68 := rfl
   have e2 : byteAt ⟨⟨[a]⟩⟩ 0 = (a.toNat : Int) := rfl
   rw [e, e2]
   cases hc : inR (a.toNat : Int) 65 68 with
   | false => rfl
   | true =>
    exfalso
    have h2 : 65 ≤ a.toNat ∧ a.toNat ≤ 68 := by simp [inR] at hc; omega
    have : a.toNat = 65 ∨ a.toNat = 66 ∨ a.toNat = 67 ∨ a.toNat = 68 := by omega
    have hx : ∀ b : UInt8, a.toNat = b.toNat → a = b := fun b hb => UInt8.toNat_inj.mp hb
    rcases this with h | h | h | h
    ·have := hx 65 h; subst this; revert hs; decide +kernel
    ·have := hx 66 h; subst this; revert hs; decide +kernel
    ·have := hx 67 h; subst this; revert hs; decide +kernel
    ·have := hx 68 h; subst this; revert hs; decide +kernel
  | ⟨⟨a :: b :: l⟩⟩ =>
   have e : ((ByteArray.size ⟨⟨a :: b :: l⟩⟩ : Nat) : Int) ≠ 1 := by
    show ((l.length + 1 + 1 : Nat) : Int) ≠ 1
    omega
   rw [sName, beq_false_of_ne e]
def SortV (vs : List VolM) : Prop := vs.Pairwise fun a b => kyb a.name < kyb b.name
def NmV (vs : List VolM) : Prop := ∀ v ∈ vs, isName v.name = true
theorem sort_len : ∀ (vs : List VolM) (lo : Nat), SortV vs → (∀ v ∈ vs, lo ≤ kyb v.name ∧ kyb v.name ≤ 68) → lo ≤ 69 → vs.length ≤ 69 - lo
 | [], lo, _, _, _ => by simp
 | v :: vs, lo, hs, hr, hl => by
  have h1 := hr v (by simp)
  have h2 := List.pairwise_cons.mp hs
  have := sort_len vs (kyb v.name + 1) h2.2 (fun u hu => ⟨h2.1 u hu, (hr u (by simp [hu])).2⟩) (by omega)
  simp only [List.length_cons]; omega
theorem sort_len4 {vs : List VolM} (hs : SortV vs) (hn : NmV vs) : vs.length ≤ 4 := by
 have := sort_len vs 65 hs (fun v hv => nm_key (hn v hv)) (by omega)
 omega
theorem volsOkL_iff (vs : List VolM) : ∀ m i, i + m = vs.length → (volsOkL vs m i = true ↔ (∀ j v, i ≤ j → vs[j]? = some v → volOk v = true) ∧ ∀ j u v, i ≤ j + 1 → vs[j]? = some u → vs[j + 1]? = some v → geq u.name v.name = false)
 | 0, i, hi => by
  rw [volsOkL]
  simp only [true_iff]
  constructor
  ·intro j v hj hv
   have := (List.getElem?_eq_some_iff.mp hv).1
   omega
  ·intro j u v hj hu hv
   have := (List.getElem?_eq_some_iff.mp hv).1
   omega
 | m + 1, i, hi => by
  obtain ⟨w, hw⟩ := get_some (xs := vs) (i := i) (by omega)
  have ih := volsOkL_iff vs m (i + 1) (by omega)
  rw [volsOkL, hw]
  simp only [Bool.and_eq_true, ih]
  constructor
  ·rintro ⟨h1, h2, h3, h4⟩
   constructor
   ·intro j v hj hv
    by_cases e : j = i
    ·subst e; rw [hw] at hv; cases hv; exact h1
    ·exact h3 j v (by omega) hv
   ·intro j u v hj hu hv
    by_cases e : j + 1 = i
    ·subst e
     rw [hw] at hv; cases hv
     simp only [hu, Bool.not_eq_true'] at h2
     exact h2
    ·exact h4 j u v (by omega) hu hv
  ·rintro ⟨h1, h2⟩
   refine ⟨h1 i w (by omega) hw, ?_, fun j v hj hv => h1 j v (by omega) hv, fun j u v hj hu hv => h2 j u v (by omega) hu hv⟩
   cases i with
   | zero => rfl
   | succ j =>
    obtain ⟨u, hu⟩ := get_some (xs := vs) (i := j) (by omega)
    simp only [hu, Bool.not_eq_true']
    exact h2 j u w (by omega) hu hw
theorem adj_sort : ∀ (vs : List VolM), (∀ j u v, vs[j]? = some u → vs[j + 1]? = some v → kyb u.name < kyb v.name) → SortV vs
 | [], _ => List.Pairwise.nil
 | [a], _ => List.pairwise_singleton _ _
 | a :: b :: l, h => by
  have ih := adj_sort (b :: l) (fun j u v hu hv => h (j + 1) u v (by simpa using hu) (by simpa using hv))
  have hab := h 0 a b rfl rfl
  refine List.pairwise_cons.mpr ⟨fun c hc => ?_, ih⟩
  rcases List.mem_cons.mp hc with e | hc
  ·rw [e]; exact hab
  ·exact Nat.lt_trans hab ((List.pairwise_cons.mp ih).1 c hc)
theorem volOk_nm {v : VolM} (h : volOk v = true) : isName v.name = true := by
 simp only [volOk, Bool.and_eq_true] at h
 exact h.2.1
theorem vols_iff (vs : List VolM) : volsOkL vs vs.length 0 = true ↔ (∀ v ∈ vs, volOk v = true) ∧ SortV vs := by
 rw [volsOkL_iff vs vs.length 0 (by omega)]
 constructor
 ·rintro ⟨h1, h2⟩
  have h3 : ∀ v ∈ vs, volOk v = true := fun v hv => by
   obtain ⟨j, hj⟩ := List.getElem?_of_mem hv
   exact h1 j v (by omega) hj
  refine ⟨h3, adj_sort vs fun j u v hu hv => ?_⟩
  have := h2 j u v (by omega) hu hv
  rw [nm_geq (volOk_nm (h3 u (List.mem_of_getElem? hu))) (volOk_nm (h3 v (List.mem_of_getElem? hv)))] at this
  simpa using this
 ·rintro ⟨h1, h2⟩
  refine ⟨fun j v _ hv => h1 v (List.mem_of_getElem? hv), fun j u v _ hu hv => ?_⟩
  rw [nm_geq (volOk_nm (h1 u (List.mem_of_getElem? hu))) (volOk_nm (h1 v (List.mem_of_getElem? hv)))]
  have ⟨hj, e1⟩ := List.getElem?_eq_some_iff.mp hu
  have ⟨hj2, e2⟩ := List.getElem?_eq_some_iff.mp hv
  have := List.pairwise_iff_getElem.mp h2 j (j + 1) hj hj2 (by omega)
  rw [e1, e2] at this
  simpa using this
theorem insS_sort {v : VolM} (hv : isName v.name = true) : ∀ {vs : List VolM}, NmV vs → SortV vs → (∀ u ∈ vs, u.name ≠ v.name) → SortV (insS v vs) ∧ ∀ u, u ∈ insS v vs ↔ u = v ∨ u ∈ vs
 | [], _, _, _ => ⟨List.pairwise_singleton _ _, fun u => by simp [insS]⟩
 | w :: ws, hn, hs, hne => by
  have hw := hn w (by simp)
  have hp := List.pairwise_cons.mp hs
  rw [insS, nm_gt hw hv]
  by_cases hk : kyb v.name < kyb w.name
  ·simp only [hk, decide_true, if_true]
   refine ⟨List.pairwise_cons.mpr ⟨fun u hu => ?_, hs⟩, fun u => by simp⟩
   rcases List.mem_cons.mp hu with e | hu
   ·rw [e]; exact hk
   ·exact Nat.lt_trans hk (hp.1 u hu)
  ·simp only [hk, decide_false, Bool.false_eq_true, if_false]
   have ih := insS_sort hv (vs := ws) (fun u hu => hn u (by simp [hu])) hp.2 (fun u hu => hne u (by simp [hu]))
   refine ⟨List.pairwise_cons.mpr ⟨fun u hu => ?_, ih.1⟩, fun u => ?_⟩
   ·rcases (ih.2 u).mp hu with e | hu
    ·rw [e]
     have h1 : kyb w.name ≠ kyb v.name := fun e => hne w (by simp) (nm_inj hw hv e)
     omega
    ·exact hp.1 u hu
   ·simp only [List.mem_cons, ih.2 u]
    constructor
    ·rintro (h | h | h)
     ·exact .inr (.inl h)
     ·exact .inl h
     ·exact .inr (.inr h)
    ·rintro (h | h | h)
     ·exact .inr (.inl h)
     ·exact .inl h
     ·exact .inr (.inr h)
theorem insS_cut {v : VolM} : ∀ {vs : List VolM} (k : Nat), k ≤ vs.length → (∀ j u, j < k → vs[j]? = some u → gtS u.name v.name = false) → (∀ u, vs[k]? = some u → gtS u.name v.name = true) → insS v vs = vs.take k ++ [v] ++ vs.drop k
 | [], 0, _, _, _ => rfl
 | [], k + 1, h, _, _ => by simp at h
 | w :: ws, 0, _, _, h2 => by
  rw [insS, h2 w rfl]; rfl
 | w :: ws, k + 1, hk, h1, h2 => by
  rw [insS, h1 0 w (by omega) rfl]
  simp only [Bool.false_eq_true, if_false, List.take_succ_cons, List.drop_succ_cons, List.cons_append]
  rw [insS_cut (vs := ws) k (by simpa using hk) (fun j u hj hu => h1 (j + 1) u (by omega) (by simpa using hu)) (fun u hu => h2 u (by simpa using hu))]
theorem bs_spec {vs : List VolM} {n : Str} (hn : NmV vs) (hn2 : isName n = true) (hs : SortV vs) : ∀ f i j, j - i ≤ f → i ≤ j → j ≤ vs.length → (∀ k u, k < i → vs[k]? = some u → kyb u.name < kyb n) → (∀ k u, j ≤ k → vs[k]? = some u → kyb n ≤ kyb u.name) →
  bs vs n f i j ≤ vs.length ∧ (∀ k u, k < bs vs n f i j → vs[k]? = some u → kyb u.name < kyb n) ∧ (∀ k u, bs vs n f i j ≤ k → vs[k]? = some u → kyb n ≤ kyb u.name)
 | 0, i, j, hf, hij, hj, h1, h2 => by
  have : j = i := by omega
  subst this
  rw [bs]
  exact ⟨hj, h1, h2⟩
 | f + 1, i, j, hf, hij, hj, h1, h2 => by
  rw [bs]
  by_cases hlt : i < j
  ·rw [if_pos hlt]
   obtain ⟨w, hw⟩ := get_some (xs := vs) (i := (i + j) / 2) (by omega)
   have hwn := hn w (List.mem_of_getElem? hw)
   have ⟨hj1, e1⟩ := List.getElem?_eq_some_iff.mp hw
   have hpi := List.pairwise_iff_getElem.mp hs
   rw [hw]
   have hc := nm_cmp hwn hn2
   by_cases hk : kyb w.name < kyb n
   ·have hc2 : cmpStr w.name n < 0 := by simpa [hk] using hc
    show _ ∧ _ ∧ _
    simp only [hc2, if_true]
    refine bs_spec hn hn2 hs f ((i + j) / 2 + 1) j (by omega) (by omega) hj (fun k u hk2 hu => ?_) h2
    have ⟨hk1, e2⟩ := List.getElem?_eq_some_iff.mp hu
    by_cases e : k = (i + j) / 2
    ·subst e; rw [hw] at hu; cases hu; exact hk
    ·have := hpi k ((i + j) / 2) hk1 hj1 (by omega)
     rw [e1, e2] at this
     omega
   ·have hc2 : ¬ cmpStr w.name n < 0 := by simpa [hk] using hc
    simp only [hc2, if_false]
    refine bs_spec hn hn2 hs f i ((i + j) / 2) (by omega) (by omega) (by omega) h1 (fun k u hk2 hu => ?_)
    have ⟨hk1, e2⟩ := List.getElem?_eq_some_iff.mp hu
    by_cases e : k = (i + j) / 2
    ·subst e; rw [hw] at hu; cases hu; omega
    ·have := hpi ((i + j) / 2) k hj1 hk1 (by omega)
     rw [e1, e2] at this
     omega
  ·rw [if_neg hlt]
   have : j = i := by omega
   subst this
   exact ⟨hj, h1, h2⟩
theorem insV_eq {vs : List VolM} {v : VolM} (hn : NmV vs) (hv : isName v.name = true) (hs : SortV vs) (hne : ∀ u ∈ vs, u.name ≠ v.name) : insV vs v = insS v vs := by
 have h := bs_spec hn hv hs vs.length 0 vs.length (by omega) (by omega) (Nat.le_refl _) (fun k u hk _ => by omega) (fun k u hk hu => by
  have := (List.getElem?_eq_some_iff.mp hu).1
  omega)
 rw [insV, insIx]
 refine (insS_cut _ h.1 (fun j u hj hu => ?_) (fun u hu => ?_)).symm
 ·have := h.2.1 j u hj hu
  rw [nm_gt (hn u (List.mem_of_getElem? hu)) hv]
  simp; omega
 ·have := h.2.2 _ u (Nat.le_refl _) hu
  have hu2 := List.mem_of_getElem? hu
  rw [nm_gt (hn u hu2) hv]
  have h1 : kyb u.name ≠ kyb v.name := fun e => hne u hu2 (nm_inj (hn u hu2) hv e)
  simp; omega
theorem fnd_none {α : Type} {p : α → Bool} : ∀ {xs : List α} {i : Nat}, fnd p xs i = none ↔ ∀ x ∈ xs, p x = false
 | [], i => by simp [fnd]
 | x :: xs, i => by
  rw [fnd]
  cases hp : p x with
  | true => simp [hp]
  | false =>
   show fnd p xs (i + 1) = none ↔ _
   rw [fnd_none (xs := xs)]
   simp [hp]
theorem fndI_neg {r : Option Nat} : decide (fndI r < 0) = r.isNone := by
 cases r with
 | none => rfl
 | some i => exact decide_eq_false (fun (e : (i : Int) < 0) => by omega)
theorem fndI_nn {r : Option Nat} : decide (fndI r ≥ 0) = r.isSome := by
 cases r with
 | none => rfl
 | some i => simp [fndI]
theorem volIx_none {vs : List VolM} {n : Str} : volIx vs n = none ↔ ∀ u ∈ vs, u.name ≠ n := by
 rw [volIx, fnd_none]
 constructor
 ·intro h u hu e
  have := h u hu
  rw [e, seq_refl] at this
  cases this
 ·intro h u hu
  rw [seq_eq]; simpa using h u hu
theorem volIx_some {vs : List VolM} {n : Str} {i : Nat} (h : volIx vs n = some i) : ∃ v, vs[i]? = some v ∧ v.name = n ∧ i < vs.length := by
 obtain ⟨_, h2, v, hv, hp⟩ := fnd_lt h
 refine ⟨v, by simpa using hv, ?_, by omega⟩
 rw [seq_eq] at hp
 simpa using hp
end Go.Gn

namespace Go.Gn
open Go
set_option linter.unusedVariables false
structure SlotI (xs : List SlotM) (f : Int → Int) : Prop where
 len : xs.length = 8
 txt : ∀ x ∈ xs, textOk x.text = true
 use : ∀ (i : Nat) (x : SlotM), xs[i]? = some x → x.uses = f ((i : Int) + 1)
 pos : ∀ x ∈ xs, 0 ≤ x.uses
 emp : ∀ x ∈ xs, (x.text = noText ↔ x.uses = 0)
 dis : ∀ (i j : Nat) (x y : SlotM), xs[i]? = some x → xs[j]? = some y → x.text = y.text → x.text ≠ noText → i = j
theorem SlotI.congr {xs : List SlotM} {f g : Int → Int} (h : SlotI xs f) (e : ∀ k, 1 ≤ k → k ≤ 8 → f k = g k) : SlotI xs g := { h with
 use := fun i x hx => by
  rw [h.use i x hx]
  have := (List.getElem?_eq_some_iff.mp hx).1
  have h8 := h.len
  exact e _ (by omega) (by omega) }
theorem SlotI.set {xs : List SlotM} {f : Int → Int} (h : SlotI xs f) {j : Nat} (hj : j < 8) {y : SlotM} (ht : textOk y.text = true) (hp : 0 ≤ y.uses) (he : y.text = noText ↔ y.uses = 0)
  (hd : y.text ≠ noText → ∀ (i : Nat) (x : SlotM), xs[i]? = some x → x.text = y.text → i = j) : SlotI (xs.set j y) (fun k => if k = (j : Int) + 1 then y.uses else f k) := by
 have hl := h.len
 have hm : ∀ x, x ∈ xs.set j y → x ∈ xs ∨ x = y := fun x hx => List.mem_or_eq_of_mem_set hx
 have hg : ∀ i x, (xs.set j y)[i]? = some x → (i = j ∧ x = y) ∨ (i ≠ j ∧ xs[i]? = some x) := by
  intro i x hx
  by_cases e : j = i
  ·subst e
   rw [get_set_self (by omega)] at hx
   cases hx
   exact .inl ⟨rfl, rfl⟩
  ·rw [List.getElem?_set_ne e] at hx
   exact .inr ⟨fun e2 => e e2.symm, hx⟩
 refine ⟨by simp [hl], fun x hx => ?_, fun i x hx => ?_, fun x hx => ?_, fun x hx => ?_, fun i k x z hx hz e hne => ?_⟩
 ·rcases hm x hx with h1 | h1
  ·exact h.txt x h1
  ·rw [h1]; exact ht
 ·rcases hg i x hx with ⟨h1, h2⟩ | ⟨h1, h2⟩
  ·rw [h1, h2]; simp
  ·rw [h.use i x h2]
   have : (i : Int) + 1 ≠ (j : Int) + 1 := by omega
   simp [this]
 ·rcases hm x hx with h1 | h1
  ·exact h.pos x h1
  ·rw [h1]; exact hp
 ·rcases hm x hx with h1 | h1
  ·exact h.emp x h1
  ·rw [h1]; exact he
 ·rcases hg i x hx with ⟨h1, h2⟩ | ⟨h1, h2⟩ <;> rcases hg k z hz with ⟨h3, h4⟩ | ⟨h3, h4⟩
  ·rw [h1, h3]
  ·rw [h2] at e hne
   rw [h1]; exact (hd hne k z h4 e.symm).symm
  ·rw [h4] at e
   rw [h3]; exact hd (fun e2 => hne (e.trans e2)) i x h2 e
  ·exact h.dis i k x z h2 h4 e hne
theorem textOk_no : textOk noText = true := by decide +kernel
theorem slotOk_iff (pre : List SlotM) (x : SlotM) : slotOk pre x = true ↔ textOk x.text = true ∧ (0 ≤ x.uses ∧ x.uses ≤ 99) ∧ (x.text = noText ↔ x.uses = 0) ∧ (x.text ≠ noText → ∀ y ∈ pre, y.text ≠ x.text) := by
 rw [slotOk, fndI_nn]
 simp only [Bool.and_eq_true, inR, decide_eq_true_eq, Bool.not_not, seq_eq]
 have e1 : (decide (x.text = noText) == (x.uses == 0)) = true ↔ (x.text = noText ↔ x.uses = 0) := by
  by_cases h1 : x.text = noText <;> by_cases h2 : x.uses = 0 <;> simp [h1, h2]
 have e2 : (!(!decide (x.text = noText) && (fnd (fun y : SlotM => decide (y.text = x.text)) pre 0).isSome)) = true ↔ (x.text ≠ noText → ∀ y ∈ pre, y.text ≠ x.text) := by
  cases hf : fnd (fun y : SlotM => decide (y.text = x.text)) pre 0 with
  | none =>
   have := fnd_none.mp hf
   simp only [Option.isSome_none, Bool.and_false, Bool.not_false, true_iff]
   intro _ y hy
   simpa using this y hy
  | some i =>
   obtain ⟨_, _, y, hy, hp⟩ := fnd_lt hf
   simp only [Option.isSome_some, Bool.and_true, Bool.not_not, decide_eq_true_eq]
   constructor
   ·intro h h2; exact absurd h h2
   ·intro h
    by_cases h2 : x.text = noText
    ·exact h2
    ·exact absurd (by simpa using hp) (h h2 y (List.mem_of_getElem? hy))
 rw [e1, e2]
theorem storeOkL_iff (xs : List SlotM) : ∀ m i, i + m = xs.length → (storeOkL xs m i = true ↔ ∀ j x, i ≤ j → xs[j]? = some x → slotOk (xs.take j) x = true)
 | 0, i, hi => by
  rw [storeOkL]
  simp only [true_iff]
  intro j x hj hx
  have := (List.getElem?_eq_some_iff.mp hx).1
  omega
 | m + 1, i, hi => by
  obtain ⟨w, hw⟩ := get_some (xs := xs) (i := i) (by omega)
  have ih := storeOkL_iff xs m (i + 1) (by omega)
  rw [storeOkL, hw]
  simp only [Bool.and_eq_true, ih]
  constructor
  ·rintro ⟨h1, h2⟩ j x hj hx
   by_cases e : j = i
   ·subst e; rw [hw] at hx; cases hx; exact h1
   ·exact h2 j x (by omega) hx
  ·intro h
   exact ⟨h i w (by omega) hw, fun j x hj hx => h j x (by omega) hx⟩
theorem usesOkL_iff (xs : List SlotM) (vs : List VolM) : ∀ m i, i + m = xs.length → (usesOkL xs vs m i = true ↔ ∀ j x, i ≤ j → xs[j]? = some x → x.uses = sumU ((j : Int) + 1) vs)
 | 0, i, hi => by
  rw [usesOkL]
  simp only [true_iff]
  intro j x hj hx
  have := (List.getElem?_eq_some_iff.mp hx).1
  omega
 | m + 1, i, hi => by
  obtain ⟨w, hw⟩ := get_some (xs := xs) (i := i) (by omega)
  have ih := usesOkL_iff xs vs m (i + 1) (by omega)
  rw [usesOkL, hw]
  simp only [Bool.and_eq_true, ih, beq_iff_eq]
  constructor
  ·rintro ⟨h1, h2⟩ j x hj hx
   by_cases e : j = i
   ·subst e; rw [hw] at hx; cases hx; exact h1.symm
   ·exact h2 j x (by omega) hx
  ·intro h
   exact ⟨(h i w (by omega) hw).symm, fun j x hj hx => h j x (by omega) hx⟩
structure PoolP (p : PoolM) : Prop where
 s : SlotI p.slots (fun k => sumU k p.vols)
 v : ∀ v ∈ p.vols, volOk v = true
 o : SortV p.vols
theorem PoolP.nm {p : PoolM} (h : PoolP p) : NmV p.vols := fun v hv => volOk_nm (h.v v hv)
theorem PoolP.len {p : PoolM} (h : PoolP p) : p.vols.length ≤ 4 := sort_len4 h.o h.nm
theorem PoolP.sum {p : PoolM} (h : PoolP p) (k : Int) : 0 ≤ sumU k p.vols ∧ sumU k p.vols ≤ 24 := by
 have h1 := sumU_range k p.vols 6 (fun v hv => (volOk_len (h.v v hv)).2)
 have h2 := h.len
 omega
theorem poolOk_iff (p : PoolM) : poolOk p = true ↔ PoolP p := by
 rw [poolOk]
 simp only [Bool.and_eq_true, Bool.not_eq_true', decide_eq_false_iff_not, storeOk, beq_iff_eq]
 constructor
 ·rintro ⟨⟨h1, h8⟩, h2, h3, h4⟩
  have h8' : p.slots.length = 8 := by omega
  have g1 := (storeOkL_iff p.slots _ 0 (by omega)).mp h1
  have g4 := (usesOkL_iff p.slots p.vols 8 0 (by omega)).mp h4
  have g3 := (vols_iff p.vols).mp h3
  have g5 : ∀ j x, p.slots[j]? = some x → textOk x.text = true ∧ (0 ≤ x.uses ∧ x.uses ≤ 99) ∧ (x.text = noText ↔ x.uses = 0) ∧ (x.text ≠ noText → ∀ y ∈ p.slots.take j, y.text ≠ x.text) :=
   fun j x hx => (slotOk_iff _ x).mp (g1 j x (by omega) hx)
  have g6 : ∀ x ∈ p.slots, ∃ j : Nat, p.slots[j]? = some x := fun x hx => List.getElem?_of_mem hx
  refine ⟨⟨h8', fun x hx => ?_, fun i x hx => g4 i x (by omega) hx, fun x hx => ?_, fun x hx => ?_, ?_⟩, g3.1, g3.2⟩
  ·obtain ⟨j, hj⟩ := g6 x hx; exact (g5 j x hj).1
  ·obtain ⟨j, hj⟩ := g6 x hx; exact (g5 j x hj).2.1.1
  ·obtain ⟨j, hj⟩ := g6 x hx; exact (g5 j x hj).2.2.1
  ·have key : ∀ (i j : Nat) (x y : SlotM), i < j → p.slots[i]? = some x → p.slots[j]? = some y → x.text = y.text → y.text ≠ noText → False := fun i j x y hij hx hy e hne => by
    refine (g5 j y hy).2.2.2 hne x ?_ e
    refine List.mem_of_getElem? (i := i) ?_
    rw [List.getElem?_take, if_pos hij]; exact hx
   intro i j x y hx hy e hne
   rcases Nat.lt_trichotomy i j with hij | hij | hij
   ·exact (key i j x y hij hx hy e (fun e2 => hne (e.trans e2))).elim
   ·exact hij
   ·exact (key j i y x hij hy hx e.symm hne).elim
 ·intro h
  have h8 := h.s.len
  refine ⟨⟨(storeOkL_iff p.slots _ 0 (by omega)).mpr fun j x _ hx => (slotOk_iff _ x).mpr ?_, by omega⟩, by have := h.len; omega, (vols_iff p.vols).mpr ⟨h.v, h.o⟩, (usesOkL_iff p.slots p.vols 8 0 (by omega)).mpr fun j x _ hx => h.s.use j x hx⟩
  have hm := List.mem_of_getElem? hx
  have hu := h.s.use j x hx
  have hb := h.sum ((j : Int) + 1)
  refine ⟨h.s.txt x hm, by omega, h.s.emp x hm, fun hne y hy e => ?_⟩
  obtain ⟨i, hi⟩ := List.getElem?_of_mem hy
  rw [List.getElem?_take] at hi
  split at hi
  ·have := h.s.dis i j y x hi hx e (fun e2 => hne (e.symm.trans e2))
   omega
  ·cases hi
theorem cnt_nil (k : Int) : cnt [] k = 0 := rfl
theorem cnt_mem {bs : List Int} {b : Int} (h : b ∈ bs) : 1 ≤ cnt bs b := by
 rw [cnt]
 have : 0 < (bs.filter fun c => c == b).length := List.length_pos_of_mem (List.mem_filter.mpr ⟨h, by simp⟩)
 omega
theorem cnt_set : ∀ {bs : List Int} {j : Nat} {o n k : Int}, bs[j]? = some o → cnt (bs.set j n) k = cnt bs k - (if o = k then 1 else 0) + (if n = k then 1 else 0)
 | [], j, o, n, k, h => by simp at h
 | b :: bs, 0, o, n, k, h => by
  simp at h; subst h
  rw [List.set_cons_zero, cnt_cons, cnt_cons]
  by_cases h1 : n = k <;> by_cases h2 : b = k <;> simp [h1, h2] <;> omega
 | b :: bs, j + 1, o, n, k, h => by
  rw [List.set_cons_succ, cnt_cons, cnt_cons, cnt_set (bs := bs) (j := j) (o := o) (by simpa using h)]
  omega
theorem cnt_rep (n : Nat) (k : Int) (hk : 1 ≤ k) : cnt (List.replicate n 0) k = 0 := by
 have : (List.replicate n (0 : Int)).filter (fun b => b == k) = [] := by
  refine List.filter_eq_nil_iff.mpr fun a ha => ?_
  have := List.eq_of_mem_replicate ha
  subst this
  simp; omega
 rw [cnt, this]; rfl
theorem sumU_set : ∀ {vs : List VolM} {i : Nat} {v w : VolM} {k : Int}, vs[i]? = some v → sumU k (vs.set i w) = sumU k vs - cnt v.blocks k + cnt w.blocks k
 | [], i, v, w, k, h => by simp at h
 | u :: us, 0, v, w, k, h => by
  simp at h; subst h
  rw [List.set_cons_zero, sumU, sumU]; omega
 | u :: us, i + 1, v, w, k, h => by
  rw [List.set_cons_succ, sumU, sumU, sumU_set (vs := us) (i := i) (v := v) (by simpa using h)]; omega
theorem sumU_ins (v : VolM) (k : Int) : ∀ (vs : List VolM), sumU k (insS v vs) = cnt v.blocks k + sumU k vs
 | [] => by simp [insS, sumU]
 | u :: us => by
  rw [insS]
  split
  ·simp only [sumU]
  ·rw [sumU, sumU_ins v k us, sumU]; omega
theorem sumU_del : ∀ {vs : List VolM} {i : Nat} {v : VolM} {k : Int}, vs[i]? = some v → sumU k (delV vs i) = sumU k vs - cnt v.blocks k
 | [], i, v, k, h => by simp at h
 | u :: us, 0, v, k, h => by
  simp at h; subst h
  simp [delV, sumU]; omega
 | u :: us, i + 1, v, k, h => by
  have ih := sumU_del (vs := us) (i := i) (v := v) (k := k) (by simpa using h)
  simp only [delV] at ih
  simp only [delV, List.take_succ_cons, List.drop_succ_cons, List.cons_append, sumU]
  omega
theorem sumU_ge {vs : List VolM} {i : Nat} {v : VolM} {k : Int} (h : vs[i]? = some v) : cnt v.blocks k ≤ sumU k vs := by
 induction vs generalizing i with
 | nil => simp at h
 | cons u us ih =>
  have h0 : ∀ ws : List VolM, 0 ≤ sumU k ws := fun ws => by
   induction ws with
   | nil => exact Int.le_refl _
   | cons w ws ih2 => rw [sumU]; have := (cnt_range w.blocks k).1; omega
  rw [sumU]
  cases i with
  | zero => simp at h; subst h; have := h0 us; omega
  | succ i => have := ih (i := i) (by simpa using h); have := (cnt_range u.blocks k).1; omega
theorem free_I {xs : List SlotM} {f : Int → Int} (h : SlotI xs f) {b : Int} (hb : 0 ≤ b ∧ b ≤ 8) (hf : 0 < b → 1 ≤ f b) : SlotI (freeM xs b) (fun k => f k - (if b = k then 1 else 0)) := by
 have hl := h.len
 rw [freeM]
 by_cases hb0 : b > 0
 ·rw [if_pos hb0]
  obtain ⟨x, hx⟩ := get_some (xs := xs) (i := (b - 1).toNat) (by omega)
  rw [hx]
  have hu := h.use _ x hx
  have hm := List.mem_of_getElem? hx
  have eb : (((b - 1).toNat : Nat) : Int) + 1 = b := by omega
  rw [eb] at hu
  have hfb := hf hb0
  have hd : x.dec.uses = x.uses - 1 := by rw [SlotM.dec]; split <;> simp <;> omega
  show SlotI (xs.set (b - 1).toNat x.dec) _
  refine (h.set (j := (b - 1).toNat) (by omega) (y := x.dec) ?_ (by omega) ?_ ?_).congr fun k _ _ => ?_
  ·rw [SlotM.dec]; split
   ·exact textOk_no
   ·exact h.txt x hm
  ·rw [SlotM.dec]; split
   ·simp [noText]
   ·rename_i hne
    have := h.emp x hm
    constructor
    ·intro e; have := this.mp e; omega
    ·intro e; exact absurd e hne
  ·rw [SlotM.dec]; split
   ·intro e; exact absurd rfl e
   ·intro hne i z hz e
    exact (h.dis (b - 1).toNat i x z hx hz e.symm hne).symm
  ·simp only [eb, hd]
   by_cases hk : k = b
   ·subst hk; simp; omega
   ·have : ¬ b = k := fun e => hk e.symm
    simp [hk, this]
 ·rw [if_neg hb0]
  refine h.congr fun k hk _ => ?_
  have : b ≠ k := by omega
  simp [this]
theorem inc_I {xs : List SlotM} {f : Int → Int} (h : SlotI xs f) {b : Int} (hb : 0 ≤ b ∧ b ≤ 8) (hf : 0 < b → 1 ≤ f b) : SlotI (incM xs b) (fun k => f k + (if b = k then 1 else 0)) := by
 have hl := h.len
 rw [incM]
 by_cases hb0 : b > 0
 ·rw [if_pos hb0]
  obtain ⟨x, hx⟩ := get_some (xs := xs) (i := (b - 1).toNat) (by omega)
  rw [hx]
  have hu := h.use _ x hx
  have hm := List.mem_of_getElem? hx
  have eb : (((b - 1).toNat : Nat) : Int) + 1 = b := by omega
  rw [eb] at hu
  have hfb := hf hb0
  have he := h.emp x hm
  show SlotI (xs.set (b - 1).toNat x.inc) _
  refine (h.set (j := (b - 1).toNat) (by omega) (y := x.inc) (h.txt x hm) (by simp only [SlotM.inc]; omega) ?_ ?_).congr fun k _ _ => ?_
  ·simp only [SlotM.inc]
   constructor
   ·intro e; have := he.mp e; omega
   ·intro e; omega
  ·simp only [SlotM.inc]
   intro hne i z hz e
   exact (h.dis (b - 1).toNat i x z hx hz e.symm hne).symm
  ·simp only [eb, SlotM.inc]
   by_cases hk : k = b
   ·subst hk; simp; omega
   ·have : ¬ b = k := fun e => hk e.symm
    simp [hk, this]
 ·rw [if_neg hb0]
  refine h.congr fun k hk _ => ?_
  have : b ≠ k := by omega
  simp [this]
theorem incL_I : ∀ (bs : List Int) {xs : List SlotM} {f : Int → Int}, SlotI xs f → (∀ b ∈ bs, (0 ≤ b ∧ b ≤ 8) ∧ (0 < b → 1 ≤ f b)) → SlotI (incL xs bs) (fun k => f k + cnt bs k)
 | [], xs, f, h, _ => h.congr fun k _ _ => by rw [cnt_nil]; omega
 | b :: bs, xs, f, h, hb => by
  rw [incL]
  have h1 := inc_I h (hb b (by simp)).1 (hb b (by simp)).2
  refine (incL_I bs h1 (fun c hc => ⟨(hb c (by simp [hc])).1, fun h0 => ?_⟩)).congr fun k _ _ => ?_
  ·have := (hb c (by simp [hc])).2 h0
   split <;> omega
  ·rw [cnt_cons]; simp only [beq_iff_eq]; omega
theorem freeL_I : ∀ (bs : List Int) {xs : List SlotM} {f : Int → Int}, SlotI xs f → (∀ b ∈ bs, 0 ≤ b ∧ b ≤ 8) → (∀ k, 1 ≤ k → cnt bs k ≤ f k) → SlotI (freeL xs bs) (fun k => f k - cnt bs k)
 | [], xs, f, h, _, _ => h.congr fun k _ _ => by rw [cnt_nil]; omega
 | b :: bs, xs, f, h, hb, hc => by
  rw [freeL]
  have h1 := free_I h (hb b (by simp)) (fun h0 => by
   have := hc b (by omega)
   have := cnt_mem (bs := b :: bs) (b := b) (by simp)
   omega)
  refine (freeL_I bs h1 (fun c hc => hb c (by simp [hc])) fun k hk => ?_).congr fun k _ _ => ?_
  ·have := hc k hk
   rw [cnt_cons] at this
   simp only [beq_iff_eq] at this
   omega
  ·rw [cnt_cons]; simp only [beq_iff_eq]; omega
end Go.Gn

