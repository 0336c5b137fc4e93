/- Part 10 of a proof: an evaluator of the program, proved sound, and what it answers. -/
import Derived.Test.YtkgpnfeabojhcaaGreatA9
set_option linter.all false
namespace Go.Gn
open Go
set_option maxRecDepth 100000
set_option maxHeartbeats 4000000
def poolV (p : PoolM) : List Obj := [.row 2 0 2 (p.slots.map slotD), .row 2 p.vols.length 1 (p.vols.map volD)]
def poolR (r : PoolM × Bool) : AV × List Obj := (.tup [.agg [.hw 0, .hw 1], .bool r.2], poolV r.1)
def noPool : AV × List Obj := (.tup [.agg [.nils, .nils], .bool false], [])
def poolMake (p : PoolM) (nm : Str) (sz : Int) : PoolM × Bool := if makeBad p nm sz then (p, false) else (makeM p nm sz, true)
def poolWrite (p : PoolM) (nm : Str) (b : Int) (t : Str) : PoolM × Bool := match hasB p nm b with
 | none => (p, false)
 | some i => if textOk t then (if (wrM p i b.toNat t).2 then ((wrM p i b.toNat t).1, true) else (p, false)) else (p, false)
def poolClone (p : PoolM) (fr to : Str) : PoolM × Bool := if cloneBad p fr to then (p, false) else (clM p (fndI (volIx p.vols fr)).toNat to, true)
def poolGone (p : PoolM) (nm : Str) : PoolM × Bool := match volIx p.vols nm with
 | none => (p, false)
 | some i => (goM p i, true)
structure PoolG (p : PoolM) : Prop where
 h8 : p.slots.length = 8
 hu : SlotsB 99 p.slots
 hl : p.vols.length ≤ 4
 hb : ∀ v ∈ p.vols, v.blocks.length ≤ 6
 hb8 : ∀ v ∈ p.vols, ∀ b ∈ v.blocks, 0 ≤ b ∧ b ≤ 8
theorem storeOkL_get {xs : List SlotM} : ∀ {m i : Nat}, storeOkL xs m i = true → ∀ j, i ≤ j → j < i + m → ∀ x, xs[j]? = some x → slotOk (xs.take j) x = true
 | 0, i, _, j, h1, h2, x, hx => by omega
 | m + 1, i, hk, j, h1, h2, x, hx => by
  simp only [storeOkL] at hk
  split at hk
  ·rename_i y hy
   rw [Bool.and_eq_true] at hk
   by_cases hij : j = i
   ·subst hij; rw [hy] at hx; cases hx; exact hk.1
   ·exact storeOkL_get hk.2 j (by omega) (by omega) x hx
  ·cases hk
theorem poolOk_G {p : PoolM} (h : poolOk p = true) : PoolG p := by
 simp only [poolOk, Bool.and_eq_true, Bool.not_eq_true', decide_eq_false_iff_not, storeOk, beq_iff_eq] at h
 obtain ⟨⟨h1, h2⟩, h3, h4, h5⟩ := h
 refine ⟨by omega, fun x hx => ?_, by omega, fun v hv => ?_, fun v hv b hb => ?_⟩
 ·obtain ⟨j, hj⟩ := List.getElem?_of_mem hx
  have := storeOkL_get h1 j (by omega) (by have := lt_of_get hj; omega) x hj
  simp only [slotOk, Bool.and_eq_true, inR, decide_eq_true_eq] at this
  omega
 ·obtain ⟨j, hj⟩ := List.getElem?_of_mem hv
  exact (volOk_len (volsOkL_len h4 j (by omega) (by have := lt_of_get hj; omega) v hj)).2
 ·obtain ⟨j, hj⟩ := List.getElem?_of_mem hv
  have := volsOkL_len h4 j (by omega) (by have := lt_of_get hj; omega) v hj
  simp only [volOk, Bool.and_eq_true, inAll, List.all_eq_true] at this
  have := this.1 b hb
  simp only [inR, Bool.and_eq_true, decide_eq_true_eq] at this
  exact this
section
variable {W : CallF} {L : LoopF} {E : EqF} {T : Prop → Bool} (h : IsK G W L E T)
include h
theorem gone_loop (p : PoolM) (bs : List Int) (hbl : bs.length < 1000) (hb8 : ∀ b ∈ bs, 0 ≤ b ∧ b ≤ 8) (ix : Nat) : ∀ (m i : Nat) (xs : List SlotM), i + m = bs.length → xs.length = 8 → SlotsB (1000 + i) xs →
  L (norm 3 cf172.live) (exitN 3 cf172.out (evCW W L G cf172 3 c172l0)) ⟨[(0, .ptr 0 0), (5, .int .i64 (ix : Nat)), (18, .sl .br (bs.map intD)), (19, .int .i64 ((bs.map intD).length : Nat)), (20, .int .i64 (i : Nat))], ownA ⟨xs, p.vols⟩⟩ =
  some (.ext 0, ⟨[(0, .ptr 0 0), (4, .top), (5, .int .i64 (ix : Nat))], ownA ⟨freeL xs (bs.drop i), p.vols⟩⟩)
 | 0, i, xs, hm, h8, hu => by
  rw [h.loop, List.drop_eq_nil_of_le (show bs.length ≤ i by omega)]
  repeat (conv=>lhs;whnf;arg 2;tactic=>first|exact g1)
  rfl
 | m + 1, i, xs, hm, h8, hu => by
  obtain ⟨b, hb⟩ := get_some (xs := bs) (i := i) (by omega)
  have hbb := hb8 b (List.mem_of_getElem? hb)
  have hu' := freeM_B' (b := b) hu (by omega)
  have hu2 : SlotsB (1000 + (i + 1 : Nat)) (freeM xs b) := fun x hx => by have := hu' x hx; omega
  rw [h.loop, drop_cons hb, freeL]
  by_cases hp : b > 0
  ·have hf := ev_free h xs h8 (fun x hx => by have := hu x hx; omega) b hp hbb.2
   repeat (conv=>lhs;whnf;arg 2;tactic=>first|exact g1|exact map_get hb|exact hf)
   conv => lhs; whnf
   rw [wrap_succ (by omega)]
   exact gone_loop p bs hbl hb8 ix m (i + 1) (freeM xs b) (by omega) (by rw [freeM_length]; exact h8) hu2
  ·have hinc : freeM xs b = xs := by simp only [freeM, if_neg hp]
   rw [hinc] at hu2 ⊢
   repeat (conv=>lhs;whnf;arg 2;tactic=>first|exact g1|exact map_get hb)
   conv => lhs; whnf
   rw [wrap_succ (by omega)]
   exact gone_loop p bs hbl hb8 ix m (i + 1) xs (by omega) h8 hu2
theorem ev_gone_c1 (p : PoolM) (hl : p.vols.length < 1000000) (hbl : ∀ v ∈ p.vols, v.blocks.length < 1000) (h8 : p.slots.length = 8) (hu : SlotsB 1000 p.slots) (hb8 : ∀ v ∈ p.vols, ∀ b ∈ v.blocks, 0 ≤ b ∧ b ≤ 8) (nm : Str) :
  W f_impl_PoolGone_c1 [.ptr 0 0, .ep .br (poolDs p) 0, .ep .br [.str nm] 0] (ownA p) =
  some (match volIx p.vols nm with
   | none => (.bool false, ownA p)
   | some i => (.bool true, ownB (goM p i))) := by
 have hv := ev_vol h p (by omega) nm
 rw [h.call]
 cases hf : volIx p.vols nm with
 | none =>
  rw [hf] at hv
  repeat (conv=>lhs;whnf;arg 2;tactic=>first|exact hv)
  rfl
 | some i =>
  rw [hf] at hv
  have hi0 : decide (fndI (some i) < 0) = false := decide_eq_false (by simp [fndI])
  obtain ⟨_, hi, v, hvi, _⟩ := fnd_lt hf
  rw [Nat.sub_zero] at hvi
  have hvb := hbl v (List.mem_of_getElem? hvi)
  have e := gone_loop h p v.blocks hvb (hb8 v (List.mem_of_getElem? hvi)) i v.blocks.length 0 p.slots (by omega) h8 (fun x hx => by have := hu x hx; omega)
  rw [nc0, List.drop_zero] at e
  have hd := ev_Delete h p.vols i (by omega)
  rw [← wrap_succ (i := i) (by omega)] at hd
  repeat (conv=>lhs;whnf;arg 2;tactic=>first|exact hv|exact map_get hvi|exact e|exact hd)
  have e : (delV p.vols i).length = p.vols.length - 1 := delV_length (by omega)
  simp only [goM, hvi, ownB, e]
  rfl
theorem ev_changed_make (p : PoolM) (hs : PoolSz p) (nm : Str) (sz : Int) : W f_impl_changed [poolA p, .fn f_impl_PoolMake_c1 [.ep .br [.str nm] 0, .ep .br (poolDs p) 0, .ep .br [.int .i64 sz] 0]] [] = some (if poolOk p then poolR (poolMake p nm sz) else noPool) := by
 have hok := ev_PoolOk h p hs
 rw [h.call]
 cases hp : poolOk p
 ·rw [hp] at hok
  repeat (conv=>lhs;whnf;arg 2;tactic=>first|exact hok)
  rfl
 ·rw [hp] at hok
  have hg := poolOk_G hp
  have hcl := ev_Pool_clone h p hs.v (by rw [hg.h8]; omega) (by have := hg.hl; omega) (fun v hv => by have := hg.hb v hv; omega)
  have hc := ev_make_c1 h p (by have := hg.hl; omega) nm sz
  unfold poolMake
  cases hb : makeBad p nm sz
  ·rw [hb] at hc
   repeat (conv=>lhs;whnf;arg 2;tactic=>first|exact hok|exact hcl|exact hc)
   rfl
  ·rw [hb] at hc
   repeat (conv=>lhs;whnf;arg 2;tactic=>first|exact hok|exact hcl|exact hc)
   rfl
theorem ev_changed_write (p : PoolM) (hs : PoolSz p) (nm : Str) (b : Int) (t : Str) (ht : t.size < 4611686018427387904) : W f_impl_changed [poolA p, .fn f_impl_PoolWrite_c1 [.ep .br (poolDs p) 0, .ep .br [.str nm] 0, .ep .br [.int .i64 b] 0, .ep .br [.str t] 0]] [] = some (if poolOk p then poolR (poolWrite p nm b t) else noPool) := by
 have hok := ev_PoolOk h p hs
 rw [h.call]
 cases hp : poolOk p
 ·rw [hp] at hok
  repeat (conv=>lhs;whnf;arg 2;tactic=>first|exact hok)
  rfl
 ·rw [hp] at hok
  have hg := poolOk_G hp
  have hcl := ev_Pool_clone h p hs.v (by rw [hg.h8]; omega) (by have := hg.hl; omega) (fun v hv => by have := hg.hb v hv; omega)
  have hc := ev_write_c1 h p hs.v hg.h8 hg.hu hg.hb8 nm b t ht
  unfold poolWrite
  cases hx : hasB p nm b with
  | none =>
   rw [hx] at hc
   repeat (conv=>lhs;whnf;arg 2;tactic=>first|exact hok|exact hcl|exact hc)
   rfl
  | some i =>
   rw [hx] at hc
   simp only at hc ⊢
   cases htx : textOk t
   ·rw [htx] at hc
    repeat (conv=>lhs;whnf;arg 2;tactic=>first|exact hok|exact hcl|exact hc)
    rfl
   ·rw [htx] at hc
    simp only [if_true] at hc ⊢
    cases hw : (wrM p i b.toNat t).2
    ·rw [hw] at hc
     repeat (conv=>lhs;whnf;arg 2;tactic=>first|exact hok|exact hcl|exact hc)
     rfl
    ·rw [hw] at hc
     repeat (conv=>lhs;whnf;arg 2;tactic=>first|exact hok|exact hcl|exact hc)
     rfl
theorem ev_changed_clone (p : PoolM) (hs : PoolSz p) (fr to : Str) : W f_impl_changed [poolA p, .fn f_impl_PoolClone_c1 [.ep .br (poolDs p) 0, .ep .br [.str fr] 0, .ep .br [.str to] 0]] [] = some (if poolOk p then poolR (poolClone p fr to) else noPool) := by
 have hok := ev_PoolOk h p hs
 rw [h.call]
 cases hp : poolOk p
 ·rw [hp] at hok
  repeat (conv=>lhs;whnf;arg 2;tactic=>first|exact hok)
  rfl
 ·rw [hp] at hok
  have hg := poolOk_G hp
  have hcl := ev_Pool_clone h p hs.v (by rw [hg.h8]; omega) (by have := hg.hl; omega) (fun v hv => by have := hg.hb v hv; omega)
  have hc := ev_clone_c1 h p (by have := hg.hl; omega) (fun v hv => by have := hg.hb v hv; omega) hg.h8 (fun x hx => by have := hg.hu x hx; omega) hg.hb8 fr to
  unfold poolClone
  cases hb : cloneBad p fr to
  ·rw [hb] at hc
   repeat (conv=>lhs;whnf;arg 2;tactic=>first|exact hok|exact hcl|exact hc)
   rfl
  ·rw [hb] at hc
   repeat (conv=>lhs;whnf;arg 2;tactic=>first|exact hok|exact hcl|exact hc)
   rfl
theorem ev_changed_gone (p : PoolM) (hs : PoolSz p) (nm : Str) : W f_impl_changed [poolA p, .fn f_impl_PoolGone_c1 [.ep .br (poolDs p) 0, .ep .br [.str nm] 0]] [] = some (if poolOk p then poolR (poolGone p nm) else noPool) := by
 have hok := ev_PoolOk h p hs
 rw [h.call]
 cases hp : poolOk p
 ·rw [hp] at hok
  repeat (conv=>lhs;whnf;arg 2;tactic=>first|exact hok)
  rfl
 ·rw [hp] at hok
  have hg := poolOk_G hp
  have hcl := ev_Pool_clone h p hs.v (by rw [hg.h8]; omega) (by have := hg.hl; omega) (fun v hv => by have := hg.hb v hv; omega)
  have hc := ev_gone_c1 h p (by have := hg.hl; omega) (fun v hv => by have := hg.hb v hv; omega) hg.h8 (fun x hx => by have := hg.hu x hx; omega) hg.hb8 nm
  unfold poolGone
  cases hx : volIx p.vols nm with
  | none =>
   rw [hx] at hc
   repeat (conv=>lhs;whnf;arg 2;tactic=>first|exact hok|exact hcl|exact hc)
   rfl
  | some i =>
   rw [hx] at hc
   repeat (conv=>lhs;whnf;arg 2;tactic=>first|exact hok|exact hcl|exact hc)
   rfl
end
end Go.Gn

namespace Go.Gn
open Go
set_option maxRecDepth 100000
set_option maxHeartbeats 4000000
def poolDo (p : PoolM) (o : OpM) : PoolM × Bool := if o.kind = 1 then poolMake p o.name o.n else if o.kind = 2 then poolWrite p o.name o.n o.text else if o.kind = 3 then poolClone p o.name o.to else poolGone p o.name
def opDo (p : PoolM) (o : OpM) : AV × List Obj := if poolOk p then (if opOk o then poolR (poolDo p o) else noPool) else noPool
def doAllM : PoolM → List OpM → Option PoolM
 | p, [] => some p
 | p, o :: os => if poolOk p && opOk o && (poolDo p o).2 then doAllM (poolDo p o).1 os else none
abbrev SmS (s : Str) : Prop := s.size < 4611686018427387904
theorem sm_no : SmS noText := by show (0 : Nat) < _; omega
def TxS (xs : List SlotM) : Prop := ∀ x ∈ xs, SmS x.text
theorem TxS.set {xs : List SlotM} (h : TxS xs) {i : Nat} {y : SlotM} (hy : SmS y.text) : TxS (xs.set i y) := by
 intro x hx
 rcases List.mem_or_eq_of_mem_set hx with hx | rfl
 ·exact h x hx
 ·exact hy
theorem freeM_T {xs : List SlotM} (h : TxS xs) (b : Int) : TxS (freeM xs b) := by
 unfold freeM
 split
 ·split
  ·rename_i y hy
   refine h.set ?_
   unfold SlotM.dec
   split
   ·exact sm_no
   ·exact h y (List.mem_of_getElem? hy)
  ·exact h
 ·exact h
theorem incM_T {xs : List SlotM} (h : TxS xs) (b : Int) : TxS (incM xs b) := by
 unfold incM
 split
 ·split
  ·rename_i y hy
   exact h.set (h y (List.mem_of_getElem? hy))
  ·exact h
 ·exact h
theorem incL_T {xs : List SlotM} (h : TxS xs) : ∀ (bs : List Int), TxS (incL xs bs) := by
 intro bs
 induction bs generalizing xs with
 | nil => exact h
 | cons b bs ih => exact ih (incM_T h b)
theorem freeL_T {xs : List SlotM} (h : TxS xs) : ∀ (bs : List Int), TxS (freeL xs bs) := by
 intro bs
 induction bs generalizing xs with
 | nil => exact h
 | cons b bs ih => exact ih (freeM_T h b)
theorem incL_length : ∀ (bs : List Int) (xs : List SlotM), (incL xs bs).length = xs.length
 | [], xs => rfl
 | b :: bs, xs => by rw [incL, incL_length bs, incM_length]
theorem freeL_length : ∀ (bs : List Int) (xs : List SlotM), (freeL xs bs).length = xs.length
 | [], xs => rfl
 | b :: bs, xs => by rw [freeL, freeL_length bs, freeM_length]
theorem probe_sz (xs : List SlotM) (t : Str) (ht : SmS t) (h : TxS xs) : ∀ m p, TxS (probe xs t m p).1 ∧ (probe xs t m p).1.length = xs.length
 | 0, p => ⟨h, rfl⟩
 | m + 1, p => by
  simp only [probe]
  split
  ·split
   ·exact ⟨h.set ht, by simp⟩
   ·exact probe_sz xs t ht h m _
  ·exact ⟨h, rfl⟩
theorem putM_sz {xs : List SlotM} {t : Str} (ht : SmS t) (h : TxS xs) : TxS (putM xs t).1 ∧ (putM xs t).1.length = xs.length := by
 unfold putM
 split
 ·exact probe_sz xs t ht h _ _
 ·split
  ·rename_i x hx
   split
   ·exact ⟨h, rfl⟩
   ·exact ⟨h.set (h x (List.mem_of_getElem? hx)), by simp⟩
  ·exact ⟨h, rfl⟩
theorem fillM_sz {xs : List SlotM} {t : Str} (ht : SmS t) (h : TxS xs) : TxS (fillM xs t).1 ∧ (fillM xs t).1.length = xs.length := by
 unfold fillM
 split
 ·exact ⟨h, rfl⟩
 ·exact putM_sz ht h
theorem insV_mem {vs : List VolM} {v u : VolM} (h : u ∈ insV vs v) : u = v ∨ u ∈ vs := by
 simp only [insV, List.mem_append, List.mem_singleton] at h
 rcases h with (h | h) | h
 ·exact .inr (List.mem_of_mem_take h)
 ·exact .inl h
 ·exact .inr (List.mem_of_mem_drop h)
theorem delV_mem {vs : List VolM} {i : Nat} {u : VolM} (h : u ∈ delV vs i) : u ∈ vs := by
 simp only [delV, List.mem_append] at h
 exact h.elim List.mem_of_mem_take List.mem_of_mem_drop
theorem PoolG.sz {p : PoolM} (h8 : p.slots.length = 8) (hl : p.vols.length ≤ 100) (hb : ∀ v ∈ p.vols, v.blocks.length ≤ 100) (ht : TxS p.slots) : PoolSz p := ⟨⟨by omega, ht⟩, ⟨by omega, fun v hv => by have := hb v hv; omega⟩⟩
theorem poolDo_sz {p : PoolM} (hg : PoolG p) (hs : PoolSz p) {o : OpM} (ho : o.Sz) : PoolSz (poolDo p o).1 := by
 have hl := hg.hl
 have same : PoolSz p := hs
 unfold poolDo
 split
 ·unfold poolMake
  split
  ·exact same
  ·rename_i hb
   simp only [makeBad, Bool.or_eq_true, Bool.not_eq_true', not_or, inR] at hb
   obtain ⟨_, _, hr⟩ := hb
   have hr : (decide (1 ≤ o.n) && decide (o.n ≤ 6)) = true := by simpa using hr
   simp only [Bool.and_eq_true, decide_eq_true_eq] at hr
   refine PoolG.sz hg.h8 (by simp only [makeM, insV_length]; omega) (fun v hv => ?_) hs.s.2
   rcases insV_mem hv with rfl | hv
   ·simp only [List.length_replicate]; omega
   ·have := hg.hb v hv; omega
 ·split
  ·unfold poolWrite
   split
   ·exact same
   ·split
    ·split
     ·rename_i i hx ht hw
      unfold wrM
      split
      ·rename_i v hv
       split
       ·rename_i old ho'
        have hf := fillM_sz (xs := freeM p.slots old) ho.2.2 (freeM_T hs.s.2 old)
        refine PoolG.sz (by rw [hf.2, freeM_length]; exact hg.h8) (by simp only [List.length_set]; omega) (fun u hu => ?_) hf.1
        rcases List.mem_or_eq_of_mem_set hu with hu | rfl
        ·have := hg.hb u hu; omega
        ·have := hg.hb v (List.mem_of_getElem? hv); simp only [List.length_set]; omega
       ·exact same
      ·exact same
     ·exact same
    ·exact same
  ·split
   ·unfold poolClone
    split
    ·exact same
    ·unfold clM
     split
     ·rename_i v hv
      refine PoolG.sz (by rw [incL_length]; exact hg.h8) (by simp only [insV_length]; omega) (fun u hu => ?_) (incL_T hs.s.2 _)
      rcases insV_mem hu with rfl | hu
      ·have := hg.hb v (List.mem_of_getElem? hv); simp only; omega
      ·have := hg.hb u hu; omega
     ·exact same
   ·unfold poolGone
    split
    ·exact same
    ·unfold goM
     split
     ·rename_i i hx v hv
      refine PoolG.sz (by rw [freeL_length]; exact hg.h8) ?_ (fun u hu => ?_) (freeL_T hs.s.2 _)
      ·simp only [delV, List.length_append, List.length_take, List.length_drop]; omega
      ·have := hg.hb u (delV_mem hu); omega
     ·exact same
section
variable {W : CallF} {L : LoopF} {E : EqF} {T : Prop → Bool} (h : IsK G W L E T)
include h
theorem ev_PoolMake (p : PoolM) (hs : PoolSz p) (nm : Str) (sz : Int) : W f_impl_PoolMake [poolA p, .str nm, .int .i64 sz] [] = some (if poolOk p then poolR (poolMake p nm sz) else noPool) := by
 have hc := ev_changed_make h p hs nm sz
 rw [h.call]
 cases hp : poolOk p
 ·rw [hp] at hc
  repeat (conv=>lhs;whnf;arg 2;tactic=>first|exact hc)
  rfl
 ·rw [hp] at hc
  repeat (conv=>lhs;whnf;arg 2;tactic=>first|exact hc)
  rfl
theorem ev_PoolWrite (p : PoolM) (hs : PoolSz p) (nm : Str) (b : Int) (t : Str) (ht : SmS t) : W f_impl_PoolWrite [poolA p, .str nm, .int .i64 b, .str t] [] = some (if poolOk p then poolR (poolWrite p nm b t) else noPool) := by
 have hc := ev_changed_write h p hs nm b t ht
 rw [h.call]
 cases hp : poolOk p
 ·rw [hp] at hc
  repeat (conv=>lhs;whnf;arg 2;tactic=>first|exact hc)
  rfl
 ·rw [hp] at hc
  repeat (conv=>lhs;whnf;arg 2;tactic=>first|exact hc)
  rfl
theorem ev_PoolClone (p : PoolM) (hs : PoolSz p) (fr to : Str) : W f_impl_PoolClone [poolA p, .str fr, .str to] [] = some (if poolOk p then poolR (poolClone p fr to) else noPool) := by
 have hc := ev_changed_clone h p hs fr to
 rw [h.call]
 cases hp : poolOk p
 ·rw [hp] at hc
  repeat (conv=>lhs;whnf;arg 2;tactic=>first|exact hc)
  rfl
 ·rw [hp] at hc
  repeat (conv=>lhs;whnf;arg 2;tactic=>first|exact hc)
  rfl
theorem ev_PoolGone (p : PoolM) (hs : PoolSz p) (nm : Str) : W f_impl_PoolGone [poolA p, .str nm] [] = some (if poolOk p then poolR (poolGone p nm) else noPool) := by
 have hc := ev_changed_gone h p hs nm
 rw [h.call]
 cases hp : poolOk p
 ·rw [hp] at hc
  repeat (conv=>lhs;whnf;arg 2;tactic=>first|exact hc)
  rfl
 ·rw [hp] at hc
  repeat (conv=>lhs;whnf;arg 2;tactic=>first|exact hc)
  rfl
theorem ev_OpDo (p : PoolM) (hs : PoolSz p) (o : OpM) (ho : o.Sz) : W f_impl_OpDo [poolA p, .agg (opC o)] [] = some (opDo p o) := by
 have hok := ev_PoolOk h p hs
 have hoo := ev_OpOk h o ho
 have h1 := ev_PoolMake h p hs o.name o.n
 have h2 := ev_PoolWrite h p hs o.name o.n o.text ho.2.2
 have h3 := ev_PoolClone h p hs o.name o.to
 have h4 := ev_PoolGone h p hs o.name
 have n1 : ∀ {a b : Int}, ¬ a = b → (a == b) = false := fun hab => by simp [hab]
 unfold opDo
 rw [h.call]
 cases hp : poolOk p
 ·rw [hp] at hok
  repeat (conv=>lhs;whnf;arg 2;tactic=>first|exact hok)
  rfl
 ·rw [hp] at hok h1 h2 h3 h4
  simp only [if_true] at h1 h2 h3 h4
  cases hq : opOk o
  ·rw [hq] at hoo
   repeat (conv=>lhs;whnf;arg 2;tactic=>first|exact hok|exact hoo)
   rfl
  ·rw [hq] at hoo
   unfold poolDo
   by_cases k1 : o.kind = 1
   ·have e1 : (o.kind == 1) = true := by simp [k1]
    simp only [if_pos k1]
    repeat (conv=>lhs;whnf;arg 2;tactic=>first|exact g1|exact hok|exact hoo|exact h1)
    rfl
   ·have e1 := n1 k1
    by_cases k2 : o.kind = 2
    ·have e2 : (o.kind == 2) = true := by simp [k2]
     simp only [if_neg k1, if_pos k2]
     repeat (conv=>lhs;whnf;arg 2;tactic=>first|exact g1|exact hok|exact hoo|exact h2)
     rfl
    ·have e2 := n1 k2
     by_cases k3 : o.kind = 3
     ·have e3 : (o.kind == 3) = true := by simp [k3]
      simp only [if_neg k1, if_neg k2, if_pos k3]
      repeat (conv=>lhs;whnf;arg 2;tactic=>first|exact g1|exact hok|exact hoo|exact h3)
      rfl
     ·have e3 := n1 k3
      simp only [if_neg k1, if_neg k2, if_neg k3]
      repeat (conv=>lhs;whnf;arg 2;tactic=>first|exact g1|exact hok|exact hoo|exact h4)
      rfl
end
end Go.Gn

namespace Go.Gn
open Go
set_option maxRecDepth 100000
set_option maxHeartbeats 4000000
def emptySlots : List SlotM := List.replicate 8 ⟨noText, 0⟩
def poolNew : PoolM := ⟨emptySlots, []⟩
def OpsSz (os : List OpM) : Prop := os.length < 2000000 ∧ ∀ o ∈ os, o.Sz
def runOs (p : PoolM) : List Obj := [.box [.hw 1, .hw 2], .row 2 0 2 (p.slots.map slotD), .row 2 p.vols.length 1 (p.vols.map volD), .box [.nils, .nils]]
def areOps (os : List OpM) : Bool := (doAllM poolNew os).isSome && decide ((os.length : Int) ≤ 20)
section
variable {W : CallF} {L : LoopF} {E : EqF} {T : Prop → Bool} (h : IsK G W L E T)
include h
theorem doAll_loop (ops : List OpM) (hs : OpsSz ops) : ∀ (m i : Nat) (p : PoolM), i + m = ops.length → PoolSz p →
  match doAllM p (ops.drop i) with
  | some q => L (norm 0 cf89.live) (exitN 0 cf89.out (evCW W L G cf89 0 c89l0)) ⟨[(2, .ptr 0 0), (4, .ptr 3 0), (16, .sl .br (ops.map opD)), (17, .int .i64 ((ops.map opD).length : Nat)), (18, .int .i64 (i : Nat))], runOs p⟩ = some (.ext 0, ⟨[(2, .ptr 0 0), (4, .ptr 3 0), (5, .top)], runOs q⟩)
  | none => ∃ p', L (norm 0 cf89.live) (exitN 0 cf89.out (evCW W L G cf89 0 c89l0)) ⟨[(2, .ptr 0 0), (4, .ptr 3 0), (16, .sl .br (ops.map opD)), (17, .int .i64 ((ops.map opD).length : Nat)), (18, .int .i64 (i : Nat))], runOs p⟩ = some (.ret, ⟨[(2, .ptr 0 0), (4, .ptr 3 0), (5, .bool false)], runOs p'⟩)
 | 0, i, p, hm, hp => by
  rw [List.drop_eq_nil_of_le (show ops.length ≤ i by omega)]
  simp only [doAllM]
  rw [h.loop]
  repeat (conv=>lhs;whnf;arg 2;tactic=>first|exact g1)
  rfl
 | m + 1, i, p, hm, hp => by
  obtain ⟨o, ho⟩ := get_some (xs := ops) (i := i) (by omega)
  have hl := hs.1
  have hos := hs.2 o (List.mem_of_getElem? ho)
  have hd := ev_OpDo h p hp o hos
  rw [drop_cons ho, doAllM]
  cases hok : poolOk p && opOk o
  ·have hn : opDo p o = noPool := by
    unfold opDo
    cases hp1 : poolOk p
    ·rfl
    ·rw [hp1] at hok
     simp only [Bool.true_and] at hok
     rw [hok]; rfl
   rw [hn] at hd
   simp only [Bool.false_and, Bool.false_eq_true, if_false]
   refine ⟨p, ?_⟩
   rw [h.loop]
   repeat (conv=>lhs;whnf;arg 2;tactic=>first|exact g1|exact map_get ho|exact hd)
   rfl
  ·have hok' := hok
   rw [Bool.and_eq_true] at hok'
   have hn : opDo p o = poolR (poolDo p o) := by unfold opDo; rw [hok'.1, hok'.2]; rfl
   rw [hn] at hd
   have hsz := poolDo_sz (poolOk_G hok'.1) hp hos
   simp only [Bool.true_and]
   generalize poolDo p o = r at hd hsz
   obtain ⟨q, b⟩ := r
   cases b
   ·simp only [Bool.false_eq_true, if_false]
    refine ⟨p, ?_⟩
    rw [h.loop]
    repeat (conv=>lhs;whnf;arg 2;tactic=>first|exact g1|exact map_get ho|exact hd)
    rfl
   ·simp only [if_true]
    have ih := doAll_loop ops hs m (i + 1) q (by omega) hsz
    have e : L (norm 0 cf89.live) (exitN 0 cf89.out (evCW W L G cf89 0 c89l0)) ⟨[(2, .ptr 0 0), (4, .ptr 3 0), (16, .sl .br (ops.map opD)), (17, .int .i64 ((ops.map opD).length : Nat)), (18, .int .i64 (i : Nat))], runOs p⟩ = L (norm 0 cf89.live) (exitN 0 cf89.out (evCW W L G cf89 0 c89l0)) ⟨[(2, .ptr 0 0), (4, .ptr 3 0), (16, .sl .br (ops.map opD)), (17, .int .i64 ((ops.map opD).length : Nat)), (18, .int .i64 ((i + 1 : Nat) : Int))], runOs q⟩ := by
     rw [h.loop]
     repeat (conv=>lhs;whnf;arg 2;tactic=>first|exact g1|exact map_get ho|exact hd)
     conv => lhs; whnf
     rw [wrap_succ (by omega)]
     rfl
    rw [e]
    exact ih
theorem ev_doAll (p : PoolM) (hp : PoolSz p) (ops : List OpM) (hs : OpsSz ops) : W f_impl_doAll [poolA p, .sl .br (ops.map opD)] [] = some (if poolOk p then (match doAllM p ops with | some q => poolR (q, true) | none => noPool) else noPool) := by
 have hok := ev_PoolOk h p hp
 have e := doAll_loop h ops hs ops.length 0 p (by omega) hp
 rw [nc0, List.drop_zero] at e
 rw [h.call]
 cases hpo : poolOk p
 ·rw [hpo] at hok
  repeat (conv=>lhs;whnf;arg 2;tactic=>first|exact hok)
  rfl
 ·rw [hpo] at hok
  have hg := poolOk_G hpo
  have hcl := ev_Pool_clone h p hp.v (by rw [hg.h8]; omega) (by have := hg.hl; omega) (fun v hv => by have := hg.hb v hv; omega)
  simp only [if_true]
  cases hd : doAllM p ops with
  | some q =>
   rw [hd] at e
   repeat (conv=>lhs;whnf;arg 2;tactic=>first|exact hok|exact hcl|exact e)
   rfl
  | none =>
   rw [hd] at e
   obtain ⟨p', e⟩ := e
   repeat (conv=>lhs;whnf;arg 2;tactic=>first|exact hok|exact hcl|exact e)
   rfl
theorem ev_StoreNew : W f_impl_StoreNew [] [] = some (.hw 0, [.row 2 0 0 (emptySlots.map slotD)]) := by
 rw [h.call]
 rfl
theorem ev_PoolNew : W f_impl_PoolNew [] [] = some (.agg [.hw 0, .nils], [.row 2 0 0 (emptySlots.map slotD)]) := by
 rw [h.call]
 repeat (conv=>lhs;whnf;arg 2;tactic=>first|exact ev_StoreNew h)
 rfl
omit h in
theorem poolNew_sz : PoolSz poolNew := ⟨⟨by show 8 < _; omega, fun x hx => by
 simp only [poolNew, emptySlots, List.mem_replicate] at hx
 rw [hx.2]; exact sm_no⟩, ⟨by show 0 < _; omega, fun v hv => by simp [poolNew] at hv⟩⟩
omit h in
theorem slotOk_new (pre : List SlotM) : slotOk pre ⟨noText, 0⟩ = true := by
 have e : (noText : Str).size = 0 := rfl
 simp only [slotOk, seq_refl, textOk, allAd, e, inR]
 rfl
omit h in
theorem poolNew_ok : poolOk poolNew = true := by
 simp only [poolOk, storeOk, poolNew, storeOkL, usesOkL, volsOkL, emptySlots, List.replicate, List.length_cons, List.length_nil, Nat.reduceAdd, List.getElem?_cons_zero, List.getElem?_cons_succ, slotOk_new, sumU]
 rfl
theorem ev_areOps (ops : List OpM) (hs : OpsSz ops) : W f_impl_areOps [.sl .br (ops.map opD)] [] = some (.bool (areOps ops), []) := by
 have e := ev_doAll h poolNew poolNew_sz ops hs
 rw [poolNew_ok] at e
 simp only [if_true] at e
 have hlen : decide ((((ops.map opD).length : Nat) : Int) ≤ 20) = decide ((ops.length : Int) ≤ 20) := by rw [List.length_map]
 unfold areOps
 rw [h.call, ← hlen]
 cases hd : doAllM poolNew ops with
 | some q =>
  rw [hd] at e
  repeat (conv=>lhs;whnf;arg 2;tactic=>first|exact ev_PoolNew h|exact e)
  rfl
 | none =>
  rw [hd] at e
  repeat (conv=>lhs;whnf;arg 2;tactic=>first|exact ev_PoolNew h|exact e)
  rfl
end
end Go.Gn

namespace Go.Gn
open Go
set_option maxRecDepth 100000
set_option maxHeartbeats 4000000
def nodeA (n : NodeM) : AV := .agg [.bool n.up, .int .i64 n.term, .bool n.leads, .bool n.alone, .sl .br (n.ops.map opD)]
def nodeW (n : NodeM) (q : Nat) : AV := .agg [.bool n.up, .int .i64 n.term, .bool n.leads, .bool n.alone, .hw q]
def msgA (m : MsgM) : AV := .agg [.int .i64 m.kind, .int .i64 m.to, .int .i64 m.term, .int .i64 m.n, .int .i64 m.op.kind, .str m.op.name, .str m.op.to, .int .i64 m.op.n, .str m.op.text, .sl .br (m.ops.map opD)]
def noOp : OpM := ⟨0, noText, noText, 0, noText⟩
def nodeOk (n : NodeM) : Bool := inR n.term 0 99 && ((n.leads || !n.alone) && areOps n.ops)
def canTake (ops : List OpM) (o : OpM) : Bool := match doAllM poolNew ops with
 | some q => (poolOk q && opOk o && (poolDo q o).2) && decide ((ops.length : Int) < 20)
 | none => false
def msgOk (m : MsgM) : Bool := inR m.to 1 2 && (inR m.term 0 99 && (inR m.n 0 20 &&
 (if m.kind = 1 then opOk m.op && (decide (m.n ≥ 1) && ((m.ops.length : Int) == 0))
  else if m.kind = 2 ∨ m.kind = 4 then opEq m.op noOp && ((m.ops.length : Int) == 0)
  else if m.kind = 3 then opEq m.op noOp && (((m.ops.length : Int) == m.n) && areOps m.ops)
  else false)))
structure MsgSz (m : MsgM) : Prop where
 op : m.op.Sz
 ops : OpsSz m.ops
theorem doAllM_sz : ∀ (os : List OpM) (p q : PoolM), PoolSz p → (∀ o ∈ os, o.Sz) → doAllM p os = some q → PoolSz q
 | [], p, q, hp, _, h => by cases h; exact hp
 | o :: os, p, q, hp, hs, h => by
  simp only [doAllM] at h
  split at h
  ·rename_i hh
   simp only [Bool.and_eq_true] at hh
   exact doAllM_sz os _ q (poolDo_sz (poolOk_G hh.1.1) hp (hs o (by simp))) (fun x hx => hs x (by simp [hx])) h
  ·cases h
section
variable {W : CallF} {L : LoopF} {E : EqF} {T : Prop → Bool} (h : IsK G W L E T)
include h
theorem ev_NodeOk (n : NodeM) (hs : OpsSz n.ops) : W f_impl_NodeOk [nodeA n] [] = some (.bool (nodeOk n), []) := by
 obtain ⟨up, term, leads, alone, ops⟩ := n
 have ha := ev_areOps h ops hs
 have ht := ev_isTerm h term
 simp only [nodeOk, nodeA]
 rw [h.call]
 cases hc : inR term 0 99
 all_goals rw [hc] at ht
 all_goals cases leads
 all_goals cases alone
 all_goals
  repeat (conv=>lhs;whnf;arg 2;tactic=>first|exact ht|exact ha)
  rfl
theorem ev_Node_clone (n : NodeM) (hl : n.ops.length < 2000000) : W f_impl_Node_clone [nodeA n] [] = some (nodeW n 0, [.row 5 0 5 (n.ops.map opD)]) := by
 rw [h.call]
 repeat (conv=>lhs;whnf;arg 2;tactic=>first|exact ev_cloneOp h n.ops (by omega))
 rfl
theorem ev_Node_pool (n : NodeM) (hs : OpsSz n.ops) (q : PoolM) (hq : doAllM poolNew n.ops = some q) : W f_impl_Node_pool [nodeA n] [] = some (.agg [.hw 0, .hw 1], poolV q) := by
 have e := ev_doAll h poolNew poolNew_sz n.ops hs
 rw [poolNew_ok, hq] at e
 simp only [if_true] at e
 rw [h.call]
 repeat (conv=>lhs;whnf;arg 2;tactic=>first|exact ev_PoolNew h|exact e|exact g2)
 rfl
theorem ev_canTake (n : NodeM) (hs : OpsSz n.ops) (o : OpM) (ho : o.Sz) (hok : (doAllM poolNew n.ops).isSome = true) : W f_impl_Node_canTake [nodeA n, .agg (opC o)] [] = some (.bool (canTake n.ops o), []) := by
 cases hq : doAllM poolNew n.ops with
 | none => rw [hq] at hok; cases hok
 | some q =>
  have hp := ev_Node_pool h n hs q hq
  have hqs := doAllM_sz n.ops poolNew q poolNew_sz hs.2 hq
  have hd := ev_OpDo h q hqs o ho
  have hlen : decide ((((n.ops.map opD).length : Nat) : Int) < 20) = decide ((n.ops.length : Int) < 20) := by rw [List.length_map]
  unfold canTake
  rw [hq, ← hlen]
  dsimp only
  unfold opDo at hd
  rw [h.call]
  cases h1 : poolOk q
  ·rw [h1] at hd
   repeat (conv=>lhs;whnf;arg 2;tactic=>first|exact hp|exact hd|exact g2)
   rfl
  ·cases h2 : opOk o
   ·rw [h1, h2] at hd
    repeat (conv=>lhs;whnf;arg 2;tactic=>first|exact hp|exact hd|exact g2)
    rfl
   ·rw [h1, h2] at hd
    simp only [if_true] at hd
    generalize poolDo q o = r at hd
    obtain ⟨q', b⟩ := r
    cases b
    ·repeat (conv=>lhs;whnf;arg 2;tactic=>first|exact hp|exact hd|exact g2)
     rfl
    ·repeat (conv=>lhs;whnf;arg 2;tactic=>first|exact hp|exact hd|exact g2)
     rfl
theorem ev_isMsg (m : MsgM) (hs : MsgSz m) : W f_impl_isMsg [msgA m] [] = some (.bool (msgOk m), []) := by
 have h1 := ev_isNode h m.to
 have h2 := ev_isTerm h m.term
 have h3 := ev_within h m.n 0 20
 have h4 := ev_OpOk h m.op hs.op
 have h5 := ev_areOps h m.ops hs.ops
 have h6 := E_op h m.op noOp
 have hlen : (((m.ops.map opD).length : Nat) : Int) = m.ops.length := by rw [List.length_map]
 have n1 : ∀ {a b : Int}, ¬ a = b → (a == b) = false := fun hab => by simp [hab]
 unfold msgOk
 rw [← hlen, h.call]
 cases hc1 : inR m.to 1 2
 ·rw [hc1] at h1
  repeat (conv=>lhs;whnf;arg 2;tactic=>first|exact h1)
  rfl
 ·rw [hc1] at h1
  cases hc2 : inR m.term 0 99
  ·rw [hc2] at h2
   repeat (conv=>lhs;whnf;arg 2;tactic=>first|exact h1|exact h2)
   rfl
  ·rw [hc2] at h2
   cases hc3 : inR m.n 0 20
   ·rw [hc3] at h3
    repeat (conv=>lhs;whnf;arg 2;tactic=>first|exact h1|exact h2|exact h3)
    rfl
   ·rw [hc3] at h3
    by_cases k1 : m.kind = 1
    ·have e1 : (m.kind == 1) = true := by simp [k1]
     simp only [if_pos k1]
     cases hc4 : opOk m.op
     ·rw [hc4] at h4
      repeat (conv=>lhs;whnf;arg 2;tactic=>first|exact g1|exact h1|exact h2|exact h3|exact h4)
      rfl
     ·rw [hc4] at h4
      cases hc5 : decide (m.n ≥ 1)
      ·repeat (conv=>lhs;whnf;arg 2;tactic=>first|exact g1|exact h1|exact h2|exact h3|exact h4|exact hc5)
       rfl
      ·repeat (conv=>lhs;whnf;arg 2;tactic=>first|exact g1|exact h1|exact h2|exact h3|exact h4|exact hc5)
       rfl
    ·have e1 := n1 k1
     by_cases k2 : m.kind = 2
     ·have e2 : (m.kind == 2) = true := by simp [k2]
      simp only [if_neg k1, if_pos (show m.kind = 2 ∨ m.kind = 4 from .inl k2)]
      cases hc6 : opEq m.op noOp
      ·rw [hc6] at h6
       repeat (conv=>lhs;whnf;arg 2;tactic=>first|exact g1|exact h1|exact h2|exact h3|exact h6)
       rfl
      ·rw [hc6] at h6
       repeat (conv=>lhs;whnf;arg 2;tactic=>first|exact g1|exact h1|exact h2|exact h3|exact h6)
       rfl
     ·have e2 := n1 k2
      by_cases k4 : m.kind = 4
      ·have e4 : (m.kind == 4) = true := by simp [k4]
       simp only [if_neg k1, if_pos (show m.kind = 2 ∨ m.kind = 4 from .inr k4)]
       cases hc6 : opEq m.op noOp
       ·rw [hc6] at h6
        repeat (conv=>lhs;whnf;arg 2;tactic=>first|exact g1|exact h1|exact h2|exact h3|exact h6)
        rfl
       ·rw [hc6] at h6
        repeat (conv=>lhs;whnf;arg 2;tactic=>first|exact g1|exact h1|exact h2|exact h3|exact h6)
        rfl
      ·have e4 := n1 k4
       simp only [if_neg k1, if_neg (show ¬ (m.kind = 2 ∨ m.kind = 4) from fun hh => hh.elim k2 k4)]
       by_cases k3 : m.kind = 3
       ·have e3 : (m.kind == 3) = true := by simp [k3]
        simp only [if_pos k3]
        cases hc6 : opEq m.op noOp
        ·rw [hc6] at h6
         repeat (conv=>lhs;whnf;arg 2;tactic=>first|exact g1|exact h1|exact h2|exact h3|exact h6)
         rfl
        ·rw [hc6] at h6
         cases hc7 : ((((m.ops.map opD).length : Nat) : Int) == m.n)
         ·repeat (conv=>lhs;whnf;arg 2;tactic=>first|exact g1|exact h1|exact h2|exact h3|exact h6|exact hc7)
          rfl
         ·repeat (conv=>lhs;whnf;arg 2;tactic=>first|exact g1|exact h1|exact h2|exact h3|exact h6|exact hc7|exact h5)
          rfl
       ·have e3 := n1 k3
        simp only [if_neg k3]
        repeat (conv=>lhs;whnf;arg 2;tactic=>first|exact g1|exact h1|exact h2|exact h3)
        rfl
end
end Go.Gn

namespace Go.Gn
open Go
set_option maxRecDepth 100000
set_option maxHeartbeats 4000000
def nodeBox (n : NodeM) (q : Nat) : Obj := .box [.bool n.up, .int .i64 n.term, .bool n.leads, .bool n.alone, .hw q]
def opsRow (os : List OpM) : Obj := .row 5 0 5 (os.map opD)
def ownN (n : NodeM) : List Obj := [nodeBox n 1, opsRow n.ops]
def msgZ (m : MsgM) : AV := .agg [.int .i64 m.kind, .int .i64 m.to, .int .i64 m.term, .int .i64 m.n, .int .i64 m.op.kind, .str m.op.name, .str m.op.to, .int .i64 m.op.n, .str m.op.text, .nils]
def noMsg : MsgM := ⟨0, 0, 0, 0, noOp, []⟩
def hearCopy (n : NodeM) (m : MsgM) : NodeM × Bool := if (m.term != n.term) || n.leads then (n, false) else
 if decide ((n.ops.length : Int) ≥ m.n) then (n, match n.ops[(m.n - 1).toNat]? with | some o => opEq o m.op | none => false)
 else if ((n.ops.length : Int) != m.n - 1) || !canTake n.ops m.op then (n, false) else ({ n with ops := n.ops ++ [m.op] }, true)
def hearJoin (n : NodeM) (m : MsgM) : NodeM × Bool := if decide (m.term < n.term) || ((m.term == n.term) && n.leads) then (n, false) else
 if decide (m.term > n.term) || decide (m.n > (n.ops.length : Int)) then (⟨n.up, m.term, false, false, m.ops⟩, true) else (n, true)
theorem app_row (os : List OpM) (o : OpM) : (os.map opD) ++ chunks 5 1 [D.int .i64 o.kind, .str o.name, .str o.to, .int .i64 o.n, .str o.text] = (os ++ [o]).map opD := by
 rw [List.map_append]; rfl
section
variable {W : CallF} {L : LoopF} {E : EqF} {T : Prop → Bool} (h : IsK G W L E T)
include h
theorem ev_hearCopy (n : NodeM) (hs : OpsSz n.ops) (hok : (doAllM poolNew n.ops).isSome = true) (hl : n.ops.length ≤ 20) (m : MsgM) (hm : m.op.Sz) (h1 : 1 ≤ m.n ∧ m.n ≤ 20) : ∃ os', W f_impl_Node_hearCopy [.ptr 0 0, msgA m] (ownN n) = some (.bool (hearCopy n m).2, os') ∧
  (os' = ownN (hearCopy n m).1 ∨ os' = [nodeBox (hearCopy n m).1 2, .dead, opsRow (hearCopy n m).1.ops]) := by
 have hc := ev_canTake h n hs m.op hm hok
 have hlen : ((n.ops.map opD).length : Nat) = n.ops.length := List.length_map ..
 unfold hearCopy
 cases h0 : m.term != n.term
 ·cases h2 : n.leads
  ·cases h3 : decide ((n.ops.length : Int) ≥ m.n)
   ·have h3' : decide ((((n.ops.map opD).length : Nat) : Int) ≥ m.n) = false := by rw [hlen]; exact h3
    cases h4 : ((n.ops.length : Int) != m.n - 1)
    ·have h4' : ((((n.ops.map opD).length : Nat) : Int) != IntKind.i64.wrap (m.n - 1)) = false := by rw [hlen, wrap_id (by omega) (by omega)]; exact h4
     cases h5 : canTake n.ops m.op
     ·rw [h5] at hc
      refine ⟨_, ?_, .inl rfl⟩
      rw [h.call]
      repeat (conv=>lhs;whnf;arg 2;tactic=>first|exact h0|exact h2|exact h3'|exact h4'|exact hc)
      rfl
     ·rw [h5] at hc
      refine ⟨_, ?_, .inr rfl⟩
      rw [h.call]
      have hd : decide ((((n.ops.map opD).length : Nat) + 1) * 64 ≤ 140737488355328) = true := decide_eq_true (by rw [hlen]; omega)
      repeat (conv=>lhs;whnf;arg 2;tactic=>first|exact h0|exact h2|exact h3'|exact h4'|exact hc|exact hd|exact g2)
      conv => lhs; whnf
      simp only [app_row, h2]
      rfl
    ·have h4' : ((((n.ops.map opD).length : Nat) : Int) != IntKind.i64.wrap (m.n - 1)) = true := by rw [hlen, wrap_id (by omega) (by omega)]; exact h4
     refine ⟨_, ?_, .inl rfl⟩
     rw [h.call]
     repeat (conv=>lhs;whnf;arg 2;tactic=>first|exact h0|exact h2|exact h3'|exact h4')
     rfl
   ·have h3' : decide ((((n.ops.map opD).length : Nat) : Int) ≥ m.n) = true := by rw [hlen]; exact h3
    simp only [decide_eq_true_eq] at h3
    obtain ⟨k, hk⟩ : ∃ k : Nat, m.n = (k : Int) + 1 := ⟨(m.n - 1).toNat, by omega⟩
    have hk' : (m.n - 1).toNat = k := by omega
    have hw : IntKind.i64.wrap (m.n - 1) = (k : Int) := by rw [wrap_id (by omega) (by omega)]; omega
    obtain ⟨o, ho⟩ := get_some (xs := n.ops) (i := k) (by omega)
    simp only [hk', ho]
    refine ⟨_, ?_, .inl rfl⟩
    rw [h.call]
    repeat (conv=>lhs;whnf;arg 2;tactic=>first|exact g1|exact h0|exact h2|exact hw|exact map_get ho|exact E_op h o m.op)
    rfl
  ·refine ⟨_, ?_, .inl rfl⟩
   rw [h.call]
   repeat (conv=>lhs;whnf;arg 2;tactic=>first|exact h0|exact h2)
   rfl
 ·refine ⟨_, ?_, .inl rfl⟩
  rw [h.call]
  repeat (conv=>lhs;whnf;arg 2;tactic=>first|exact h0)
  rfl
theorem ev_hearJoin (n : NodeM) (m : MsgM) (hl : m.ops.length ≤ 1000) (hn : n.ops.length ≤ 1000) : ∃ os', W f_impl_Node_hearJoin [.ptr 0 0, msgA m] (ownN n) = some (.bool (hearJoin n m).2, os') ∧
  (os' = ownN (hearJoin n m).1 ∨ os' = [nodeBox (hearJoin n m).1 2, opsRow n.ops, opsRow (hearJoin n m).1.ops]) := by
 have hc := ev_cloneOp h m.ops (by omega)
 have hlen : ((n.ops.map opD).length : Nat) = n.ops.length := List.length_map ..
 unfold hearJoin
 have fin : ∀ (b : Bool), (decide (m.term < n.term) = false) → (b = decide (m.term > n.term) || decide (m.n > (n.ops.length : Int))) → True := fun _ _ _ => trivial
 cases h0 : decide (m.term < n.term)
 ·cases h1 : (m.term == n.term)
  ·cases h2 : decide (m.term > n.term)
   ·cases h3 : decide (m.n > (n.ops.length : Int))
    ·have h3' : decide (m.n > (((n.ops.map opD).length : Nat) : Int)) = false := by rw [hlen]; exact h3
     refine ⟨_, ?_, .inl rfl⟩
     rw [h.call]
     repeat (conv=>lhs;whnf;arg 2;tactic=>first|exact h0|exact h1|exact h2|exact h3')
     rfl
    ·have h3' : decide (m.n > (((n.ops.map opD).length : Nat) : Int)) = true := by rw [hlen]; exact h3
     refine ⟨_, ?_, .inr rfl⟩
     rw [h.call]
     repeat (conv=>lhs;whnf;arg 2;tactic=>first|exact h0|exact h1|exact h2|exact h3'|exact hc|exact g2)
     rfl
   ·refine ⟨_, ?_, .inr rfl⟩
    rw [h.call]
    repeat (conv=>lhs;whnf;arg 2;tactic=>first|exact h0|exact h1|exact h2|exact hc|exact g2)
    rfl
  ·cases h4 : n.leads
   ·cases h2 : decide (m.term > n.term)
    ·cases h3 : decide (m.n > (n.ops.length : Int))
     ·have h3' : decide (m.n > (((n.ops.map opD).length : Nat) : Int)) = false := by rw [hlen]; exact h3
      refine ⟨_, ?_, .inl rfl⟩
      rw [h.call]
      repeat (conv=>lhs;whnf;arg 2;tactic=>first|exact h0|exact h1|exact h4|exact h2|exact h3')
      rfl
     ·have h3' : decide (m.n > (((n.ops.map opD).length : Nat) : Int)) = true := by rw [hlen]; exact h3
      refine ⟨_, ?_, .inr rfl⟩
      rw [h.call]
      repeat (conv=>lhs;whnf;arg 2;tactic=>first|exact h0|exact h1|exact h4|exact h2|exact h3'|exact hc|exact g2)
      rfl
    ·refine ⟨_, ?_, .inr rfl⟩
     rw [h.call]
     repeat (conv=>lhs;whnf;arg 2;tactic=>first|exact h0|exact h1|exact h4|exact h2|exact hc|exact g2)
     rfl
   ·refine ⟨_, ?_, .inl rfl⟩
    rw [h.call]
    repeat (conv=>lhs;whnf;arg 2;tactic=>first|exact h0|exact h1|exact h4)
    rfl
 ·refine ⟨_, ?_, .inl rfl⟩
  rw [h.call]
  repeat (conv=>lhs;whnf;arg 2;tactic=>first|exact h0)
  rfl
end
end Go.Gn

namespace Go.Gn
open Go
set_option maxRecDepth 100000
set_option maxHeartbeats 8000000
def hearK (n : NodeM) (id : Int) (m : MsgM) : NodeM × MsgM × Bool := if m.kind = 1 then (if (hearCopy n m).2 then ((hearCopy n m).1, ⟨2, 3 - id, (hearCopy n m).1.term, m.n, noOp, []⟩, true) else ((hearCopy n m).1, noMsg, false))
 else if m.kind = 3 then (if (hearJoin n m).2 then ((hearJoin n m).1, ⟨4, 3 - id, (hearJoin n m).1.term, (hearJoin n m).1.ops.length, noOp, []⟩, true) else ((hearJoin n m).1, noMsg, false))
 else (n, noMsg, false)
def nodeHear (n : NodeM) (id : Int) (m : MsgM) : Option (NodeM × MsgM × Bool) := if nodeOk n && (msgOk m && (inR id 1 2 && (!(m.to != id) && n.up))) then some (hearK n id m) else none
def hearV : Option (NodeM × MsgM × Bool) → AV × List Obj
 | some r => (.tup [nodeW r.1 0, msgZ r.2.1, .bool r.2.2], [opsRow r.1.ops])
 | none => (.tup [.agg [.bool false, .int .i64 0, .bool false, .bool false, .nils], msgZ noMsg, .bool false], [])
section
variable {W : CallF} {L : LoopF} {E : EqF} {T : Prop → Bool} (h : IsK G W L E T)
include h
theorem ev_NodeHear (n : NodeM) (hs : OpsSz n.ops) (id : Int) (m : MsgM) (hm : MsgSz m) : W f_impl_NodeHear [nodeA n, .int .i64 id, msgA m] [] = some (hearV (nodeHear n id m)) := by
 have h1 := ev_NodeOk h n hs
 have h2 := ev_isMsg h m hm
 have h3 := ev_isNode h id
 have n1 : ∀ {a b : Int}, ¬ a = b → (a == b) = false := fun hab => by simp [hab]
 unfold nodeHear
 cases c1 : nodeOk n
 ·rw [c1] at h1
  rw [h.call]
  repeat (conv=>lhs;whnf;arg 2;tactic=>first|exact h1)
  rfl
 ·rw [c1] at h1
  cases c2 : msgOk m
  ·rw [c2] at h2
   rw [h.call]
   repeat (conv=>lhs;whnf;arg 2;tactic=>first|exact h1|exact h2)
   rfl
  ·rw [c2] at h2
   cases c3 : inR id 1 2
   ·rw [c3] at h3
    rw [h.call]
    repeat (conv=>lhs;whnf;arg 2;tactic=>first|exact h1|exact h2|exact h3)
    rfl
   ·rw [c3] at h3
    cases c4 : m.to != id
    ·cases c5 : n.up
     ·rw [h.call]
      repeat (conv=>lhs;whnf;arg 2;tactic=>first|exact h1|exact h2|exact h3|exact c4|exact congrArg not c5)
      rfl
     ·simp only [nodeOk, areOps, Bool.and_eq_true, decide_eq_true_eq] at c1
      simp only [inR, Bool.and_eq_true, decide_eq_true_eq] at c3
      have hso := c1.2.2.1
      have hl : n.ops.length ≤ 20 := by have := c1.2.2.2; omega
      have hcl := ev_Node_clone h n (by omega)
      have hw : IntKind.i64.wrap (3 - id) = 3 - id := wrap_id (by omega) (by omega)
      unfold hearK
      by_cases k1 : m.kind = 1
      ·have e1 : (m.kind == 1) = true := by simp [k1]
       have hmn : 1 ≤ m.n ∧ m.n ≤ 20 := by
        simp only [msgOk, if_pos k1, inR, Bool.and_eq_true, decide_eq_true_eq] at c2
        omega
       obtain ⟨os', hh, ho⟩ := ev_hearCopy h n hs hso hl m hm.op hmn
       simp only [if_pos k1]
       generalize hearCopy n m = r at hh ho
       obtain ⟨n', b⟩ := r
       simp only at hh ho
       rcases ho with rfl | rfl
       all_goals cases b
       all_goals rw [h.call]
       ·repeat (conv=>lhs;whnf;arg 2;tactic=>first|exact g1|exact h1|exact h2|exact h3|exact c4|exact hcl|exact hh|exact congrArg not c5|exact g2)
        rfl
       ·repeat (conv=>lhs;whnf;arg 2;tactic=>first|exact g1|exact h1|exact h2|exact h3|exact c4|exact hcl|exact hh|exact congrArg not c5|exact g2)
        conv => lhs; whnf
        rw [hw]
        rfl
       ·repeat (conv=>lhs;whnf;arg 2;tactic=>first|exact g1|exact h1|exact h2|exact h3|exact c4|exact hcl|exact hh|exact congrArg not c5|exact g2)
        rfl
       ·repeat (conv=>lhs;whnf;arg 2;tactic=>first|exact g1|exact h1|exact h2|exact h3|exact c4|exact hcl|exact hh|exact congrArg not c5|exact g2)
        conv => lhs; whnf
        rw [hw]
        rfl
      ·have e1 := n1 k1
       by_cases k3 : m.kind = 3
       ·have e3 : (m.kind == 3) = true := by simp [k3]
        have hml : m.ops.length ≤ 1000 := by
         simp only [msgOk, if_neg k1, if_neg (show ¬ (m.kind = 2 ∨ m.kind = 4) by omega), if_pos k3, inR, areOps, Bool.and_eq_true, decide_eq_true_eq] at c2
         omega
        obtain ⟨os', hh, ho⟩ := ev_hearJoin h n m hml (by omega)
        simp only [if_neg k1, if_pos k3]
        generalize hearJoin n m = r at hh ho
        obtain ⟨n', b⟩ := r
        simp only at hh ho
        have hlen : (((n'.ops.map opD).length : Nat) : Int) = n'.ops.length := by rw [List.length_map]
        rcases ho with rfl | rfl
        all_goals cases b
        all_goals rw [h.call]
        ·repeat (conv=>lhs;whnf;arg 2;tactic=>first|exact g1|exact h1|exact h2|exact h3|exact c4|exact hcl|exact hh|exact congrArg not c5|exact g2)
         rfl
        ·repeat (conv=>lhs;whnf;arg 2;tactic=>first|exact g1|exact h1|exact h2|exact h3|exact c4|exact hcl|exact hh|exact congrArg not c5|exact g2)
         conv => lhs; whnf
         rw [hw, hlen]
         rfl
        ·repeat (conv=>lhs;whnf;arg 2;tactic=>first|exact g1|exact h1|exact h2|exact h3|exact c4|exact hcl|exact hh|exact congrArg not c5|exact g2)
         rfl
        ·repeat (conv=>lhs;whnf;arg 2;tactic=>first|exact g1|exact h1|exact h2|exact h3|exact c4|exact hcl|exact hh|exact congrArg not c5|exact g2)
         conv => lhs; whnf
         rw [hw, hlen]
         rfl
       ·have e3 := n1 k3
        simp only [if_neg k1, if_neg k3]
        rw [h.call]
        repeat (conv=>lhs;whnf;arg 2;tactic=>first|exact g1|exact h1|exact h2|exact h3|exact c4|exact hcl|exact congrArg not c5)
        rfl
    ·rw [h.call]
     repeat (conv=>lhs;whnf;arg 2;tactic=>first|exact h1|exact h2|exact h3|exact c4)
     rfl
end
end Go.Gn

namespace Go.Gn
open Go
set_option maxRecDepth 100000
set_option maxHeartbeats 4000000
def sName (s : Str) : Bool := match (s.size : Int) == 1 with
 | true => inR (byteAt s 0) 65 68
 | false => false
def sOpOk (o : OpM) : Bool := sName o.name && (if o.kind = 1 then seq o.to noText && (inR o.n 1 6 && seq o.text noText)
 else if o.kind = 2 then seq o.to noText && (inR o.n 0 5 && textOk o.text)
 else if o.kind = 3 then sName o.to && ((o.n == 0) && seq o.text noText)
 else if o.kind = 4 then seq o.to noText && ((o.n == 0) && seq o.text noText)
 else false)
def findS (xs : List SlotM) (t : Str) : Nat → Int → Int → Int × Bool
 | 0, _, free => (free, false)
 | m + 1, at_, free => match xs[(at_ - 1).toNat]? with
  | some x => if seq x.text t then (at_, true) else findS xs t m (textNext at_) (if (x.uses == 0) && (free == 0) then at_ else free)
  | none => (0, false)
def putS (xs : List SlotM) (t : Str) : List SlotM × Int × Bool := match findS xs t 8 (textPlace t) 0 with
 | (p, _) => match xs[(p - 1).toNat]? with
  | some x => if (p == 0) || decide (x.uses ≥ 99) then (xs, 0, false) else (xs.set (p - 1).toNat ⟨t, x.uses + 1⟩, p, true)
  | none => (xs, 0, false)
section
variable {W : CallF} {L : LoopF} {E : EqF} {T : Prop → Bool} (h : IsK G W L E T)
include h
theorem ev_l3Name (s : Str) : W f_spec_l3Name [.str s] [] = some (.bool (sName s), []) := by
 unfold sName
 rw [h.call]
 cases hz : ((s.size : Int) == 1)
 ·repeat (conv=>lhs;whnf;arg 2;tactic=>first|exact hz)
  rfl
 ·have hz' : (s.size : Int) = 1 := by simpa using hz
  have hd : decide (0 < s.size) = true := decide_eq_true (by omega)
  have hw : W f_spec_l6In [.int .i64 (IntKind.i64.wrap (byteAt s 0)), .int .i64 65, .int .i64 68] [] = some (.bool (inR (byteAt s 0) 65 68), []) := by rw [wrap_byte]; exact ev_l6In h _ _ _
  repeat (conv=>lhs;whnf;arg 2;tactic=>first|exact g1|exact hw)
  rfl
theorem ev_sOpOk (o : OpM) (hs : o.Sz) : W f_spec_OpOk [.agg (opC o)] [] = some (.bool (sOpOk o), []) := by
 have n1 : ∀ {a b : Int}, ¬ a = b → (a == b) = false := fun hab => by simp [hab]
 have hn := ev_l3Name h o.name
 have hn2 := ev_l3Name h o.to
 unfold sOpOk
 rw [h.call]
 cases hc : sName o.name
 ·rw [hc] at hn
  repeat (conv=>lhs;whnf;arg 2;tactic=>first|exact hn)
  rfl
 ·rw [hc] at hn
  by_cases k1 : o.kind = 1
  ·have e1 : (o.kind == 1) = true := by simp [k1]
   simp only [if_pos k1]
   cases hq : seq o.to noText
   ·repeat (conv=>lhs;whnf;arg 2;tactic=>first|exact g1|exact hn|exact hq)
    rfl
   ·cases hr : inR o.n 1 6
    ·repeat (conv=>lhs;whnf;arg 2;tactic=>first|exact g1|exact hn|exact hq|exact ev_l6In h _ _ _|exact hr)
     rfl
    ·repeat (conv=>lhs;whnf;arg 2;tactic=>first|exact g1|exact hn|exact hq|exact ev_l6In h _ _ _|exact hr)
     rfl
  ·have e1 := n1 k1
   by_cases k2 : o.kind = 2
   ·have e2 : (o.kind == 2) = true := by simp [k2]
    simp only [if_neg k1, if_pos k2]
    cases hq : seq o.to noText
    ·repeat (conv=>lhs;whnf;arg 2;tactic=>first|exact g1|exact hn|exact hq)
     rfl
    ·cases hr : inR o.n 0 5
     ·repeat (conv=>lhs;whnf;arg 2;tactic=>first|exact g1|exact hn|exact hq|exact ev_l6In h _ _ _|exact hr)
      rfl
     ·repeat (conv=>lhs;whnf;arg 2;tactic=>first|exact g1|exact hn|exact hq|exact ev_l6In h _ _ _|exact hr|exact ev_sTextOk h _ hs.2.2)
      rfl
   ·have e2 := n1 k2
    by_cases k3 : o.kind = 3
    ·have e3 : (o.kind == 3) = true := by simp [k3]
     simp only [if_neg k1, if_neg k2, if_pos k3]
     cases hq : sName o.to
     ·rw [hq] at hn2
      repeat (conv=>lhs;whnf;arg 2;tactic=>first|exact g1|exact hn|exact hn2)
      rfl
     ·rw [hq] at hn2
      cases hz : (o.n == 0)
      ·repeat (conv=>lhs;whnf;arg 2;tactic=>first|exact g1|exact hn|exact hn2|exact hz)
       rfl
      ·repeat (conv=>lhs;whnf;arg 2;tactic=>first|exact g1|exact hn|exact hn2|exact hz)
       rfl
    ·have e3 := n1 k3
     by_cases k4 : o.kind = 4
     ·have e4 : (o.kind == 4) = true := by simp [k4]
      simp only [if_neg k1, if_neg k2, if_neg k3, if_pos k4]
      cases hq : seq o.to noText
      ·repeat (conv=>lhs;whnf;arg 2;tactic=>first|exact g1|exact hn|exact hq)
       rfl
      ·cases hz : (o.n == 0)
       ·repeat (conv=>lhs;whnf;arg 2;tactic=>first|exact g1|exact hn|exact hq|exact hz)
        rfl
       ·repeat (conv=>lhs;whnf;arg 2;tactic=>first|exact g1|exact hn|exact hq|exact hz)
        rfl
     ·have e4 := n1 k4
      simp only [if_neg k1, if_neg k2, if_neg k3, if_neg k4]
      repeat (conv=>lhs;whnf;arg 2;tactic=>first|exact g1|exact hn)
      rfl
theorem at_loop (p : PoolM) (hl : p.vols.length < 4611686018427387904) (n : Str) : ∀ m i, i + m = p.vols.length → L (norm 0 cf225.live) (exitN 0 cf225.out (evCW W L G cf225 0 c225l0)) ⟨[(1, .str n), (2, .ptr 0 0), (5, .int .i64 (i : Nat))], [boxP p]⟩ =
  some (match fnd (fun v : VolM => seq v.name n) (p.vols.drop i) i with | none => (.ext 0, ⟨[(4, .top)], []⟩) | some j => (.ret, ⟨[(4, .int .i64 (j : Nat))], []⟩))
 | 0, i, hm => by
  rw [h.loop, List.drop_eq_nil_of_le (show p.vols.length ≤ i by omega)]
  repeat (conv=>lhs;whnf;arg 2;tactic=>first|exact g1)
  rfl
 | m + 1, i, hm => by
  obtain ⟨v, hv⟩ := get_some (xs := p.vols) (i := i) (by omega)
  rw [h.loop, drop_cons hv]
  simp only [fnd]
  cases hq : seq v.name n
  ·repeat (conv=>lhs;whnf;arg 2;tactic=>first|exact g1|exact map_get hv|exact hq)
   conv => lhs; whnf
   rw [wrap_succ (by omega)]
   exact at_loop p hl n m (i + 1) (by omega)
  ·repeat (conv=>lhs;whnf;arg 2;tactic=>first|exact g1|exact map_get hv|exact hq)
   rfl
theorem ev_l11At (p : PoolM) (hl : p.vols.length < 4611686018427387904) (n : Str) : W f_spec_l11At [poolA p, .str n] [] = some (.int .i64 (fndI (volIx p.vols n)), []) := by
 have e := at_loop h p hl n p.vols.length 0 (by omega)
 rw [nc0, List.drop_zero] at e
 unfold volIx
 rw [h.call]
 cases hf : fnd (fun v : VolM => seq v.name n) p.vols 0 with
 | none =>
  rw [hf] at e
  repeat (conv=>lhs;whnf;arg 2;tactic=>first|exact e)
  rfl
 | some j =>
  rw [hf] at e
  repeat (conv=>lhs;whnf;arg 2;tactic=>first|exact e)
  rfl
theorem find_loop (xs : List SlotM) (h8 : xs.length = 8) (t : Str) : ∀ (m i : Nat) (p fr : Int), i + m = 8 → inR p 1 8 = true → ∃ b5 : AV, L (norm 0 cf231.live) (exitN 0 cf231.out (evCW W L G cf231 0 c231l0)) ⟨[(0, .sl .br (xs.map slotD)), (1, .str t), (6, .int .i64 p), (7, .int .i64 fr), (8, .int .i64 (i : Nat))], []⟩ =
  some (if (findS xs t m p fr).2 then (.ret, ⟨[(4, .int .i64 (findS xs t m p fr).1), (5, .bool true), (7, b5)], []⟩) else (.ext 0, ⟨[(4, .top), (5, .top), (7, .int .i64 (findS xs t m p fr).1)], []⟩))
 | 0, i, p, fr, hi, hp => by
  refine ⟨.un, ?_⟩
  rw [h.loop]
  repeat (conv=>lhs;whnf;arg 2;tactic=>first|exact g1)
  rfl
 | m + 1, i, p, fr, hi, hp => by
  have hp' := hp
  simp only [inR, Bool.and_eq_true, decide_eq_true_eq] at hp'
  obtain ⟨q, rfl⟩ : ∃ q : Nat, p = (q : Int) + 1 := ⟨(p - 1).toNat, by omega⟩
  have hq : ((q : Int) + 1 - 1).toNat = q := by omega
  obtain ⟨x, hx⟩ := get_some (xs := xs) (i := q) (by omega)
  have hnx : inR (textNext ((q : Int) + 1)) 1 8 = true := by have := textNext_range hp'.1; simp [inR]; omega
  have hN := ev_l1Next h _ hp
  simp only [findS, hq, hx]
  cases hs : seq x.text t
  ·cases hu : (x.uses == 0)
   ·obtain ⟨b5, ih⟩ := find_loop xs h8 t m (i + 1) (textNext ((q : Int) + 1)) fr (by omega) hnx
    refine ⟨b5, ?_⟩
    rw [h.loop]
    repeat (conv=>lhs;whnf;arg 2;tactic=>first|exact g1|exact map_get hx|exact hs|exact hu|exact hN|exact g2)
    conv => lhs; whnf
    rw [wrap_succ (by omega)]
    exact ih
   ·cases hf : (fr == 0)
    ·obtain ⟨b5, ih⟩ := find_loop xs h8 t m (i + 1) (textNext ((q : Int) + 1)) fr (by omega) hnx
     refine ⟨b5, ?_⟩
     rw [h.loop]
     repeat (conv=>lhs;whnf;arg 2;tactic=>first|exact g1|exact map_get hx|exact hs|exact hu|exact hf|exact hN|exact g2)
     conv => lhs; whnf
     rw [wrap_succ (by omega)]
     exact ih
    ·obtain ⟨b5, ih⟩ := find_loop xs h8 t m (i + 1) (textNext ((q : Int) + 1)) ((q : Int) + 1) (by omega) hnx
     refine ⟨b5, ?_⟩
     rw [h.loop]
     repeat (conv=>lhs;whnf;arg 2;tactic=>first|exact g1|exact map_get hx|exact hs|exact hu|exact hf|exact hN|exact g2)
     conv => lhs; whnf
     rw [wrap_succ (by omega)]
     exact ih
  ·refine ⟨.int .i64 fr, ?_⟩
   rw [h.loop]
   repeat (conv=>lhs;whnf;arg 2;tactic=>first|exact g1|exact map_get hx|exact hs|exact g2)
   rfl
theorem ev_l2Find (xs : List SlotM) (h8 : xs.length = 8) (t : Str) (ht : textOk t = true) : W f_spec_l2Find [.sl .br (xs.map slotD), .str t] [] = some (.tup [.int .i64 (findS xs t 8 (textPlace t) 0).1, .bool (findS xs t 8 (textPlace t) 0).2], []) := by
 obtain ⟨b5, e⟩ := find_loop h xs h8 t 8 0 (textPlace t) 0 (by omega) (by have := textPlace_range ht; simp [inR]; omega)
 have hp := ev_l1Place h t ht
 rw [nc0] at e
 generalize findS xs t 8 (textPlace t) 0 = r at e
 obtain ⟨a, b⟩ := r
 rw [h.call]
 cases b
 ·repeat (conv=>lhs;whnf;arg 2;tactic=>first|exact hp|exact e)
  rfl
 ·repeat (conv=>lhs;whnf;arg 2;tactic=>first|exact hp|exact e)
  rfl
theorem ev_l2Drop (xs : List SlotM) (j : Nat) (x : SlotM) (hx : xs[j]? = some x) (hj : j < 1000) (hu : -1000000 ≤ x.uses ∧ x.uses ≤ 1000000) : W f_spec_l2Drop [.hw 0, .int .i64 ((j : Int) + 1)] [.row 2 0 2 (xs.map slotD)] = some (.hw 0, [.row 2 0 2 ((xs.set j x.dec).map slotD)]) := by
 have hl := lt_of_get hx
 have es : (xs.map slotD).set j (splice (slotD x) (0 + 1) [D.int IntKind.i64 (IntKind.i64.wrap (x.uses - 1))]) = (xs.set j ⟨x.text, x.uses - 1⟩).map slotD := by
  rw [wrap_id (n := x.uses - 1) (by omega) (by omega), ← set_map]; rfl
 have hx1 : (xs.set j ⟨x.text, x.uses - 1⟩)[j]? = some ⟨x.text, x.uses - 1⟩ := by simp [hl]
 rw [h.call]
 repeat (conv=>lhs;whnf;arg 2;tactic=>first|exact g1|exact map_get hx|exact g2)
 conv => lhs; whnf
 rw [es]
 unfold SlotM.dec
 by_cases h0 : x.uses - 1 = 0
 ·rw [if_pos h0]
  have e0 : (x.uses - 1 == 0) = true := by simp [h0]
  repeat (conv=>lhs;whnf;arg 2;tactic=>first|exact g1|exact map_get hx1|exact g2)
  conv => lhs; whnf
  have es2 : ((xs.set j ⟨x.text, x.uses - 1⟩).map slotD).set j (splice (slotD ⟨x.text, x.uses - 1⟩) 0 [D.str ⟨#[]⟩]) = (xs.set j ⟨⟨#[]⟩, 0⟩).map slotD := by
   rw [show splice (slotD ⟨x.text, x.uses - 1⟩) 0 [D.str ⟨#[]⟩] = slotD ⟨⟨#[]⟩, 0⟩ by rw [h0]; rfl, set_map, List.set_set]
  rw [es2]
 ·rw [if_neg h0]
  have e0 : (x.uses - 1 == 0) = false := by simp [h0]
  repeat (conv=>lhs;whnf;arg 2;tactic=>first|exact g1|exact map_get hx1)
  rfl
end
end Go.Gn

namespace Go.Gn
open Go
set_option maxRecDepth 100000
set_option maxHeartbeats 4000000
theorem take_snoc {α : Type} {xs : List α} {i : Nat} {x : α} (h : xs[i]? = some x) : xs.take (i + 1) = xs.take i ++ [x] := by
 rw [List.take_add_one, h]; rfl
section
variable {W : CallF} {L : LoopF} {E : EqF} {T : Prop → Bool} (h : IsK G W L E T)
include h
theorem ev_l2Copy (xs : List SlotM) (hl : xs.length < 1000000) : W f_spec_l2Copy [.sl .br (xs.map slotD)] [] = some (.hw 0, [.row 2 0 0 (xs.map slotD)]) := by
 have es : (xs.map slotD).map (·.map D.scrub) = xs.map slotD := scrub_map slotD (fun _ => rfl) xs
 have hd : decide ((0 + ((xs.map slotD).map (·.map D.scrub)).length) * 24 ≤ 140737488355328) = true := decide_eq_true (by rw [es, List.length_map]; omega)
 rw [h.call]
 repeat (conv=>lhs;whnf;arg 2;tactic=>first|exact szOk_map slotD 2 (fun _ => rfl) xs|exact hd)
 conv => lhs; whnf
 rw [es]
 rfl
theorem ev_l3Copy (nm : Str) (bs : List Int) (hl : bs.length < 1000000) : W f_spec_l3Copy [.agg [.str nm, .sl .br (bs.map intD)]] [] = some (.agg [.str nm, .hw 0], [.row 1 0 0 (bs.map intD)]) := by
 have es : (bs.map intD).map (·.map D.scrub) = bs.map intD := scrub_map intD (fun _ => rfl) bs
 have hd : decide ((0 + ((bs.map intD).map (·.map D.scrub)).length) * 8 ≤ 140737488355328) = true := decide_eq_true (by rw [es, List.length_map]; omega)
 rw [h.call]
 repeat (conv=>lhs;whnf;arg 2;tactic=>first|exact szOk_map intD 1 (fun _ => rfl) bs|exact hd|exact g2)
 conv => lhs; whnf
 rw [es]
 rfl
theorem copy_loop (p : PoolM) (hl : p.vols.length < 1000000) (hb : ∀ v ∈ p.vols, v.blocks.length < 1000000) : ∀ (m i c : Nat), i + m = p.vols.length → c = (if i = 0 then 0 else 1) → L (norm 0 cf209.live) (exitN 0 cf209.out (evCW W L G cf209 0 c209l0)) ⟨[(1, .ptr 0 0), (2, .ptr 1 0), (3, .hw 2), (4, .int .i64 (i : Nat))], [boxP p, .box [.nils, .nils], .row 2 i c ((p.vols.take i).map volD)]⟩ =
  some (.ext 0, ⟨[(1, .ptr 0 0), (2, .ptr 1 0), (3, .hw 2)], [boxP p, .box [.nils, .nils], .row 2 p.vols.length (if p.vols.length = 0 then 0 else 1) (p.vols.map volD)]⟩)
 | 0, i, c, hm, hc => by
  have : i = p.vols.length := by omega
  subst this
  rw [h.loop, List.take_of_length_le (Nat.le_refl _), hc]
  repeat (conv=>lhs;whnf;arg 2;tactic=>first|exact g1)
  rfl
 | m + 1, i, c, hm, hc => by
  obtain ⟨v, hv⟩ := get_some (xs := p.vols) (i := i) (by omega)
  have hvb := hb v (List.mem_of_getElem? hv)
  have ih := copy_loop p hl hb m (i + 1) 1 (by omega) (by simp)
  have hlen : ((p.vols.take i).map volD).length = i := by simp; omega
  have hd : decide ((((p.vols.take i).map volD).length + 1) * 40 ≤ 140737488355328) = true := decide_eq_true (by rw [hlen]; omega)
  have hor : (Nat.beq ((p.vols.take i).map volD).length 0 || Nat.beq c 1) = true := by
   rw [hlen]
   by_cases hi : i = 0
   ·subst hi; rfl
   ·rw [hc, if_neg hi]; simp
  rw [h.loop]
  repeat (conv=>lhs;whnf;arg 2;tactic=>first|exact g1|exact map_get hv|exact ev_l3Copy h _ _ hvb|exact hor|exact g2)
  conv => lhs; whnf
  rw [wrap_succ (by omega), hlen]
  rw [take_snoc hv, List.map_append] at ih
  exact ih
theorem ev_l11Copy (p : PoolM) (hl : p.vols.length < 1000000) (hs : p.slots.length < 1000000) (hb : ∀ v ∈ p.vols, v.blocks.length < 1000000) : W f_spec_l11Copy [poolA p] [] = some (.agg [.hw 0, .hw 1], [.row 2 0 2 (p.slots.map slotD), .row 2 p.vols.length (if p.vols.length = 0 then 0 else 1) (p.vols.map volD)]) := by
 have e := copy_loop h p hl hb p.vols.length 0 0 (by omega) rfl
 have hc := ev_l2Copy h p.slots hs
 rw [nc0, List.take_zero] at e
 rw [h.call]
 repeat (conv=>lhs;whnf;arg 2;tactic=>first|exact e|exact hc)
 rfl
theorem ev_l2Put (xs : List SlotM) (h8 : xs.length = 8) (hu : SlotsB 1000000 xs) (t : Str) (ht : textOk t = true) (hf0 : 0 ≤ (findS xs t 8 (textPlace t) 0).1 ∧ (findS xs t 8 (textPlace t) 0).1 ≤ 8) : W f_spec_l2Put [.hw 0, .str t] [.row 2 0 2 (xs.map slotD)] = some (.tup [.hw 0, .int .i64 (putS xs t).2.1, .bool (putS xs t).2.2], [.row 2 0 2 ((putS xs t).1.map slotD)]) := by
 have hf := ev_l2Find h xs h8 t ht
 unfold putS
 generalize findS xs t 8 (textPlace t) 0 = r at hf hf0
 obtain ⟨a, b⟩ := r
 simp only at hf hf0 ⊢
 rw [h.call]
 by_cases h0 : a = 0
 ·subst h0
  have hx : ∃ x, xs[((0 : Int) - 1).toNat]? = some x := get_some (by simp; omega)
  obtain ⟨x, hx⟩ := hx
  simp only [hx]
  repeat (conv=>lhs;whnf;arg 2;tactic=>first|exact hf)
  rfl
 ·obtain ⟨j, rfl⟩ : ∃ j : Nat, a = (j : Int) + 1 := ⟨(a - 1).toNat, by omega⟩
  have hj : ((j : Int) + 1 - 1).toNat = j := by omega
  obtain ⟨x, hx⟩ := get_some (xs := xs) (i := j) (by omega)
  have hux := hu x (List.mem_of_getElem? hx)
  have e0 : ((j : Int) + 1 == 0) = false := by simp; omega
  simp only [hj, hx, e0, Bool.false_or]
  cases h99 : decide (x.uses ≥ 99)
  ·repeat (conv=>lhs;whnf;arg 2;tactic=>first|exact g1|exact hf|exact map_get hx|exact h99|exact g2)
   conv => lhs; whnf
   rw [wrap_id (n := x.uses + 1) (by omega) (by omega), show (xs.map slotD).set j (splice (slotD x) 0 [D.str t, D.int .i64 (x.uses + 1)]) = (xs.set j ⟨t, x.uses + 1⟩).map slotD by rw [← set_map]; rfl]
   rfl
  ·repeat (conv=>lhs;whnf;arg 2;tactic=>first|exact g1|exact hf|exact map_get hx|exact h99|exact g2)
   rfl
end
end Go.Gn

namespace Go.Gn
open Go
set_option maxRecDepth 100000
set_option maxHeartbeats 4000000
def gtS (a b : Str) : Bool := !(Op.bytesLess a.toList b.toList || a.toList == b.toList)
def insS (v : VolM) : List VolM → List VolM
 | [] => [v]
 | u :: us => if gtS u.name v.name then v :: u :: us else u :: insS v us
def anyG (v : VolM) (vs : List VolM) : Bool := vs.any fun u => gtS u.name v.name
theorem insS_none {v : VolM} : ∀ {vs : List VolM}, anyG v vs = false → insS v vs = vs ++ [v]
 | [], _ => rfl
 | u :: us, h => by
  simp only [anyG, List.any_cons, Bool.or_eq_false_iff] at h
  simp only [insS, h.1, Bool.false_eq_true, if_false, List.cons_append]
  rw [insS_none h.2]
def addOs (p : PoolM) (v : VolM) (b : Obj) (acc : List VolM) : List Obj := [.row 2 0 2 (p.slots.map slotD), .row 2 0 2 (p.vols.map volD), b, .box [.hw 0, .hw 1], .box [.str v.name, .hw 2], .box [.nils, .nils], .row 2 0 0 (acc.map volD)]
theorem app_vol (acc : List VolM) (v : VolM) : (acc.map volD) ++ chunks 2 1 [D.str v.name, D.sl (v.blocks.map intD)] = (acc ++ [v]).map volD := by
 rw [List.map_append]; rfl
section
variable {W : CallF} {L : LoopF} {E : EqF} {T : Prop → Bool} (h : IsK G W L E T)
include h
theorem add_loop1 (p : PoolM) (hl : p.vols.length < 1000) (v : VolM) (b : Obj) (hb : b = .frz 1 (v.blocks.map intD)) : ∀ (m i : Nat) (acc : List VolM), i + m = p.vols.length → acc.length ≤ i + 1 → L (norm 3 cf226.live) (exitN 3 cf226.out (evCW W L G cf226 3 c226l0)) ⟨[(2, .ptr 3 0), (3, .ptr 4 0), (4, .ptr 5 0), (5, .hw 6), (6, .bool true), (7, .int .i64 (i : Nat))], addOs p v b acc⟩ =
  some (.ext 0, ⟨[(2, .ptr 3 0), (3, .ptr 4 0), (4, .ptr 5 0), (5, .hw 6), (6, .bool true)], addOs p v b (acc ++ p.vols.drop i)⟩)
 | 0, i, acc, hm, ha => by
  subst hb
  rw [h.loop, List.drop_eq_nil_of_le (show p.vols.length ≤ i by omega), List.append_nil]
  repeat (conv=>lhs;whnf;arg 2;tactic=>first|exact g1)
  rfl
 | m + 1, i, acc, hm, ha => by
  have hb' := hb
  subst hb'
  obtain ⟨u, hu⟩ := get_some (xs := p.vols) (i := i) (by omega)
  have ih := add_loop1 p hl v (.frz 1 (v.blocks.map intD)) rfl m (i + 1) (acc ++ [u]) (by omega) (by simp; omega)
  have hd : decide (((acc.map volD).length + 1) * 40 ≤ 140737488355328) = true := decide_eq_true (by rw [List.length_map]; omega)
  rw [h.loop, drop_cons hu]
  repeat (conv=>lhs;whnf;arg 2;tactic=>first|exact g1|exact map_get hu|exact hd)
  conv => lhs; whnf
  rw [wrap_succ (by omega), app_vol]
  rw [List.append_assoc] at ih
  exact ih
theorem add_loop0 (p : PoolM) (hl : p.vols.length < 1000) (v : VolM) (c : Nat) : ∀ (m i : Nat) (acc : List VolM), i + m = p.vols.length → acc.length ≤ i → L (norm 3 cf226.live) (exitN 3 cf226.out (evCW W L G cf226 3 c226l0)) ⟨[(2, .ptr 3 0), (3, .ptr 4 0), (4, .ptr 5 0), (5, .hw 6), (6, .bool false), (7, .int .i64 (i : Nat))], addOs p v (.row 1 0 c (v.blocks.map intD)) acc⟩ =
  some (.ext 0, ⟨[(2, .ptr 3 0), (3, .ptr 4 0), (4, .ptr 5 0), (5, .hw 6), (6, .bool (anyG v (p.vols.drop i)))], if anyG v (p.vols.drop i) then addOs p v (.frz 1 (v.blocks.map intD)) (acc ++ insS v (p.vols.drop i)) else addOs p v (.row 1 0 c (v.blocks.map intD)) (acc ++ p.vols.drop i)⟩)
 | 0, i, acc, hm, ha => by
  rw [h.loop, List.drop_eq_nil_of_le (show p.vols.length ≤ i by omega), List.append_nil]
  repeat (conv=>lhs;whnf;arg 2;tactic=>first|exact g1)
  rfl
 | m + 1, i, acc, hm, ha => by
  obtain ⟨u, hu⟩ := get_some (xs := p.vols) (i := i) (by omega)
  have hd : decide (((acc.map volD).length + 1) * 40 ≤ 140737488355328) = true := decide_eq_true (by rw [List.length_map]; omega)
  have hd2 : decide ((((acc ++ [v]).map volD).length + 1) * 40 ≤ 140737488355328) = true := decide_eq_true (by simp; omega)
  rw [h.loop, drop_cons hu]
  cases hg : gtS u.name v.name
  ·have ih := add_loop0 p hl v c m (i + 1) (acc ++ [u]) (by omega) (by simp; omega)
   have e1 : anyG v (u :: p.vols.drop (i + 1)) = anyG v (p.vols.drop (i + 1)) := by simp only [anyG, List.any_cons, hg, Bool.false_or]
   have e2 : insS v (u :: p.vols.drop (i + 1)) = u :: insS v (p.vols.drop (i + 1)) := by simp only [insS, hg, Bool.false_eq_true, if_false]
   rw [e1, e2]
   repeat (conv=>lhs;whnf;arg 2;tactic=>first|exact g1|exact map_get hu|exact hd|exact hg)
   conv => lhs; whnf
   rw [wrap_succ (by omega), app_vol]
   rw [List.append_assoc, List.append_assoc] at ih
   exact ih
  ·have ih := add_loop1 h p hl v (.frz 1 (v.blocks.map intD)) rfl m (i + 1) (acc ++ [v] ++ [u]) (by omega) (by simp; omega)
   have e1 : anyG v (u :: p.vols.drop (i + 1)) = true := by simp only [anyG, List.any_cons, hg, Bool.true_or]
   have e2 : insS v (u :: p.vols.drop (i + 1)) = v :: u :: p.vols.drop (i + 1) := by simp only [insS, hg, if_true]
   rw [e1, e2]
   repeat (conv=>lhs;whnf;arg 2;tactic=>first|exact g1|exact map_get hu|exact hd|exact hg)
   conv => lhs; whnf
   rw [app_vol]
   repeat (conv=>lhs;whnf;arg 2;tactic=>first|exact hd2)
   conv => lhs; whnf
   rw [wrap_succ (by omega), app_vol]
   simp only [List.append_assoc, List.cons_append, List.nil_append] at ih ⊢
   exact ih
theorem ev_l11Add (p : PoolM) (hl : p.vols.length < 1000) (v : VolM) (c : Nat) : W f_spec_l11Add [.agg [.hw 0, .hw 1], .agg [.str v.name, .hw 2]] [.row 2 0 2 (p.slots.map slotD), .row 2 0 2 (p.vols.map volD), .row 1 0 c (v.blocks.map intD)] =
  some (.agg [.hw 0, .hw 3], [.row 2 0 2 (p.slots.map slotD), .row 2 0 2 (p.vols.map volD), .frz 1 (v.blocks.map intD), .row 2 0 0 ((insS v p.vols).map volD)]) := by
 have e := add_loop0 h p hl v c p.vols.length 0 [] (by omega) (by simp)
 have hd : decide (((p.vols.map volD).length + 1) * 40 ≤ 140737488355328) = true := decide_eq_true (by rw [List.length_map]; omega)
 rw [nc0, List.drop_zero] at e
 rw [h.call]
 cases hg : anyG v p.vols
 ·rw [hg] at e
  repeat (conv=>lhs;whnf;arg 2;tactic=>first|exact e|exact hd)
  conv => lhs; whnf
  rw [insS_none hg, app_vol]
  rfl
 ·rw [hg] at e
  repeat (conv=>lhs;whnf;arg 2;tactic=>first|exact e)
  rfl
end
end Go.Gn

namespace Go.Gn
open Go
set_option maxRecDepth 100000
set_option maxHeartbeats 4000000
def specP (p : PoolM) : List Obj := [.row 2 0 2 (p.slots.map slotD), .row 2 0 2 (p.vols.map volD)]
def Res (r : PoolM × Bool) (x : AV × List Obj) : Prop :=
 x = (.tup [.agg [.hw 0, .hw 1], .bool r.2], specP r.1) ∨
 (∃ ys c, x = (.tup [.agg [.hw 0, .hw 2], .bool r.2], [.row 2 0 2 (r.1.slots.map slotD), .row 2 0 2 ys, .row 2 0 c (r.1.vols.map volD)])) ∨
 (∃ xs ys, x = (.tup [.agg [.hw 2, .hw 3], .bool r.2], [.row 2 0 2 xs, .row 2 0 2 ys, .row 2 0 2 (r.1.slots.map slotD), .row 2 0 2 (r.1.vols.map volD)]))
def sMakeBad (p : PoolM) (nm : Str) (sz : Int) : Bool := !sName nm || (!inR sz 1 6 || decide (fndI (volIx p.vols nm) ≥ 0))
def sMake (p : PoolM) (nm : Str) (sz : Int) : PoolM × Bool := if sMakeBad p nm sz then (p, false) else (⟨p.slots, insS ⟨nm, List.replicate sz.toNat 0⟩ p.vols⟩, true)
def sWr (p : PoolM) (i b : Nat) (t : Str) : PoolM × Bool := match p.vols[i]? with
 | some v => match v.blocks[b]? with
  | some old => if seq t noText then (⟨freeM p.slots old, p.vols.set i ⟨v.name, v.blocks.set b 0⟩⟩, true)
   else if (putS (freeM p.slots old) t).2.2 then (⟨(putS (freeM p.slots old) t).1, p.vols.set i ⟨v.name, v.blocks.set b (putS (freeM p.slots old) t).2.1⟩⟩, true) else (p, false)
  | none => (p, false)
 | none => (p, false)
def sWrite (p : PoolM) (nm : Str) (b : Int) (t : Str) : PoolM × Bool := match hasB p nm b with
 | none => (p, false)
 | some i => if textOk t then sWr p i b.toNat t else (p, false)
def sCloneBad (p : PoolM) (fr to : Str) : Bool := decide (fndI (volIx p.vols fr) < 0) || (!sName to || decide (fndI (volIx p.vols to) ≥ 0))
def sClone (p : PoolM) (fr to : Str) : PoolM × Bool := if sCloneBad p fr to then (p, false) else match p.vols[(fndI (volIx p.vols fr)).toNat]? with
 | some v => (⟨incL p.slots v.blocks, insS ⟨to, v.blocks⟩ p.vols⟩, true)
 | none => (p, false)
def sGone (p : PoolM) (nm : Str) : PoolM × Bool := match volIx p.vols nm with
 | none => (p, false)
 | some i => (goM p i, true)
section
variable {W : CallF} {L : LoopF} {E : EqF} {T : Prop → Bool} (h : IsK G W L E T)
include h
theorem ev_l11Make (p : PoolM) (hl : p.vols.length < 1000) (nm : Str) (sz : Int) : ∃ x, W f_spec_l11Make [.agg [.hw 0, .hw 1], .str nm, .int .i64 sz] (specP p) = some x ∧ Res (sMake p nm sz) x := by
 have hn := ev_l3Name h nm
 have hr := ev_l6In h sz 1 6
 have hv := ev_l11At h p (by omega) nm
 unfold sMake sMakeBad
 cases c1 : sName nm
 ·rw [c1] at hn
  refine ⟨_, ?_, .inl rfl⟩
  rw [h.call]
  repeat (conv=>lhs;whnf;arg 2;tactic=>first|exact hn)
  rfl
 ·rw [c1] at hn
  cases c2 : inR sz 1 6
  ·rw [c2] at hr
   refine ⟨_, ?_, .inl rfl⟩
   rw [h.call]
   repeat (conv=>lhs;whnf;arg 2;tactic=>first|exact hn|exact hr)
   rfl
  ·have c2' := c2
   rw [c2] at hr
   simp only [inR, Bool.and_eq_true, decide_eq_true_eq] at c2'
   cases c3 : decide (fndI (volIx p.vols nm) ≥ 0)
   ·obtain ⟨n, rfl⟩ : ∃ n : Nat, sz = n := ⟨sz.toNat, by omega⟩
    have hins := ev_l11Add h p hl ⟨nm, List.replicate n 0⟩ 0
    simp only [List.map_replicate] at hins
    refine ⟨_, ?_, .inr (.inl ⟨p.vols.map volD, 2, rfl⟩)⟩
    rw [h.call]
    repeat (conv=>lhs;whnf;arg 2;tactic=>first|exact g1|exact hn|exact hr|exact hv|exact c3|exact hins|exact g2)
    rfl
   ·refine ⟨_, ?_, .inl rfl⟩
    rw [h.call]
    repeat (conv=>lhs;whnf;arg 2;tactic=>first|exact hn|exact hr|exact hv|exact c3)
    rfl
end
end Go.Gn

namespace Go.Gn
open Go
set_option maxRecDepth 100000
set_option maxHeartbeats 4000000
theorem findS_range (xs : List SlotM) (h8 : xs.length = 8) (t : Str) : ∀ m p fr, inR p 1 8 = true → 0 ≤ fr → fr ≤ 8 → 0 ≤ (findS xs t m p fr).1 ∧ (findS xs t m p fr).1 ≤ 8
 | 0, p, fr, hp, h1, h2 => ⟨h1, h2⟩
 | m + 1, p, fr, hp, h1, h2 => by
  have hp' := hp
  simp only [inR, Bool.and_eq_true, decide_eq_true_eq] at hp'
  have hnx : inR (textNext p) 1 8 = true := by have := textNext_range hp'.1; simp [inR]; omega
  simp only [findS]
  split
  ·split
   ·simp only; omega
   ·refine findS_range xs h8 t m _ _ hnx ?_ ?_
    ·split <;> omega
    ·split <;> omega
  ·simp
section
variable {W : CallF} {L : LoopF} {E : EqF} {T : Prop → Bool} (h : IsK G W L E T)
include h
theorem ev_sfree (xs : List SlotM) (h8 : xs.length = 8) (hu : SlotsB 1000000 xs) (old : Int) (h0 : 0 < old) (h1 : old ≤ 8) : W f_spec_l2Drop [.hw 0, .int .i64 old] [.row 2 0 2 (xs.map slotD)] = some (.hw 0, [.row 2 0 2 ((freeM xs old).map slotD)]) := by
 obtain ⟨j, rfl⟩ : ∃ j : Nat, old = (j : Int) + 1 := ⟨(old - 1).toNat, by omega⟩
 obtain ⟨x, hx⟩ := get_some (xs := xs) (i := j) (by omega)
 have hj : ((j : Int) + 1 - 1).toNat = j := by omega
 simp only [freeM, if_pos h0, hj, hx]
 exact ev_l2Drop h xs j x hx (by omega) (hu x (List.mem_of_getElem? hx))
theorem ev_sput (xs : List SlotM) (h8 : xs.length = 8) (hu : SlotsB 1000000 xs) (t : Str) (ht : textOk t = true) : W f_spec_l2Put [.hw 0, .str t] [.row 2 0 2 (xs.map slotD)] = some (.tup [.hw 0, .int .i64 (putS xs t).2.1, .bool (putS xs t).2.2], [.row 2 0 2 ((putS xs t).1.map slotD)]) :=
 ev_l2Put h xs h8 hu t ht (findS_range xs h8 t 8 _ 0 (by have := textPlace_range ht; simp [inR]; omega) (by omega) (by omega))
theorem ev_l11Write (p : PoolM) (hs : VolsSz p.vols) (hvl : p.vols.length < 1000) (h8 : p.slots.length = 8) (hu : SlotsB 99 p.slots) (hbl : ∀ v ∈ p.vols, v.blocks.length < 1000) (hb8 : ∀ v ∈ p.vols, ∀ b ∈ v.blocks, 0 ≤ b ∧ b ≤ 8) (nm : Str) (b : Int) (t : Str) (ht : SmS t) :
  ∃ x, W f_spec_l11Write [.agg [.hw 0, .hw 1], .str nm, .int .i64 b, .str t] (specP p) = some x ∧ Res (sWrite p nm b t) x := by
 have hv := ev_l11At h p (by omega) nm
 have htx := ev_sTextOk h t ht
 unfold sWrite hasB
 cases hx : volIx p.vols nm with
 | none =>
  rw [hx] at hv
  refine ⟨_, ?_, .inl rfl⟩
  rw [h.call]
  repeat (conv=>lhs;whnf;arg 2;tactic=>first|exact hv)
  rfl
 | some i =>
  rw [hx] at hv
  obtain ⟨_, hi, v, hvi, _⟩ := fnd_lt hx
  rw [Nat.sub_zero] at hvi
  have hvb := hbl v (List.mem_of_getElem? hvi)
  have hi0 : decide (fndI (some i) < 0) = false := decide_eq_false (by simp [fndI])
  have hlen : IntKind.i64.wrap (((v.blocks.map intD).length : Nat) - 1) = (v.blocks.length : Int) - 1 := by rw [List.length_map, wrap_id (by omega) (by omega)]
  have hw : W f_spec_l6In [.int .i64 b, .int .i64 0, .int .i64 (IntKind.i64.wrap (((v.blocks.map intD).length : Nat) - 1))] [] = some (.bool (inR b 0 ((v.blocks.length : Int) - 1)), []) := by rw [hlen]; exact ev_l6In h _ _ _
  simp only [hvi]
  cases hr : inR b 0 ((v.blocks.length : Int) - 1)
  ·rw [hr] at hw
   refine ⟨_, ?_, .inl rfl⟩
   rw [h.call]
   repeat (conv=>lhs;whnf;arg 2;tactic=>first|exact g1|exact hv|exact map_get hvi|exact hw)
   rfl
  ·rw [hr] at hw
   simp only [if_true]
   cases ct : textOk t
   ·rw [ct] at htx
    refine ⟨_, ?_, .inl rfl⟩
    rw [h.call]
    repeat (conv=>lhs;whnf;arg 2;tactic=>first|exact g1|exact hv|exact map_get hvi|exact hw|exact htx)
    rfl
   ·rw [ct] at htx
    simp only [inR, Bool.and_eq_true, decide_eq_true_eq] at hr
    obtain ⟨n, rfl⟩ : ∃ n : Nat, b = n := ⟨b.toNat, by omega⟩
    obtain ⟨old, ho⟩ := get_some (xs := v.blocks) (i := n) (by omega)
    have hil := lt_of_get hvi
    have ho8 := hb8 v (List.mem_of_getElem? hvi) old (List.mem_of_getElem? ho)
    have hcp := ev_l11Copy h p (by omega) (by omega) (fun v hv => by have := hbl v hv; omega)
    rw [if_neg (show ¬ p.vols.length = 0 by omega)] at hcp
    simp only [sWr, hvi, ho, Int.toNat_natCast, if_true]
    have hfB := freeM_B (old := old) hu
    have hf8 : (freeM p.slots old).length = 8 := by rw [freeM_length]; exact h8
    have hp := ev_sput h (freeM p.slots old) hf8 hfB t ct
    by_cases hold : old > 0
    ·have hf := ev_sfree h p.slots h8 (fun x hx => by have := hu x hx; omega) old (by omega) ho8.2
     have hdo := decide_eq_true hold
     cases hq : seq t noText
     ·simp only [Bool.false_eq_true, if_false]
      cases hok : (putS (freeM p.slots old) t).2.2
      ·rw [hok] at hp
       refine ⟨_, ?_, .inl rfl⟩
       rw [h.call]
       repeat (conv=>lhs;whnf;arg 2;tactic=>first|exact g1|exact hv|exact map_get hvi|exact hw|exact htx|exact hcp|exact map_get ho|exact hf|exact hq|exact hp|exact g2)
       rfl
      ·rw [hok] at hp
       refine ⟨_, ?_, .inr (.inr ⟨p.slots.map slotD, p.vols.map volD, rfl⟩)⟩
       rw [h.call]
       repeat (conv=>lhs;whnf;arg 2;tactic=>first|exact g1|exact hv|exact map_get hvi|exact hw|exact htx|exact hcp|exact map_get ho|exact hf|exact hq|exact hp|exact get_set_self (by simp; omega)|exact g2)
       conv => lhs; whnf
       simp only [List.set_set, wr_es]
       all_goals rfl
     ·simp only [if_true]
      refine ⟨_, ?_, .inr (.inr ⟨p.slots.map slotD, p.vols.map volD, rfl⟩)⟩
      rw [h.call]
      repeat (conv=>lhs;whnf;arg 2;tactic=>first|exact g1|exact hv|exact map_get hvi|exact hw|exact htx|exact hcp|exact map_get ho|exact hf|exact hq|exact g2)
      conv => lhs; whnf
      simp only [List.set_set, wr_es]
      all_goals rfl
    ·have hfr : freeM p.slots old = p.slots := by unfold freeM; rw [if_neg hold]
     have hdo := decide_eq_false hold
     rw [hfr] at hp ⊢
     cases hq : seq t noText
     ·simp only [Bool.false_eq_true, if_false]
      cases hok : (putS p.slots t).2.2
      ·rw [hok] at hp
       refine ⟨_, ?_, .inl rfl⟩
       rw [h.call]
       repeat (conv=>lhs;whnf;arg 2;tactic=>first|exact g1|exact hv|exact map_get hvi|exact hw|exact htx|exact hcp|exact map_get ho|exact hq|exact hp|exact g2)
       rfl
      ·rw [hok] at hp
       refine ⟨_, ?_, .inr (.inr ⟨p.slots.map slotD, p.vols.map volD, rfl⟩)⟩
       rw [h.call]
       repeat (conv=>lhs;whnf;arg 2;tactic=>first|exact g1|exact hv|exact map_get hvi|exact hw|exact htx|exact hcp|exact map_get ho|exact hq|exact hp|exact get_set_self (by simp; omega)|exact g2)
       conv => lhs; whnf
       simp only [List.set_set, wr_es]
       all_goals rfl
     ·simp only [if_true]
      refine ⟨_, ?_, .inr (.inr ⟨p.slots.map slotD, p.vols.map volD, rfl⟩)⟩
      rw [h.call]
      repeat (conv=>lhs;whnf;arg 2;tactic=>first|exact g1|exact hv|exact map_get hvi|exact hw|exact htx|exact hcp|exact map_get ho|exact hq|exact g2)
      conv => lhs; whnf
      simp only [List.set_set, wr_es]
      all_goals rfl
end
end Go.Gn

namespace Go.Gn
open Go
set_option maxRecDepth 100000
set_option maxHeartbeats 4000000
def sclOs (xs : List SlotM) (vs : List VolM) (to : Str) (bs : List Int) : List Obj := [.row 2 0 2 (xs.map slotD), .row 2 0 2 (vs.map volD), .box [.hw 0, .hw 1], .box [.nils, .nils], .box [.str to, .hw 5], .row 1 0 0 (bs.map intD)]
theorem del_view (vs : List VolM) (i : Nat) (hi : i < vs.length) : view (vs.map volD) 0 (i - 0) ++ view (vs.map volD) (i + 1) ((vs.map volD).length - (i + 1)) = (delV vs i).map volD := by
 simp only [view, delV, List.map_append, List.map_take, List.map_drop, List.drop_zero, Nat.sub_zero, List.length_map]
 congr 1
 rw [List.take_of_length_le (by simp)]
section
variable {W : CallF} {L : LoopF} {E : EqF} {T : Prop → Bool} (h : IsK G W L E T)
include h
theorem sinc_loop (vs : List VolM) (to : Str) (bs : List Int) (hbl : bs.length < 1000) (hb8 : ∀ b ∈ bs, 0 ≤ b ∧ b ≤ 8) : ∀ (m i : Nat) (xs : List SlotM), i + m = bs.length → xs.length = 8 → SlotsB (1000 + i) xs →
  L (norm 2 cf215.live) (exitN 2 cf215.out (evCW W L G cf215 2 c215l0)) ⟨[(3, .ptr 2 0), (6, .ptr 3 0), (9, .ptr 4 0), (10, .int .i64 (i : Nat))], sclOs xs vs to bs⟩ =
  some (.ext 0, ⟨[(3, .ptr 2 0), (6, .ptr 3 0), (7, .top), (9, .ptr 4 0)], sclOs (incL xs (bs.drop i)) vs to bs⟩)
 | 0, i, xs, hm, h8, hu => by
  rw [h.loop, List.drop_eq_nil_of_le (show bs.length ≤ i by omega)]
  repeat (conv=>lhs;whnf;arg 2;tactic=>first|exact g1)
  rfl
 | m + 1, i, xs, hm, h8, hu => by
  obtain ⟨b, hb⟩ := get_some (xs := bs) (i := i) (by omega)
  have hbb := hb8 b (List.mem_of_getElem? hb)
  have hu' := incM_B (b := b) hu
  have hu2 : SlotsB (1000 + (i + 1 : Nat)) (incM xs b) := fun x hx => by have := hu' x hx; omega
  rw [h.loop, drop_cons hb, incL]
  by_cases hp : b > 0
  ·obtain ⟨j, rfl⟩ : ∃ j : Nat, b = (j : Int) + 1 := ⟨(b - 1).toNat, by omega⟩
   obtain ⟨x, hx⟩ := get_some (xs := xs) (i := j) (by omega)
   have hux := hu x (List.mem_of_getElem? hx)
   have hj : ((j : Int) + 1 - 1).toNat = j := by omega
   have hinc : incM xs ((j : Int) + 1) = xs.set j x.inc := by simp only [incM, if_pos hp, hj, hx]
   rw [hinc] at hu2 ⊢
   have ih := sinc_loop vs to bs hbl hb8 m (i + 1) (xs.set j x.inc) (by omega) (by simp [h8]) hu2
   repeat (conv=>lhs;whnf;arg 2;tactic=>first|exact g1|exact map_get hb|exact map_get hx|exact g2)
   conv => lhs; whnf
   rw [wrap_succ (by omega), wrap_id (n := x.uses + 1) (by omega) (by omega)]
   have es : (xs.map slotD).set j (splice (slotD x) (0 + 1) [D.int .i64 (x.uses + 1)]) = (xs.set j x.inc).map slotD := by rw [← set_map]; rfl
   rw [es]
   exact ih
  ·have hinc : incM xs b = xs := by simp only [incM, if_neg hp]
   rw [hinc] at hu2 ⊢
   have ih := sinc_loop vs to bs hbl hb8 m (i + 1) xs (by omega) h8 hu2
   repeat (conv=>lhs;whnf;arg 2;tactic=>first|exact g1|exact map_get hb)
   conv => lhs; whnf
   rw [wrap_succ (by omega)]
   exact ih
theorem ev_l11Clone (p : PoolM) (hvl : p.vols.length < 1000) (h8 : p.slots.length = 8) (hu : SlotsB 99 p.slots) (hbl : ∀ v ∈ p.vols, v.blocks.length < 1000) (hb8 : ∀ v ∈ p.vols, ∀ b ∈ v.blocks, 0 ≤ b ∧ b ≤ 8) (fr to : Str) :
  ∃ x, W f_spec_l11Clone [.agg [.hw 0, .hw 1], .str fr, .str to] (specP p) = some x ∧ Res (sClone p fr to) x := by
 have hv := ev_l11At h p (by omega) fr
 have hv2 := ev_l11At h p (by omega) to
 have hn := ev_l3Name h to
 unfold sClone sCloneBad
 cases hx : volIx p.vols fr with
 | none =>
  rw [hx] at hv
  refine ⟨_, ?_, .inl rfl⟩
  rw [h.call]
  repeat (conv=>lhs;whnf;arg 2;tactic=>first|exact hv)
  rfl
 | some i =>
  rw [hx] at hv
  have hi0 : decide (fndI (some i) < 0) = false := decide_eq_false (by simp [fndI])
  obtain ⟨_, hi, v, hvi, _⟩ := fnd_lt hx
  rw [Nat.sub_zero] at hvi
  have hvb := hbl v (List.mem_of_getElem? hvi)
  have hk : (fndI (some i)).toNat = i := by simp [fndI]
  rw [hi0, hk]
  cases c1 : sName to
  ·rw [c1] at hn
   refine ⟨_, ?_, .inl rfl⟩
   rw [h.call]
   repeat (conv=>lhs;whnf;arg 2;tactic=>first|exact hv|exact hn)
   rfl
  ·rw [c1] at hn
   cases c2 : decide (fndI (volIx p.vols to) ≥ 0)
   ·simp only [hvi]
    have e := sinc_loop h p.vols to v.blocks hvb (hb8 v (List.mem_of_getElem? hvi)) v.blocks.length 0 p.slots (by omega) h8 (fun x hx => by have := hu x hx; omega)
    rw [nc0, List.drop_zero] at e
    have hins := ev_l11Add h ⟨incL p.slots v.blocks, p.vols⟩ hvl ⟨to, v.blocks⟩ 0
    have hd : decide ((0 + (v.blocks.map intD).length) * 8 ≤ 140737488355328) = true := decide_eq_true (by rw [List.length_map]; omega)
    refine ⟨_, ?_, .inr (.inl ⟨p.vols.map volD, 2, rfl⟩)⟩
    rw [h.call]
    repeat (conv=>lhs;whnf;arg 2;tactic=>first|exact g1|exact hv|exact hn|exact hv2|exact c2|exact map_get hvi|exact szOk_map intD 1 (fun _ => rfl) v.blocks|exact hd|exact e|exact hins)
    rfl
   ·refine ⟨_, ?_, .inl rfl⟩
    rw [h.call]
    repeat (conv=>lhs;whnf;arg 2;tactic=>first|exact hv|exact hn|exact hv2|exact c2)
    rfl
def sgoOs (xs : List SlotM) (vs : List VolM) : List Obj := [.row 2 0 2 (xs.map slotD), .row 2 0 2 (vs.map volD), .box [.hw 0, .hw 1], .box [.nils, .nils]]
theorem sgone_loop (vs : List VolM) (k : Nat) (v : VolM) (hv : vs[k]? = some v) (hk : vs.length < 1000) (hbl : v.blocks.length < 1000) (hb8 : ∀ b ∈ v.blocks, 0 ≤ b ∧ b ≤ 8) : ∀ (m i : Nat) (xs : List SlotM), i + m = v.blocks.length → xs.length = 8 → SlotsB (1000 + i) xs →
  L (norm 2 cf216.live) (exitN 2 cf216.out (evCW W L G cf216 2 c216l0)) ⟨[(2, .ptr 2 0), (4, .ptr 3 0), (6, .int .i64 (k : Nat)), (7, .int .i64 (i : Nat))], sgoOs xs vs⟩ =
  some (.ext 0, ⟨[(2, .ptr 2 0), (4, .ptr 3 0), (5, .top), (6, .int .i64 (k : Nat))], sgoOs (freeL xs (v.blocks.drop i)) vs⟩)
 | 0, i, xs, hm, h8, hu => by
  have hkl := lt_of_get hv
  rw [h.loop, List.drop_eq_nil_of_le (show v.blocks.length ≤ i by omega)]
  repeat (conv=>lhs;whnf;arg 2;tactic=>first|exact g1|exact map_get hv)
  rfl
 | m + 1, i, xs, hm, h8, hu => by
  have hkl := lt_of_get hv
  obtain ⟨b, hb⟩ := get_some (xs := v.blocks) (i := i) (by omega)
  have hbb := hb8 b (List.mem_of_getElem? hb)
  have hu' := freeM_B' (b := b) hu (by omega)
  have hu2 : SlotsB (1000 + (i + 1 : Nat)) (freeM xs b) := fun x hx => by have := hu' x hx; omega
  rw [h.loop, drop_cons hb, freeL]
  by_cases hp : b > 0
  ·have hf := ev_sfree h xs h8 (fun x hx => by have := hu x hx; omega) b hp hbb.2
   have ih := sgone_loop vs k v hv hk hbl hb8 m (i + 1) (freeM xs b) (by omega) (by rw [freeM_length]; exact h8) hu2
   have hdo := decide_eq_true hp
   repeat (conv=>lhs;whnf;arg 2;tactic=>first|exact g1|exact map_get hv|exact map_get hb|exact hf)
   conv => lhs; whnf
   rw [wrap_succ (by omega)]
   exact ih
  ·have hinc : freeM xs b = xs := by simp only [freeM, if_neg hp]
   rw [hinc] at hu2 ⊢
   have ih := sgone_loop vs k v hv hk hbl hb8 m (i + 1) xs (by omega) h8 hu2
   have hdo := decide_eq_false hp
   repeat (conv=>lhs;whnf;arg 2;tactic=>first|exact g1|exact map_get hv|exact map_get hb)
   conv => lhs; whnf
   rw [wrap_succ (by omega)]
   exact ih
theorem ev_l11Gone (p : PoolM) (hvl : p.vols.length < 1000) (h8 : p.slots.length = 8) (hu : SlotsB 99 p.slots) (hbl : ∀ v ∈ p.vols, v.blocks.length < 1000) (hb8 : ∀ v ∈ p.vols, ∀ b ∈ v.blocks, 0 ≤ b ∧ b ≤ 8) (nm : Str) :
  ∃ x, W f_spec_l11Gone [.agg [.hw 0, .hw 1], .str nm] (specP p) = some x ∧ Res (sGone p nm) x := by
 have hv := ev_l11At h p (by omega) nm
 unfold sGone
 cases hx : volIx p.vols nm with
 | none =>
  rw [hx] at hv
  refine ⟨_, ?_, .inl rfl⟩
  rw [h.call]
  repeat (conv=>lhs;whnf;arg 2;tactic=>first|exact hv)
  rfl
 | some i =>
  rw [hx] at hv
  have hi0 : decide (fndI (some i) < 0) = false := decide_eq_false (by simp [fndI])
  obtain ⟨_, hi, v, hvi, _⟩ := fnd_lt hx
  rw [Nat.sub_zero] at hvi
  have e := sgone_loop h p.vols i v hvi hvl (hbl v (List.mem_of_getElem? hvi)) (hb8 v (List.mem_of_getElem? hvi)) v.blocks.length 0 p.slots (by omega) h8 (fun x hx => by have := hu x hx; omega)
  rw [nc0, List.drop_zero] at e
  have hlen : ((p.vols.map volD).length) = p.vols.length := List.length_map ..
  have v1 : (view (p.vols.map volD) 0 (i - 0)).length = i := by simp [view]; omega
  have hd : decide ((0 + (view (p.vols.map volD) 0 (i - 0)).length) * 40 ≤ 140737488355328) = true := decide_eq_true (by rw [v1]; omega)
  have v2 : (view (p.vols.map volD) (i + 1) ((p.vols.map volD).length - (i + 1))).length ≤ p.vols.length := by simp [view]
  have hd2 : decide (((chunks 2 0 ([] : List D) ++ view (p.vols.map volD) 0 (i - 0)).length + (view (p.vols.map volD) (i + 1) ((p.vols.map volD).length - (i + 1))).length) * 40 ≤ 140737488355328) = true := decide_eq_true (by rw [List.length_append, v1]; simp only [chunks, List.length_nil]; omega)
  simp only [goM, hvi]
  refine ⟨_, ?_, .inr (.inl ⟨p.vols.map volD, 0, rfl⟩)⟩
  rw [h.call]
  repeat (conv=>lhs;whnf;arg 2;tactic=>first|exact g1|exact hv|exact e|exact hd|exact hd2|exact g2)
  conv => lhs; whnf
  rw [show chunks 2 0 ([] : List D) ++ view (p.vols.map volD) 0 (i - 0) ++ view (p.vols.map volD) (i + 1) ((p.vols.map volD).length - (i + 1)) = (delV p.vols i).map volD from del_view p.vols i (by omega)]
  all_goals rfl
end
end Go.Gn

