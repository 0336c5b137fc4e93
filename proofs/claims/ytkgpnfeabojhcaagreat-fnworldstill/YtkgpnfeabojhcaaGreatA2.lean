/- Part 2 of a proof: an evaluator of the program, proved sound, and what it answers. -/
import Derived.Test.YtkgpnfeabojhcaaGreatA1
import Derived.Laws.Tables
set_option linter.all false
namespace Go.Gn
open Go
section
variable {P : Program} {c : Cx} {w w0 : World} {nt : Nat} {ts : Ts} {a : Act} {os : List Obj} (hf : Frm c w nt ts a) (hst : Store w0 c os w)
include hf hst
theorem getRow {o : Nat} {x : Obj} (h : os.getD o .dead = x) (hd : x ≠ .dead) {m : Meta} (hm : c.μ o = some m) : RepObj c w m x := by
 obtain ⟨m', hm', hr⟩ := hst.obj o x h hd
 rw [hm] at hm'
 cases hm'
 exact hr
theorem ssl_val {sz : Nat} {x : AV} {l h : Option Int} {v : AV} {A : Option Addr} {n cap : Nat} (hr : RepAV c w x (.slice A n cap)) (hv : sslAV sz x l h os = some v) :
  n ≤ cap ∧ (0 ≤ l.getD 0 ∧ l.getD 0 ≤ h.getD n ∧ h.getD n ≤ n) ∧ RepAV c w v (.slice (if cap = (l.getD 0).toNat then A else A.map (·.add ((l.getD 0).toNat * sz))) ((h.getD n).toNat - (l.getD 0).toNat) (cap - (l.getD 0).toNat)) := by
 have row : ∀ (o a0 n0 A' : Nat) (m : Meta) (A : Option Addr) (cap : Nat), c.μ o = some m → m.sz = sz → n0 ≤ cap → (0 < n0 → ∃ b, m.blk = some b ∧ A = some ⟨b, a0 * m.sz, none⟩) → (0 ≤ l.getD 0 ∧ l.getD 0 ≤ h.getD n0 ∧ h.getD n0 ≤ n0) →
   RepAV c w (.hs o (a0 + (l.getD 0).toNat) ((h.getD n0).toNat - (l.getD 0).toNat)) (.slice (if cap = (l.getD 0).toNat then A else A.map (·.add ((l.getD 0).toNat * sz))) ((h.getD n0).toNat - (l.getD 0).toNat) (cap - (l.getD 0).toNat)) := by
  intro o a0 n0 _ m A cap hm hs hc hA hb
  refine .hs _ _ _ _ _ m hm (by omega) fun hp => ?_
  obtain ⟨b, hbb, rfl⟩ := hA (by omega)
  refine ⟨b, hbb, ?_⟩
  rw [if_neg (by omega)]
  simp only [Option.map_some, add_none, hs, Nat.add_mul]
 cases x <;> simp only [sslAV, reduceCtorEq] at hv
 case sl m xs =>
  cases hr with
  | sl _ _ _ hrep =>
  split at hv
  ·rename_i hall
   split at hv
   ·rename_i hb
    simp at hv; subst hv
    have hn : n = xs.length ∧ n ≤ cap := by cases hrep <;> exact ⟨rfl, by first | assumption | omega⟩
    refine ⟨hn.2, by rw [hn.1]; exact hb, .sl _ _ _ ?_⟩
    rw [hn.1]
    rcases l with _ | l
    ·have : (h.getD (xs.length : Int)).toNat ≤ xs.length := by simp at hb; omega
     cases hrep with
     | nil A' c' =>
      simp at this
      have e : Gn.view ([] : List (List D)) 0 ((h.getD 0).toNat - 0) = [] := by simp [Gn.view]
      simp at e
      simp [Gn.view]
      rw [show (h.getD 0).toNat = 0 by simpa using this]
      exact .nil _ _
     | sl xs b off sz' cap' f hne hbb hc hcell hrep' =>
      have hh := RepD.view hf (.sl xs b off sz' cap f hne hbb hc hcell hrep') 0 (h.getD (xs.length : Int)).toNat sz' (fun el he => by obtain ⟨j, hj⟩ := List.getElem?_of_mem he; exact (hcell j el hj).1) (by omega)
      have := hh.2.2
      simp only [Option.getD_none, Int.toNat_zero, Nat.sub_zero, Nat.zero_mul] at this ⊢
      have e0 : (⟨b, off, none⟩ : Addr).add 0 = ⟨b, off, none⟩ := by simp [Addr.add]
      simp only [Option.map_some, e0] at this ⊢
      exact this
    ·simp at hall
     have hh := RepD.view hf hrep l.toNat ((h.getD (xs.length : Int)).toNat - l.toNat) sz (fun el he => hall el he) (by simp at hb; omega)
     exact hh.2.2
   ·simp at hv
  ·simp at hv
 case nils =>
  cases hr
  split at hv
  ·rename_i hb
   simp at hv; subst hv
   refine ⟨Nat.le_refl _, hb, ?_⟩
   have e1 : (l.getD 0).toNat = 0 := by omega
   have e2 : (h.getD 0).toNat = 0 := by simp at hb; omega
   simp [e1, e2]
   exact .nils
  ·simp at hv
 case hw o =>
  cases hr with
  | hw _ m hm =>
  split at hv
  ·rename_i s' k c0 xs hx
   have hrow := getRow hf hst hx (by simp) hm
   obtain ⟨h1, h2, h3, _, h5, _⟩ := hrow
   split at hv
   ·rename_i hs
    split at hv
    ·rename_i hb
     simp at hv; subst hv
     rw [← h2] at hb ⊢
     refine ⟨h3, hb, ?_⟩
     have := row o 0 m.len 0 m (m.blk.map mk0) m.cap hm (h1.trans hs) h3 (fun hp => by
      cases hbk : m.blk with
      | none => have := h5 hbk; omega
      | some b => exact ⟨b, rfl, by simp [mk0]⟩) hb
     simpa using this
    ·simp at hv
   ·simp at hv
  ·rename_i s' xs hx
   have hrow := getRow hf hst hx (by simp) hm
   obtain ⟨h1, h2, h3, _, h5, _⟩ := hrow.1
   split at hv
   ·rename_i hs
    split at hv
    ·rename_i hb
     simp at hv; subst hv
     rw [← h2] at hb ⊢
     refine ⟨h3, hb, ?_⟩
     have := row o 0 m.len 0 m (m.blk.map mk0) m.cap hm (h1.trans hs) h3 (fun hp => by
      cases hbk : m.blk with
      | none => have := h5 hbk; omega
      | some b => exact ⟨b, rfl, by simp [mk0]⟩) hb
     simpa using this
    ·simp at hv
   ·simp at hv
  ·simp at hv
 case hs o a0 n0 =>
  cases hr with
  | hs _ _ _ _ _ m hm hc hA =>
  split at hv
  ·rename_i s' k c0 xs hx
   have hrow := getRow hf hst hx (by simp) hm
   split at hv
   ·rename_i hs
    split at hv
    ·rename_i hb
     simp at hv; subst hv
     exact ⟨hc, hb, row o a0 _ 0 m A cap hm (hrow.1.trans hs) hc hA hb⟩
    ·simp at hv
   ·simp at hv
  ·rename_i s' xs hx
   have hrow := getRow hf hst hx (by simp) hm
   split at hv
   ·rename_i hs
    split at hv
    ·rename_i hb
     simp at hv; subst hv
     exact ⟨hc, hb, row o a0 _ 0 m A cap hm (hrow.1.1.trans hs) hc hA hb⟩
    ·simp at hv
   ·simp at hv
  ·simp at hv
theorem y_ssl {o : Oper} {t e : TypeId} {sz : Nat} {x : Operand} {lo hi : Option Operand} {X' : X} {LO HI : Option X} {l h : Option Int} {v : AV} (hu : P.underlying t = some (.slice e)) (hsz : size? P e = some sz) (ho : o.op = .slice t x lo hi none) (hx : cX x = some X')
  (hlo : lo.mapM cX = some LO) (hhi : hi.mapM cX = some HI) (hl : optI ts LO = some l) (hh : optI ts HI = some h) (hv : sslAV sz (getX ts X') l h os = some v) : Yes P o a w c v := by
 have h1 := rep_X hf hx
 have hsl : ∃ A n cap, a.eval x = .slice A n cap := by
  generalize getX ts X' = av at h1 hv
  generalize a.eval x = vv at h1
  cases av <;> simp only [sslAV, reduceCtorEq] at hv <;> cases h1 <;> first | exact ⟨_, _, _, rfl⟩ | (rename_i hh; cases hh <;> exact ⟨_, _, _, rfl⟩)
 obtain ⟨A, n, cap, hval⟩ := hsl
 rw [hval] at h1
 obtain ⟨hc, hb, hr⟩ := ssl_val hf hst h1 hv
 refine ⟨_, ?_, hr⟩
 obtain ⟨i, hi', hsz'⟩ := Option.map_eq_some_iff.1 hsz
 simp only [execOp, ho, hval, Instr.sliceAt, Sem.run_bind, run_underlying hu, Result.andThen_ok, Instr.slice, Option.map_none, bounds_run hf hlo hhi hl hh hb hc, sizeOf, typeInfo, run_program, hi', hsz', Sem.run_pure]
end
end Go.Gn

namespace Go.Gn
open Go
theorem choice {α β : Type} (Q : Nat → α → β → Prop) : ∀ (l : List α) (i0 : Nat), (∀ (i : Nat) (d : α), l[i]? = some d → ∃ u, Q (i0 + i) d u) → ∃ vs : List β, vs.length = l.length ∧ ∀ (i : Nat) (d : α), l[i]? = some d → ∃ u, vs[i]? = some u ∧ Q (i0 + i) d u
 | [], _, _ => ⟨[], rfl, fun i d h => by simp at h⟩
 | x :: l, i0, h => by
  obtain ⟨u, hu⟩ := h 0 x (by simp)
  obtain ⟨vs, hl, hv⟩ := choice Q l (i0 + 1) (fun i d hd => by have := h (i + 1) d (by simpa using hd); rwa [show i0 + 1 + i = i0 + (i + 1) by omega])
  refine ⟨u :: vs, by simp [hl], fun i d hd => ?_⟩
  cases i with
  | zero => simp at hd; subst hd; exact ⟨u, by simp, hu⟩
  | succ i => have := hv i d (by simpa using hd); rw [show i0 + 1 + i = i0 + (i + 1) by omega] at this; simpa using this
theorem rep_av {c : Cx} {w : World} {m : Md} {d : D} {v : Value} (h : RepD (c.set m) w d v) : RepAV c w (d.av m) v := by
 cases d with
 | int k n => cases h; exact .int _ _
 | bool b => cases h; exact .bool _
 | str s => cases h; exact .str _
 | sl xs => exact .sl _ _ _ h
 | top => exact .top _
theorem mapIdx_const {α β : Type} (l : List α) (f : α → β) : l.map f = l.mapIdx (fun _ d => f d) := by
 apply List.ext_getElem?; intro i; simp
theorem cut_some {α : Type} {cs : List α} {off n : Nat} {l : List α} (h : cut cs off n = some l) : l.length = n ∧ ∀ i, i < n → l[i]? = cs[off + i]? := by
 unfold cut at h
 split at h
 ·rename_i hl
  simp at h; subst h
  exact ⟨by simp; omega, fun i hi => by simp [List.getElem?_take, List.getElem?_drop, hi]⟩
 ·simp at h
section
variable {P : Program} {c : Cx} {w w0 : World} {nt : Nat} {ts : Ts} {a : Act} {os : List Obj} (hf : Frm c w nt ts a) (hst : Store w0 c os w)
include hf hst
theorem y_iadr {o : Oper} {t e : TypeId} {sz : Nat} {x i : Operand} {X' I' : X} {k : IntKind} {n : Int} {v : AV} (hu : P.underlying t = some (.slice e)) (hsz : size? P e = some sz) (ho : o.op = .indexAddr t x i) (hx : cX x = some X') (hi : cX i = some I')
  (hn : getX ts I' = .int k n) (hv : iadrAV sz (getX ts X') n os = some v) : Yes P o a w c v := by
 have h1 := rep_X hf hx
 have h2 := rep_X hf hi
 rw [hn] at h2
 obtain ⟨inf, hinf, hsz'⟩ := Option.map_eq_some_iff.1 hsz
 generalize getX ts X' = av at h1 hv
 generalize hval : a.eval x = xv at h1
 generalize hval2 : a.eval i = iv at h2
 cases h2
 have hrun : ∀ (b off len cap : Nat), 0 ≤ n → n.toNat < len → (Instr.indexAt t (.slice (some ⟨b, off, none⟩) len cap) (.int k n)).run P w = .ok (.pointer (some ⟨b, off + n.toNat * sz, none⟩)) w := by
  intro b off len cap h0 hl
  have h3 : 0 ≤ n ∧ n < (len : Int) := ⟨h0, by omega⟩
  simp [Instr.indexAt, asIntOf, run_underlying hu, h3, sizeOf, typeInfo, hinf, hsz', add_none]
 unfold iadrAV at hv
 split at hv
 ·simp at hv
 ·rename_i hneg
  have h0 : 0 ≤ n := by omega
  cases av <;> simp only [reduceCtorEq] at hv
  case sl m xs =>
   split at hv
   ·rename_i el hel
    split at hv
    ·rename_i hsl
     simp at hv; subst hv
     cases h1 with
     | sl _ _ _ hrep =>
     have hlt : n.toNat < xs.length := (List.getElem?_eq_some_iff.1 hel).1
     cases hrep with
     | nil A cc => simp at hel
     | sl _ b off sz' cap f hne hb hc hcell hrep =>
     obtain ⟨hs1, hs2⟩ := hcell _ _ hel
     have he : sz' = sz := hs1.symm.trans hsl
     subst he
     refine ⟨_, by simp only [execOp, ho, hval, hval2, Sem.run_bind, hrun b off _ _ h0 hlt, Result.andThen_ok]; rfl, ?_⟩
     exact .ep m el 0 b (off + n.toNat * sz') hb fun q d hq => ⟨_, hs2 q d hq, hrep _ _ _ _ hel hq⟩
    ·simp at hv
   ·simp at hv
  case hw q =>
   cases h1 with
   | hw _ m hm =>
   split at hv
   ·rename_i s' kk c0 xs hxs
    obtain ⟨r1, r2, r3, _, r5, _⟩ := getRow hf hst hxs (by simp) hm
    split at hv
    ·rename_i hlt
     simp at hv; subst hv
     obtain ⟨hlt, rfl⟩ := hlt
     cases hbk : m.blk with
     | none => have := r5 hbk; omega
     | some b =>
      refine ⟨_, by simp only [execOp, ho, hval, hval2, hbk, Option.map_some, mk0, Sem.run_bind, hrun b 0 m.len m.cap h0 (by omega), Result.andThen_ok]; rfl, ?_⟩
      have := RepAV.rp (c := c) (w := w) q n.toNat 0 b m hm hbk
      rw [r1] at this
      simpa using this
    ·simp at hv
   ·rename_i s' xs hxs
    obtain ⟨⟨r1, r2, r3, _, r5, _⟩, _⟩ := getRow hf hst hxs (by simp) hm
    split at hv
    ·rename_i hlt
     simp at hv; subst hv
     obtain ⟨hlt, rfl⟩ := hlt
     cases hbk : m.blk with
     | none => have := r5 hbk; omega
     | some b =>
      refine ⟨_, by simp only [execOp, ho, hval, hval2, hbk, Option.map_some, mk0, Sem.run_bind, hrun b 0 m.len m.cap h0 (by omega), Result.andThen_ok]; rfl, ?_⟩
      have := RepAV.rp (c := c) (w := w) q n.toNat 0 b m hm hbk
      rw [r1] at this
      simpa using this
    ·simp at hv
   ·simp at hv
  case hs q lo len =>
   cases h1 with
   | hs _ _ _ A cap m hm hc hA =>
   split at hv
   ·rename_i hlt
    obtain ⟨b, hbk, rfl⟩ := hA (by omega)
    split at hv
    ·rename_i cs hxs
     split at hv
     ·rename_i hlo
      simp at hv; subst hv
      subst hlo
      refine ⟨_, by simp only [execOp, ho, hval, hval2, Sem.run_bind, hrun b _ _ _ h0 hlt, Result.andThen_ok]; rfl, ?_⟩
      simpa using RepAV.ptr (c := c) (w := w) q (n.toNat * sz) b m hm hbk
     ·simp at hv
    ·rename_i s' kk c0 xs hxs
     split at hv
     ·rename_i hs
      simp at hv; subst hv
      have r1 := (getRow hf hst hxs (by simp) hm).1
      refine ⟨_, by simp only [execOp, ho, hval, hval2, Sem.run_bind, hrun b _ _ _ h0 hlt, Result.andThen_ok]; rfl, ?_⟩
      have := RepAV.rp (c := c) (w := w) q (lo + n.toNat) 0 b m hm hbk
      rw [Nat.add_mul, Nat.add_zero] at this
      rw [r1, hs] at this ⊢
      exact this
     ·simp at hv
    ·rename_i s' xs hxs
     split at hv
     ·rename_i hs
      simp at hv; subst hv
      have r1 := (getRow hf hst hxs (by simp) hm).1.1
      refine ⟨_, by simp only [execOp, ho, hval, hval2, Sem.run_bind, hrun b _ _ _ h0 hlt, Result.andThen_ok]; rfl, ?_⟩
      have := RepAV.rp (c := c) (w := w) q (lo + n.toNat) 0 b m hm hbk
      rw [Nat.add_mul, Nat.add_zero] at this
      rw [r1, hs] at this ⊢
      exact this
     ·simp at hv
    ·simp at hv
   ·simp at hv
  case sub q j len =>
   split at hv
   ·rename_i hlt
    simp at hv; subst hv
    obtain ⟨hlt, rfl⟩ := hlt
    cases h1 with
    | sub _ _ _ A cap m hm hc hA =>
    obtain ⟨b, hbk, rfl⟩ := hA (by omega)
    refine ⟨_, by simp only [execOp, ho, hval, hval2, Sem.run_bind, hrun b _ _ _ h0 hlt, Result.andThen_ok]; rfl, ?_⟩
    simpa using RepAV.subp (c := c) (w := w) q j n.toNat b m hm hbk
   ·simp at hv
omit hf hst in
theorem isAgg_run {t : TypeId} {u : TypeDesc} (h : P.underlying t = some u) : (isAgg t).run P w = .ok (isAggD u) w := by
 unfold isAgg
 simp only [Sem.run_bind, run_underlying h, Result.andThen_ok]
 cases u <;> rfl
omit hf hst in
theorem loadVar_one {t : TypeId} {u : TypeDesc} (h : P.underlying t = some u) (hg : isAggD u = false) {A : Addr} {v : Value} (hv : w.cell? A = some v) : (loadVar t A).run P w = .ok v w := by
 simp [loadVar, isAgg_run h, hg, hv]
omit hf hst in
theorem loadVar_agg {t : TypeId} {u : TypeDesc} {n : Nat} (h : P.underlying t = some u) (hg : isAggD u = true) (hn : size? P t = some n) {b off : Nat} {vs : List Value} (hl : vs.length = n) (hv : ∀ (i : Nat) (v : Value), vs[i]? = some v → cellAt w b (off + i) = some v) :
  (loadVar t ⟨b, off, none⟩).run P w = .ok (.agg vs.toArray) w := by
 obtain ⟨inf, hinf, hsz⟩ := Option.map_eq_some_iff.1 hn
 subst hl
 have := run_loadCells_list (P := P) w ⟨b, off, none⟩ vs (fun j v hj => by rw [add_none]; exact hv j v hj)
 simp [loadVar, isAgg_run h, hg, sizeOf, typeInfo, hinf, hsz, this]
theorem row_cells {o : Nat} {m : Meta} {sz k c0 : Nat} {xs : List (List D)} (h : RepRow c.imm w m sz k c0 xs) {b j q : Nat} {el : List D} (hb : m.blk = some b) (hj : xs[j]? = some el) {i : Nat} {d : D} (hi : el[q + i]? = some d) :
  ∃ v, cellAt w b (j * m.sz + q + i) = some v ∧ (if j < k ∧ q + i = c0 then RepN c.imm w m j d v else RepD c.imm w d v) := by
 obtain ⟨h1, _, _, _, _, _, h7⟩ := h
 obtain ⟨vs, e, hh, _, hr⟩ := h7 b hb
 obtain ⟨v, hv, hrep⟩ := hr j el (q + i) d hj hi
 refine ⟨v, ?_, hrep⟩
 unfold cellAt World.cell?
 simp only [hh]
 rw [h1, Nat.add_assoc]
 simpa using hv
omit hf hst in
theorem rep_gAV {o : Nat} {m : Meta} (hm : c.μ o = some m) {k c0 j i : Nat} {d : D} {v : Value} (h : if j < k ∧ i = c0 then RepN c.imm w m j d v else RepD c.imm w d v) : RepAV c w (gAV k c0 j i d o) v := by
 split at h
 ·rename_i hc
  obtain ⟨ys, rfl, h⟩ := h
  simp only [gAV, hc, and_self, if_true]
  rcases h with ⟨hn, rfl, A, cap, rfl⟩ | ⟨b, cap, vs, e, hn, rfl, _, hcap, _⟩
  ·exact .sub _ _ _ _ _ m hm (by simp) (fun hp => by simp at hp)
  ·exact .sub _ _ _ _ _ m hm hcap (fun _ => ⟨b, hn, rfl⟩)
 ·rename_i hc
  have : gAV k c0 j i d o = d.av .sh := by
   cases d <;> simp only [gAV]
   rw [if_neg (fun h => hc ⟨h.2, h.1⟩)]; rfl
  rw [this]
  exact rep_av (m := .sh) h
theorem y_load {o : Oper} {t : TypeId} {u : TypeDesc} {n : Nat} {x : Operand} {X' : X} {v : AV} (hu : P.underlying t = some u) (hsz : size? P t = some n) (ho : o.op = .load t x) (hx : cX x = some X')
  (hv : loadAV (isAggD u) n (getX ts X') os = some v) : Yes P o a w c v := by
 have h1 := rep_X hf hx
 generalize getX ts X' = av at h1 hv
 generalize hval : a.eval x = xv at h1
 have one : ∀ (A : Addr) (y : Value), isAggD u = false → w.cell? A = some y → xv = .pointer (some A) → RepAV c w v y → Yes P o a w c v := by
  intro A y hg hc hxv hr
  refine ⟨y, ?_, hr⟩
  subst hxv
  simp only [execOp, ho, hval, Instr.loadAt, Instr.sureAddr, Sem.run_bind, Sem.run_pure, Result.andThen_ok, loadVar_one hu hg hc]
 have many : ∀ (b off : Nat) (l : List AV) (vs : List Value), isAggD u = true → vs.length = n → (∀ (i : Nat) (y : Value), vs[i]? = some y → cellAt w b (off + i) = some y) → xv = .pointer (some ⟨b, off, none⟩) → v = .agg l → RepAVs c w l vs → Yes P o a w c v := by
  intro b off l vs hg hl hc hxv hvl hr
  refine ⟨.agg vs.toArray, ?_, by rw [hvl]; exact .agg l vs hr⟩
  subst hxv
  simp only [execOp, ho, hval, Instr.loadAt, Instr.sureAddr, Sem.run_bind, Sem.run_pure, Result.andThen_ok, loadVar_agg hu hg hsz hl hc]
 have aggD : ∀ (b off : Nat) (l : List D) (Q : Nat → D → Value → Prop) (g : Nat → D → AV), isAggD u = true → l.length = n → (∀ (i : Nat) (d : D), l[i]? = some d → ∃ y, cellAt w b (off + i) = some y ∧ Q i d y) → (∀ i d y, Q i d y → RepAV c w (g i d) y) →
   xv = .pointer (some ⟨b, off, none⟩) → v = .agg (l.mapIdx g) → Yes P o a w c v := by
  intro b off l Q g hg hl hc hq hxv hvl
  obtain ⟨vs, hvs, hall⟩ := choice (fun i d y => cellAt w b (off + i) = some y ∧ Q i d y) l 0 (fun i d hd => by simpa using hc i d hd)
  refine many b off (l.mapIdx g) vs hg (hvs.trans hl) ?_ hxv hvl (RepAVs.of_get (by simp [hvs]) ?_)
  ·intro i y hy
   have hi : i < l.length := by rw [← hvs]; exact (List.getElem?_eq_some_iff.1 hy).1
   obtain ⟨y', hy', hcell, _⟩ := hall i l[i] (List.getElem?_eq_getElem hi)
   rw [hy] at hy'; cases hy'
   simpa using hcell
  ·intro i z hz
   simp only [List.getElem?_mapIdx, Option.map_eq_some_iff] at hz
   obtain ⟨d, hd, rfl⟩ := hz
   obtain ⟨y, hy, _, hq'⟩ := hall i d hd
   exact ⟨y, hy, hq i d y (by simpa using hq')⟩
 cases av <;> simp only [loadAV, reduceCtorEq] at hv
 case ep m cs off =>
  cases h1 with
  | ep _ _ _ b ob hb hcells =>
  split at hv
  ·rename_i hg
   simp only [Option.map_eq_some_iff] at hv
   obtain ⟨l, hl, rfl⟩ := hv
   obtain ⟨hl1, hl2⟩ := cut_some hl
   refine aggD b (ob + off) l (fun _ d y => RepD (c.set m) w d y) (fun _ d => d.av m) hg hl1 (fun i d hd => ?_) (fun i d y h => rep_av h) rfl (by rw [mapIdx_const])
   have hi : i < n := by rw [← hl1]; exact (List.getElem?_eq_some_iff.1 hd).1
   obtain ⟨y, hy, hr⟩ := hcells (off + i) d (by rw [← hl2 i hi]; exact hd)
   exact ⟨y, by rw [Nat.add_assoc]; exact hy, hr⟩
  ·rename_i hg
   simp only [Option.map_eq_some_iff] at hv
   obtain ⟨d, hd, rfl⟩ := hv
   obtain ⟨y, hy, hr⟩ := hcells off d hd
   exact one _ y (by simpa using hg) hy rfl (rep_av hr)
 case ptr q off =>
  cases h1 with
  | ptr _ _ b m hm hb =>
  split at hv
  ·rename_i cs hcs
   obtain ⟨b', vs, e, hb', hh, hrs⟩ := getRow hf hst hcs (by simp) hm
   rw [hb] at hb'; cases hb'
   have hcell : ∀ i y, vs[i]? = some y → cellAt w b i = some y := by
    intro i y hy
    unfold cellAt World.cell?
    simp only [hh]
    simpa using hy
   split at hv
   ·rename_i hg
    simp only [Option.map_eq_some_iff] at hv
    obtain ⟨l, hl, rfl⟩ := hv
    obtain ⟨hl1, hl2⟩ := cut_some hl
    obtain ⟨us, hus, hall⟩ := choice (fun i d y => vs[off + i]? = some y ∧ RepAV c w d y) l 0 (fun i d hd => by
     have hi : i < n := by rw [← hl1]; exact (List.getElem?_eq_some_iff.1 hd).1
     simpa using hrs.get (off + i) d (by rw [← hl2 i hi]; exact hd))
    refine many b off l us hg (hus.trans hl1) ?_ rfl rfl (RepAVs.of_get hus.symm ?_)
    ·intro i y hy
     have hi : i < l.length := by rw [← hus]; exact (List.getElem?_eq_some_iff.1 hy).1
     obtain ⟨y', hy', h3, _⟩ := hall i l[i] (List.getElem?_eq_getElem hi)
     rw [hy] at hy'; cases hy'
     exact hcell _ _ (by simpa using h3)
    ·intro i z hz
     obtain ⟨y, hy, _, h4⟩ := hall i z hz
     exact ⟨y, hy, h4⟩
   ·rename_i hg
    obtain ⟨y, hy, hr⟩ := hrs.get off v hv
    exact one _ y (by simpa using hg) (hcell _ _ hy) rfl hr
  ·simp at hv
 case rp q j z =>
  cases h1 with
  | rp _ _ _ b m hm hb =>
  split at hv
  ·rename_i s' k c0 xs hxs
   have hrow := getRow hf hst hxs (by simp) hm
   split at hv
   ·rename_i el hel
    split at hv
    ·rename_i hg
     simp only [Option.map_eq_some_iff] at hv
     obtain ⟨l, hl, rfl⟩ := hv
     obtain ⟨hl1, hl2⟩ := cut_some hl
     refine aggD b (j * m.sz + z) l (fun i d y => if j < k ∧ z + i = c0 then RepN c.imm w m j d y else RepD c.imm w d y) (fun i d => gAV k c0 j (z + i) d q) hg hl1 (fun i d hd => ?_) (fun i d y h => rep_gAV hm h) rfl rfl
     have hi : i < n := by rw [← hl1]; exact (List.getElem?_eq_some_iff.1 hd).1
     exact row_cells (o := q) hf hst hrow hb hel (by rw [← hl2 i hi]; exact hd)
    ·rename_i hg
     simp only [Option.map_eq_some_iff] at hv
     obtain ⟨d, hd, rfl⟩ := hv
     obtain ⟨y, hy, hr⟩ := row_cells (o := q) (i := 0) hf hst hrow hb hel (q := z) (by simpa using hd)
     exact one _ y (by simpa using hg) hy rfl (rep_gAV hm (by simpa using hr))
   ·simp at hv
  ·rename_i s' xs hxs
   have hrow := (getRow hf hst hxs (by simp) hm).1
   split at hv
   ·rename_i el hel
    split at hv
    ·rename_i hg
     simp only [Option.map_eq_some_iff] at hv
     obtain ⟨l, hl, rfl⟩ := hv
     obtain ⟨hl1, hl2⟩ := cut_some hl
     refine aggD b (j * m.sz + z) l (fun i d y => RepD c.imm w d y) (fun i d => d.av .sh) hg hl1 (fun i d hd => ?_) (fun i d y h => rep_av (m := .sh) h) rfl (by rw [mapIdx_const])
     have hi : i < n := by rw [← hl1]; exact (List.getElem?_eq_some_iff.1 hd).1
     obtain ⟨y, hy, hr⟩ := row_cells (o := q) hf hst hrow hb hel (by rw [← hl2 i hi]; exact hd)
     exact ⟨y, hy, by simpa using hr⟩
    ·rename_i hg
     simp only [Option.map_eq_some_iff] at hv
     obtain ⟨d, hd, rfl⟩ := hv
     obtain ⟨y, hy, hr⟩ := row_cells (o := q) (i := 0) hf hst hrow hb hel (q := z) (by simpa using hd)
     exact one _ y (by simpa using hg) hy rfl (rep_av (m := .sh) (by show RepD c.imm w d y; simpa using hr))
   ·simp at hv
  ·simp at hv
 case subp q j i =>
  cases h1 with
  | subp _ _ _ b m hm hb =>
  split at hv
  ·rename_i s' k c0 xs hxs
   have hrow := getRow hf hst hxs (by simp) hm
   split at hv
   ·rename_i el hel
    split at hv
    ·rename_i ys hys
     split at hv
     ·simp at hv
     ·rename_i hg
      split at hv
      ·rename_i d hd
       simp at hv; subst hv
       simp only [not_or, Nat.not_le] at hg
       cases hbk : m.blk with
       | none =>
        have h5 := hrow.2.2.2.2.1 hbk
        have := hrow.2.1; have := hrow.2.2.1
        have : j < xs.length := (List.getElem?_eq_some_iff.1 hel).1
        omega
       | some b' =>
       obtain ⟨y, hy, hr⟩ := row_cells (o := q) (i := 0) hf hst hrow hbk hel (q := c0) (by simpa using hys)
       rw [if_pos ⟨hg.2, by simp⟩] at hr
       obtain ⟨ys', he, hr⟩ := hr
       cases he
       rcases hr with ⟨hn, rfl, _⟩ | ⟨b2, cap, vs, e, hn, hyv, hh, _, _, hr⟩
       ·simp at hd
       ·rw [hb] at hn; cases hn
        obtain ⟨d', y', hd', hy', hr'⟩ := hr i [d] hd
        simp at hd'; subst hd'
        refine one ⟨b, i, none⟩ y' (by simpa using hg.1) ?_ rfl (rep_av (m := .sh) hr')
        unfold World.cell?
        simp only [hh]
        simpa using hy'
      ·simp at hv
    ·simp at hv
   ·simp at hv
  ·simp at hv
end
end Go.Gn

namespace Go.Gn
open Go
theorem foldl_set (off : Nat) : ∀ (vs : List Value) (i : Nat) (cells : Array Value), off + i + vs.length ≤ cells.size →
  ((vs.zipIdx i).foldl (fun cs p => cs.setIfInBounds (off + p.2) p.1) cells).toList = splice cells.toList (off + i) vs
 | [], i, cells, _ => by simp [splice]
 | v :: vs, i, cells, h => by
  simp only [List.length_cons] at h
  rw [List.zipIdx_cons, List.foldl_cons, foldl_set off vs (i + 1) _ (by simp; omega)]
  simp only [splice, Array.toList_setIfInBounds, List.length_cons]
  apply List.ext_getElem?
  intro q
  simp only [List.getElem?_append, List.length_append, List.length_take, List.length_set, Array.length_toList, List.getElem?_take, List.getElem?_drop, List.getElem?_set, List.length_cons]
  by_cases h1 : q < off + i
  ·simp [h1, show q < off + (i + 1) by omega, show q < min (off + i) cells.size by omega, show q < min (off + i) cells.size + (vs.length + 1) by omega, show q < min (off + (i + 1)) cells.size by omega, show q < min (off + (i + 1)) cells.size + vs.length by omega, show ¬ off + i = q by omega]
  ·by_cases h2 : q = off + i
   ·subst h2
    simp [show off + i < off + (i + 1) by omega, show off + i < cells.size by omega, show min (off + i) cells.size = off + i by omega, show min (off + (i + 1)) cells.size = off + i + 1 by omega]
    intro h; omega
   ·by_cases h3 : q < off + i + (vs.length + 1)
    ·have e1 : min (off + i) cells.size = off + i := by omega
     have e2 : min (off + (i + 1)) cells.size = off + i + 1 := by omega
     simp [e1, e2, h1, show ¬ q < off + (i + 1) by omega, show ¬ q < off + i + 1 by omega, show q < off + i + 1 + vs.length by omega, h3]
     have : q - (off + i) = (q - (off + i + 1)) + 1 := by omega
     rw [this]; simp
    ·have e1 : min (off + i) cells.size = off + i := by omega
     have e2 : min (off + (i + 1)) cells.size = off + i + 1 := by omega
     simp [e1, e2, h1, h3, show ¬ q < off + i + 1 by omega, show ¬ q < off + i + 1 + vs.length by omega]
     have e3 : off + i + 1 + vs.length + (q - (off + i + 1 + vs.length)) = q := by omega
     have e4 : off + i + (vs.length + 1) + (q - (off + i + (vs.length + 1))) = q := by omega
     have e5 : off + (i + 1) + vs.length + (q - (off + i + 1 + vs.length)) = q := by omega
     simp [e3, e4, e5, show ¬ off + i = q by omega]
theorem RepAVs.append {c : Cx} {w : World} : ∀ {aS : List AV} {vs : List Value} {bs : List AV} {us : List Value}, RepAVs c w aS vs → RepAVs c w bs us → RepAVs c w (aS ++ bs) (vs ++ us)
 | _, _, _, _, .nil, h => h
 | _, _, _, _, .cons a v aS vs h hs, h' => .cons _ _ _ _ h (hs.append h')
theorem RepAVs.take {c : Cx} {w : World} : ∀ (n : Nat) {aS : List AV} {vs : List Value}, RepAVs c w aS vs → RepAVs c w (aS.take n) (vs.take n)
 | 0, _, _, _ => by simp; exact .nil
 | n + 1, _, _, .nil => by simp; exact .nil
 | n + 1, _, _, .cons a v aS vs h hs => by simp only [List.take_succ_cons]; exact .cons _ _ _ _ h (hs.take n)
theorem RepAVs.drop {c : Cx} {w : World} : ∀ (n : Nat) {aS : List AV} {vs : List Value}, RepAVs c w aS vs → RepAVs c w (aS.drop n) (vs.drop n)
 | 0, _, _, h => by simpa using h
 | n + 1, _, _, .nil => by simp; exact .nil
 | n + 1, _, _, .cons a v aS vs h hs => by simp only [List.drop_succ_cons]; exact hs.drop n
theorem RepAVs.splice {c : Cx} {w : World} {aS : List AV} {vs : List Value} {bs : List AV} {us : List Value} (h : RepAVs c w aS vs) (off : Nat) (h' : RepAVs c w bs us) : RepAVs c w (Gn.splice aS off bs) (Gn.splice vs off us) := by
 unfold Gn.splice
 rw [h'.length]
 exact ((h.take off).append h').append (h.drop _)
theorem one_rep {c : Cx} {w : World} {x : AV} {v : Value} (h : RepAV c w x v) (h1 : x.one = true) : v.oneCell' = true := by
 cases h <;> first | rfl | (simp [AV.one] at h1; done) | skip
 rename_i h; cases h <;> rfl
theorem cells_rep {c : Cx} {w : World} {x : AV} {v : Value} (h : RepAV c w x v) (h1 : x.okc = true) : RepAVs c w x.cells v.cells.toList := by
 cases h with
 | agg cs vs h => simpa [AV.cells, Value.cells] using h
 | un => simp [AV.okc, AV.one] at h1
 | top v => simp [AV.okc, AV.one] at h1
 | tup cs vs h => simp [AV.okc, AV.one] at h1
 | sl m xs v h => cases h <;> exact .cons _ _ _ _ (by constructor; constructor <;> assumption) .nil
 | int k n => exact .cons _ _ _ _ (.int _ _) .nil
 | bool b => exact .cons _ _ _ _ (.bool _) .nil
 | str s => exact .cons _ _ _ _ (.str _) .nil
 | nils => exact .cons _ _ _ _ .nils .nil
 | nilp => exact .cons _ _ _ _ .nilp .nil
 | ep m cs off b o hb h => exact .cons _ _ _ _ (.ep m cs off b o hb h) .nil
 | ptr o off b m hm hb => exact .cons _ _ _ _ (.ptr o off b m hm hb) .nil
 | rp o j q b m hm hb => exact .cons _ _ _ _ (.rp o j q b m hm hb) .nil
 | hw o m hm => exact .cons _ _ _ _ (.hw o m hm) .nil
 | hs o lo len A cap m hm hc h => exact .cons _ _ _ _ (.hs o lo len A cap m hm hc h) .nil
 | sub o j len A cap m hm hc h => exact .cons _ _ _ _ (.sub o j len A cap m hm hc h) .nil
 | subp o j i b m hm hb => exact .cons _ _ _ _ (.subp o j i b m hm hb) .nil
 | fn f caps vs h => exact .cons _ _ _ _ (.fn f caps vs h) .nil
section
variable {P : Program} {c : Cx} {w w0 : World} {nt : Nat} {ts : Ts} {a : Act} {os : List Obj} (hf : Frm c w nt ts a) (hst : Store w0 c os w)
include hf hst
theorem fill_rep (place : Nat → Option (Nat × Nat)) : ∀ (ps : List (Nat × Operand)) (qs : List (Nat × Nat × X)) (zs cs : List AV) (cells : Array Value), cParts place ps = some qs → RepAVs c w zs cells.toList → fillAV zs (qs.map fun p => (p.1, p.2.1, getX ts p.2.2)) = some cs →
  ∃ out, Instr.fill place cells (ps.map fun p => (p.1, a.eval p.2)) = some out ∧ RepAVs c w cs out.toList
 | [], qs, zs, cs, cells, hq, hz, hfl => by
  simp [cParts] at hq; subst hq
  simp [fillAV] at hfl; subst hfl
  exact ⟨cells, rfl, hz⟩
 | (i, x) :: ps, qs, zs, cs, cells, hq, hz, hfl => by
  simp only [cParts, Option.bind_eq_bind, Option.bind_eq_some_iff, Option.pure_def, Option.some.injEq] at hq
  obtain ⟨q, hpl, y, hy, l, hl, rfl⟩ := hq
  simp only [List.map_cons, fillAV] at hfl
  split at hfl
  ·rename_i hc
   obtain ⟨hok, hlen, hoff⟩ := hc
   have hr := cells_rep (rep_X hf hy) hok
   have hsz : (a.eval x).cells.size = q.2 := by have := hr.length; simp at this; omega
   have hcs : cells.size = zs.length := by have := hz.length; simp at this; omega
   obtain ⟨out, ho, hro⟩ := fill_rep place ps l (splice zs q.1 (getX ts y).cells) cs ((a.eval x).cells.zipIdx.foldl (fun cs p => cs.setIfInBounds (q.1 + p.2) p.1) cells) hl (by
    rw [← Array.foldl_toList, Array.toList_zipIdx, foldl_set q.1 _ 0 cells (by simp; omega)]
    simpa using hz.splice q.1 hr) hfl
   refine ⟨out, ?_, hro⟩
   simp only [List.map_cons, Instr.fill, hpl]
   rw [if_neg (by simp; omega)]
   exact ho
  ·simp at hfl
omit hf hst in
theorem zs_rep {t : TypeId} {zs : List AV} (h : zs? P t = some zs) : ∃ i z, P.info? t = some i ∧ i.zero = some z ∧ RepAVs c w zs z.cells.toList := by
 unfold zs? at h
 simp only [Option.bind_eq_bind, Option.bind_eq_some_iff] at h
 obtain ⟨i, hi, z, hz, h⟩ := h
 refine ⟨i, z, hi, hz, ?_⟩
 generalize z.cells.toList = l at h
 induction l generalizing zs with
 | nil => simp at h; subst h; exact .nil
 | cons v l ih =>
  simp only [List.mapM_cons, Option.bind_eq_bind, Option.bind_eq_some_iff, Option.pure_def, Option.some.injEq] at h
  obtain ⟨x, hx, r, hr, rfl⟩ := h
  exact .cons _ _ _ _ (rep_const hx) (ih hr)
theorem y_build {o : Oper} {t : TypeId} {parts : Array (Nat × Operand)} {fs : Array Field} {zs cs : List AV} {pl : List (Nat × Nat)} {ps : List (Nat × Nat × X)} (hz : zs? P t = some zs) (hu : P.underlying t = some (.struct fs))
  (hpl : fs.toList.mapM (fun f => (P.info? f.type).map fun i => (f.offset, i.size)) = some pl) (hps : cParts (pl.toArray[·]?) parts.toList = some ps) (ho : o.op = .build t parts) (hfl : fillAV zs (ps.map fun p => (p.1, p.2.1, getX ts p.2.2)) = some cs) : Yes P o a w c (.agg cs) := by
 obtain ⟨i, z, hi, hzz, hrz⟩ := zs_rep (c := c) (w := w) hz
 obtain ⟨out, hout, hro⟩ := fill_rep hf hst (pl.toArray[·]?) parts.toList ps zs cs z.cells hps hrz hfl
 refine ⟨.agg out, ?_, by have := RepAV.agg (c := c) (w := w) cs out.toList hro; simpa using this⟩
 have hb : P.built t (parts.map fun (i, x) => (i, a.eval x)).toList = some out := by
  simp only [Program.built, hi, hu, hzz, hpl]
  rw [← hout]
  simp
 simp only [execOp, ho, Sem.run_bind, run_build w t _ out hb, Result.andThen_ok, Sem.run_pure]
theorem y_len {o : Oper} {t e : TypeId} {cl : Call} {x : Operand} {X' : X} {n : Int} (hu : P.underlying t = some (.slice e)) (ho : o.op = .call cl) (hcl : cl.callee = .builtin .len) (hat : cl.argTypes[0]? = some t) (hargs : cl.args.toList = [x]) (hx : cX x = some X')
  (hn : lenAV (getX ts X') os = some n) : Yes P o a w c (.int .i64 n) := by
 have h1 := rep_X hf hx
 have hargs' : cl.args = #[x] := by cases hcl' : cl.args; simp_all
 have hval : ∃ A cap q, a.eval x = .slice A q cap ∧ n = (q : Int) := by
  generalize getX ts X' = av at h1 hn
  generalize a.eval x = vv at h1
  cases av <;> simp only [lenAV, reduceCtorEq] at hn
  case sl m xs => cases h1 with | sl _ _ _ h => cases h <;> simp at hn <;> exact ⟨_, _, _, rfl, by simp [← hn]⟩
  case nils => cases h1; simp at hn; exact ⟨_, _, _, rfl, by simp [← hn]⟩
  case hw q =>
   cases h1 with
   | hw _ m hm =>
   split at hn
   ·rename_i hx'
    have := (getRow hf hst hx' (by simp) hm).2.1
    simp at hn; exact ⟨_, _, _, rfl, by rw [this]; exact hn.symm⟩
   ·rename_i hx'
    have := (getRow hf hst hx' (by simp) hm).1.2.1
    simp at hn; exact ⟨_, _, _, rfl, by rw [this]; exact hn.symm⟩
   ·simp at hn
  case hs => cases h1; simp at hn; exact ⟨_, _, _, rfl, hn.symm⟩
  case sub => cases h1; simp at hn; exact ⟨_, _, _, rfl, hn.symm⟩
 obtain ⟨A, cap, q, hv, rfl⟩ := hval
 refine ⟨.int .i64 q, ?_, .int _ _⟩
 simp [execOp, ho, resolve, hcl, invoke, builtin, Builtin.len_, hat, hargs', hv, run_underlying hu, goInt]
theorem y_lens {o : Oper} {t : TypeId} {cl : Call} {x : Operand} {X' : X} {s : ByteArray} (hu : P.underlying t = some .string) (ho : o.op = .call cl) (hcl : cl.callee = .builtin .len) (hat : cl.argTypes[0]? = some t) (hargs : cl.args.toList = [x]) (hx : cX x = some X')
  (hn : getX ts X' = .str s) : Yes P o a w c (.int .i64 s.size) := by
 have h1 := rep_X hf hx
 rw [hn] at h1
 have hargs' : cl.args = #[x] := by cases hcl' : cl.args; simp_all
 generalize hv : a.eval x = vv at h1
 cases h1
 refine ⟨.int .i64 s.size, ?_, .int _ _⟩
 simp [execOp, ho, resolve, hcl, invoke, builtin, Builtin.len_, hat, hargs', hv, run_underlying hu, goInt]
theorem y_minmax {o : Oper} {cl : Call} {X' : List X} {v : AV} (b : Bool) (ho : o.op = .call cl) (hcl : cl.callee = .builtin (if b then .min else .max)) (hx : cl.args.toList.mapM cX = some X')
  (hn : (if b then minI else maxI) (X'.map (getX ts)) = some v) : Yes P o a w c v := by
 have h1 := rep_Xs hf hx
 generalize X'.map (getX ts) = l at h1 hn
 have hl : ∃ k k' p q, l = [.int k p, .int k' q] ∧ v = .int k (if b then (if q < p then q else p) else (if q > p then q else p)) := by
  cases b <;> simp only [if_true, Bool.false_eq_true, if_false] at hn
  ·unfold maxI at hn; split at hn <;> simp at hn; exact ⟨_, _, _, _, rfl, hn.symm⟩
  ·unfold minI at hn; split at hn <;> simp at hn; exact ⟨_, _, _, _, rfl, hn.symm⟩
 obtain ⟨k, k', p, q, rfl, rfl⟩ := hl
 generalize hm : List.map a.eval cl.args.toList = m at h1
 cases h1 with
 | cons _ v1 _ vs hr1 hs =>
 cases hs with
 | cons _ v2 _ vs' hr2 hs =>
 cases hs
 cases hr1; cases hr2
 have hargs : Array.map a.eval cl.args = #[.int k p, .int k' q] := by apply Array.ext'; simp [hm]
 refine ⟨_, ?_, .int _ _⟩
 cases b
 ·simp only [Bool.false_eq_true, if_false] at hcl ⊢
  simp [execOp, ho, resolve, hcl, invoke, builtin, Builtin.max_, Builtin.max2, hargs]
 ·simp only [if_true] at hcl ⊢
  simp [execOp, ho, resolve, hcl, invoke, builtin, Builtin.min_, Builtin.min2, hargs]
omit hf hst in
theorem bytesD_get : ∀ (ys : List (List D)) (l : List Int), bytesD ys = some l → l.length = ys.length ∧ ∀ (j : Nat) (el : List D), ys[j]? = some el → el = [.int .u8 (l.getD j 0)]
 | [], l, h => by simp [bytesD] at h; subst h; exact ⟨rfl, fun j el h => by simp at h⟩
 | el :: ys, l, h => by
  unfold bytesD at h
  split at h
  ·rename_i h'; cases h'
  ·rename_i n xs he
   cases he
   split at h
   ·rename_i r hr
    simp at h; subst h
    obtain ⟨h1, h2⟩ := bytesD_get _ _ hr
    refine ⟨by simp [h1], fun j el hj => ?_⟩
    cases j with
    | zero => simp at hj; subst hj; simp
    | succ j => have := h2 j el (by simpa using hj); simpa using this
   ·simp at h
  ·simp at h
theorem y_b2s {o : Oper} {s d e : TypeId} {x : Operand} {X' : X} {ys : List (List D)} {l : List Int} (hs : P.underlying s = some (.slice e)) (he : P.underlying e = some (.int .u8)) (hd : P.underlying d = some .string) (ho : o.op = .convert s d x) (hx : cX x = some X')
  (hv : (∃ m, getX ts X' = .sl m ys) ∨ (∃ q sz k c0, getX ts X' = .hw q ∧ os.getD q .dead = .row sz k c0 ys) ∨ (∃ q sz, getX ts X' = .hw q ∧ os.getD q .dead = .frz sz ys)) (hl : bytesD ys = some l) : Yes P o a w c (.str (strOfNums l)) := by
 have h1 := rep_X hf hx
 generalize getX ts X' = av at h1 hv
 generalize hval : a.eval x = vv at h1
 obtain ⟨hlen, hget⟩ := bytesD_get ys l hl
 have fin : (convert s d vv).run P w = .ok (.string (strOfNums l)) w → Yes P o a w c (.str (strOfNums l)) := fun h => ⟨.string (strOfNums l), by simp only [execOp, ho, hval, Sem.run_bind, h, Result.andThen_ok, Sem.run_pure], .str _⟩
 have row : ∀ (S : Nat → Prop) (b off cap : Nat), (∀ (j : Nat) (el : List D) (i : Nat) (dd : D), ys[j]? = some el → el[i]? = some dd → ∃ u, cellAt w b (off + j * el.length + i) = some u ∧ RepD S w dd u) → vv = .slice (some ⟨b, off, none⟩) ys.length cap → Yes P o a w c (.str (strOfNums l)) := by
  intro S b off cap hc hvv
  subst hvv
  refine fin (run_convert_bytes_arg (P := P) w s e hs he b off ys.length cap l hlen (fun i hi => ?_) d hd)
  have hy : ys[i]? = some (ys[i]'hi) := List.getElem?_eq_getElem hi
  have hel := hget i _ hy
  obtain ⟨u, hu, hr⟩ := hc i _ 0 (.int .u8 (l.getD i 0)) hy (by rw [hel]; rfl)
  cases hr
  rw [hel] at hu
  simpa [cellAt] using hu
 have empty : ∀ A cap, ys = [] → vv = .slice A 0 cap → Yes P o a w c (.str (strOfNums l)) := by
  intro A cap hy hvv
  subst hy
  simp [bytesD] at hl; subst hl
  subst hvv
  cases A with
  | none => exact fin ((run_convert_bytes_nil (P := P) w s e hs he 0 cap d hd).trans (by rfl))
  | some A =>
   refine fin ?_
   simp [convert, run_underlying hs, run_underlying hd, run_underlying he, Conv.bytesToString, loadCells, loadCellsFrom]
   rfl
 rcases hv with ⟨m, rfl⟩ | ⟨q, sz, k, c0, rfl, hq⟩ | ⟨q, sz, rfl, hq⟩
 ·cases h1 with
  | sl _ _ _ h =>
  cases h with
  | nil A cap => exact empty A cap rfl rfl
  | sl _ b off sz cap f hne hb hc hcell hrep =>
   exact row (c.set m) b off cap (fun j el i dd hj hi => ⟨_, by rw [(hcell j el hj).1]; exact (hcell j el hj).2 i dd hi, hrep j el i dd hj hi⟩) rfl
 ·cases h1 with
  | hw _ m hm =>
  have hr := getRow hf hst hq (by simp) hm
  have hml : m.len = ys.length := hr.2.1
  cases hbk : m.blk with
  | none =>
   have := hr.2.2.2.2.1 hbk; have := hr.2.2.1
   have : ys = [] := List.eq_nil_of_length_eq_zero (by omega)
   exact empty none m.cap this (by rw [hbk, hml, this]; rfl)
  | some b =>
   refine row c.imm b 0 m.cap (fun j el i dd hj hi => ?_) (by rw [hbk, hml]; rfl)
   obtain ⟨v, hv, hrep⟩ := row_cells (o := q) hf hst hr hbk hj (q := 0) (by simpa using hi)
   have hel := hget j el hj
   have hsz : m.sz = el.length := by rw [hr.1]; exact (hr.2.2.2.2.2.1 el (List.mem_of_getElem? hj)).symm
   rw [hsz] at hv
   refine ⟨v, by simpa using hv, ?_⟩
   split at hrep
   ·obtain ⟨ys', hd', _⟩ := hrep
    subst hd'
    rw [hel] at hi
    cases i <;> simp at hi
   ·exact hrep
 ·cases h1 with
  | hw _ m hm =>
  have hr := (getRow hf hst hq (by simp) hm).1
  have hml : m.len = ys.length := hr.2.1
  cases hbk : m.blk with
  | none =>
   have := hr.2.2.2.2.1 hbk; have := hr.2.2.1
   have : ys = [] := List.eq_nil_of_length_eq_zero (by omega)
   exact empty none m.cap this (by rw [hbk, hml, this]; rfl)
  | some b =>
   refine row c.imm b 0 m.cap (fun j el i dd hj hi => ?_) (by rw [hbk, hml]; rfl)
   obtain ⟨v, hv, hrep⟩ := row_cells (o := q) hf hst hr hbk hj (q := 0) (by simpa using hi)
   have hsz : m.sz = el.length := by rw [hr.1]; exact (hr.2.2.2.2.2.1 el (List.mem_of_getElem? hj)).symm
   rw [hsz] at hv
   exact ⟨v, by simpa using hv, by simpa using hrep⟩
end
end Go.Gn

namespace Go.Gn
open Go
def Cx.with (c : Cx) (nb : Nat) (m : Meta) : Cx := { c with μ := fun o => if o = nb then some m else c.μ o }
def plainObj : Obj → Bool
  | .box _ => true
  | .row _ 0 _ _ => true
  | _ => false
theorem Store.getD_none {w0 : World} {c : Cx} {os : List Obj} {w : World} (h : Store w0 c os w) {nb : Nat} (hnb : c.μ nb = none) : os.getD nb .dead = .dead := by
  rcases hx : os.getD nb .dead with _ | _ | _ | _
  all_goals first
    | rfl
    | (obtain ⟨m, hm, _⟩ := h.obj nb _ hx (by simp); rw [hnb] at hm; cases hm)
theorem Store.new {w0 : World} {c : Cx} {os : List Obj} {w : World} (h : Store w0 c os w) {nb : Nat} (hnb : c.μ nb = none) (vs : Array Value) (e : TypeId) (x : Obj) (m : Meta) (hm : m.blk = some w.heap.size) (hx : plainObj x = true)
    (hr : ∀ w', Ext c w (c.with nb m) w' → w'.heap[w.heap.size]? = some (.cells vs e (0, 0)) → RepObj (c.with nb m) w' m x) :
    Store w0 (c.with nb m) (setAt os nb x) { w with heap := w.heap.push (.cells vs e (0, 0)) } ∧ Ext c w (c.with nb m) { w with heap := w.heap.push (.cells vs e (0, 0)) } := by
  have hd := h.getD_none hnb
  have hown : ∀ o l b, Owns (c.with nb m).μ (setAt os nb x) o l b → (o = nb ∧ l = none ∧ b = w.heap.size) ∨ (o ≠ nb ∧ Owns c.μ os o l b) := by
    intro o l b ⟨m', hm', ho⟩
    by_cases he : o = nb
    · subst he
      left
      simp only [Cx.with, if_true] at hm'
      cases hm'
      rw [getD_setAt, if_pos rfl] at ho
      cases x with
      | box cs => cases l <;> simp at ho; exact ⟨rfl, rfl, by rw [hm] at ho; cases ho; rfl⟩
      | row sz k c0 xs =>
        cases k with
        | zero => cases l <;> simp at ho; exact ⟨rfl, rfl, by rw [hm] at ho; cases ho; rfl⟩
        | succ k => simp [plainObj] at hx
      | frz sz xs => simp [plainObj] at hx
      | dead => simp [plainObj] at hx
    · right
      simp only [Cx.with, he, if_false] at hm'
      rw [getD_setAt, if_neg (Ne.symm he)] at ho
      exact ⟨he, m', hm', ho⟩
  refine h.step (fun _ => False) ⟨rfl, rfl⟩ (fun _ hb => hb) (fun _ hb => .inl hb) (fun o m' ho => ?_) (by simp) ⟨rfl, rfl, rfl⟩ (fun b hb _ => by simp [Array.getElem?_push, Nat.ne_of_lt hb]) (fun b hb => hb.elim) (fun ext o y hy hne => ?_) ?_ ?_ (fun b hb => by have := h.immlt b hb; simp; omega) h.fixlt'
  · simp only [Cx.with]
    by_cases he : o = nb
    · subst he; rw [hnb] at ho; cases ho
    · exact ⟨m', by simp [he, ho], m'.le_refl⟩
  · by_cases he : o = nb
    · subst he
      left
      rw [getD_setAt, if_pos rfl] at hy
      subst hy
      exact ⟨m, by simp [Cx.with], hr _ ext (by simp)⟩
    · right
      rw [getD_setAt, if_neg (Ne.symm he)] at hy
      exact ⟨hy, by simp [Cx.with, he], fun _ _ _ => id⟩
  · intro o l o' l' b h1 h2
    rcases hown o l b h1 with ⟨e1, e2, e3⟩ | ⟨hne, hA⟩ <;> rcases hown o' l' _ h2 with ⟨f1, f2, f3⟩ | ⟨hne', hB⟩
    · exact ⟨e1.trans f1.symm, e2.trans f2.symm⟩
    · have := (h.lt _ _ _ hB).1; omega
    · have := (h.lt _ _ _ hA).1; omega
    · exact h.uniq _ _ _ _ _ hA hB
  · intro o l b h1
    rcases hown o l b h1 with ⟨rfl, rfl, rfl⟩ | ⟨hne, h1⟩
    · exact ⟨by simp, fun hi => absurd (h.immlt _ hi) (by omega), fun hfx => absurd (h.fixlt' _ hfx) (by omega), fun hfx => absurd (h.othlt _ hfx) (by omega)⟩
    · obtain ⟨h2, h3, h4⟩ := h.lt _ _ _ h1
      exact ⟨by simp; omega, h3, h4⟩
def Does (P : Program) (o : Oper) (a : Act) (w : World) (w0 : World) (c : Cx) (nb : Nat) (v : AV) (os' : List Obj) : Prop :=
  ∃ n w' c' v', (execOp a.eval o).run P w = .ok n w' ∧ (n = .value v' ∨ (n = .skip ∧ v' = undef)) ∧ Store w0 c' os' w' ∧ Ext c w c' w' ∧ RepAV c' w' v v' ∧ ∀ q, c'.μ q ≠ none → c.μ q ≠ none ∨ (q = nb ∧ nb < os'.length)
section
variable {P : Program} {c : Cx} {w w0 : World} {nt : Nat} {ts : Ts} {a : Act} {os : List Obj} (hf : Frm c w nt ts a) (hst : Store w0 c os w)
include hf hst
omit hf in
theorem Yes.does {o : Oper} {v : AV} (h : Yes P o a w c v) (nb : Nat) : Does P o a w w0 c nb v os := by
  obtain ⟨v', h1, h2⟩ := h
  exact ⟨_, w, c, v', h1, .inl rfl, hst, Ext.refl _ _, h2, fun q hq => .inl hq⟩
omit hf hst in
theorem with_new {c : Cx} {nb : Nat} {m : Meta} {os1 : List Obj} {x : Obj} (q : Nat) (h : (c.with nb m).μ q ≠ none) : c.μ q ≠ none ∨ (q = nb ∧ nb < (setAt os1 nb x).length) := by
  by_cases he : q = nb
  · exact .inr ⟨he, by simp [setAt]; omega⟩
  · simp only [Cx.with, he, if_false] at h; exact .inl h
theorem d_alloc {o : Oper} {e : TypeId} {zs : List AV} {nb : Nat} (hnb : c.μ nb = none) (hz : zs? P e = some zs) (ho : o.op = .alloc e) : Does P o a w w0 c nb (.ptr nb 0) (setAt os nb (.box zs)) := by
  obtain ⟨i, z, hi, hzz, hr⟩ := zs_rep (c := c) (w := w) hz
  obtain ⟨h1, h2⟩ := hst.new hnb z.cells e (.box zs) ⟨some w.heap.size, 0, 0, 0, fun _ => none⟩ rfl rfl (fun w' ext hh => ⟨w.heap.size, z.cells.toList, e, rfl, by simpa using hh, hr.mono ext⟩)
  refine ⟨_, _, _, .pointer (some ⟨w.heap.size, 0, none⟩), ?_, .inl rfl, h1, h2, .ptr nb 0 w.heap.size _ (by simp [Cx.with]; rfl) rfl, with_new⟩
  simp [execOp, ho, Instr.alloc, zeroValue, typeInfo, hi, hzz, newVar, newRow]
theorem d_box {o : Oper} {e : TypeId} {x : Operand} {X' : X} {nb : Nat} (hnb : c.μ nb = none) (hx : cX x = some X') (hok : (getX ts X').okc = true) (ho : o.op = .box e x) : Does P o a w w0 c nb (.ptr nb 0) (setAt os nb (.box (getX ts X').cells)) := by
  have hr := cells_rep (rep_X hf hx) hok
  obtain ⟨h1, h2⟩ := hst.new hnb (a.eval x).cells e (.box (getX ts X').cells) ⟨some w.heap.size, 0, 0, 0, fun _ => none⟩ rfl rfl (fun w' ext hh => ⟨w.heap.size, (a.eval x).cells.toList, e, rfl, by simpa using hh, hr.mono ext⟩)
  refine ⟨_, _, _, .pointer (some ⟨w.heap.size, 0, none⟩), ?_, .inl rfl, h1, h2, .ptr nb 0 w.heap.size _ (by simp [Cx.with]; rfl) rfl, with_new⟩
  simp [execOp, ho, Instr.box, newVar, newRow]
omit hf hst in
theorem toDs_get : ∀ {vs : List AV} {ds : List D}, toDs vs = some ds → ds.length = vs.length ∧ ∀ (i : Nat) (d : D), ds[i]? = some d → ∃ v, vs[i]? = some v ∧ v.toD = some d
  | [], ds, h => by simp [toDs] at h; subst h; exact ⟨rfl, fun i d h => by simp at h⟩
  | v :: vs, ds, h => by
    unfold toDs at h
    split at h
    · simp at h
    · rename_i d hd
      split at h
      · rename_i l hl
        simp at h; subst h
        obtain ⟨h1, h2⟩ := toDs_get hl
        refine ⟨by simp [h1], fun i x hi => ?_⟩
        cases i with
        | zero => simp at hi; subst hi; exact ⟨v, by simp, hd⟩
        | succ i => simpa using h2 i x (by simpa using hi)
      · simp at h
omit hf hst in
theorem toD_rep {x : AV} {d : D} {v : Value} (h : RepAV c w x v) (hd : x.toD = some d) : RepD c.imm w d v := by
  cases h <;> simp [AV.toD] at hd
  · subst hd; exact .int _ _
  · subst hd; exact .bool _
  · subst hd; exact .str _
  · rename_i m xs h; cases m <;> simp [AV.toD] at hd; subst hd; exact h
  · subst hd; exact .nil _ _
omit hf hst in
theorem chunks_get {α : Type} (sz : Nat) : ∀ (n : Nat) (l : List α), n * sz ≤ l.length → (chunks sz n l).length = n ∧ ∀ (j : Nat) (el : List α), (chunks sz n l)[j]? = some el → el.length = sz ∧ ∀ i, i < sz → el[i]? = l[j * sz + i]?
  | 0, l, _ => ⟨rfl, fun j el h => by simp [chunks] at h⟩
  | n + 1, l, hl => by
    have hl' : n * sz + sz ≤ l.length := by rw [Nat.add_mul] at hl; omega
    obtain ⟨h1, h2⟩ := chunks_get sz n (l.drop sz) (by simp; omega)
    refine ⟨by simp [chunks, h1], fun j el hj => ?_⟩
    cases j with
    | zero =>
      simp [chunks] at hj; subst hj
      exact ⟨by simp; omega, fun i hi => by simp [List.getElem?_take, hi]⟩
    | succ j =>
      obtain ⟨h3, h4⟩ := h2 j el (by simpa [chunks] using hj)
      refine ⟨h3, fun i hi => ?_⟩
      rw [h4 i hi, List.getElem?_drop]
      congr 1
      rw [Nat.add_mul]; omega
omit hf hst in
theorem rep_row_new {c : Cx} {w' : World} {m : Meta} {sz : Nat} {xs : List (List D)} {vs : Array Value} {e : TypeId} {b cap : Nat} (hm : m = ⟨some b, sz, xs.length, cap, fun _ => none⟩) (hc : xs.length ≤ cap) (hh : w'.heap[b]? = some (.cells vs e (0, 0))) (hsz : vs.size = cap * sz)
    (hel : ∀ el ∈ xs, el.length = sz) (hr : ∀ (j : Nat) (el : List D) (i : Nat) (d : D), xs[j]? = some el → el[i]? = some d → ∃ v, vs[j * sz + i]? = some v ∧ RepD c.imm w' d v) : RepObj c w' m (.row sz 0 0 xs) := by
  subst hm
  refine ⟨rfl, rfl, hc, ⟨Nat.zero_le _, fun _ _ _ => rfl⟩, (fun h => nomatch h), hel, fun b' hb => ?_⟩
  cases hb
  exact ⟨vs, e, hh, hsz, fun j el i d hj hi => by simpa using hr j el i d hj hi⟩
omit hf hst in
theorem flatten_rep {zs : List AV} {zv : List Value} (h : RepAVs c w zs zv) : ∀ n, RepAVs c w (List.replicate n zs).flatten (List.replicate n zv).flatten
  | 0 => .nil
  | n + 1 => by simp only [List.replicate_succ, List.flatten_cons]; exact h.append (flatten_rep h n)
omit hf hst in
theorem made_flat (z : Array Value) (n : Nat) : ((Array.range (n * z.size)).map (z[· % z.size]!)).toList = (List.replicate n z.toList).flatten := by
  apply List.ext_getElem?
  intro i
  by_cases hi : i < n * z.size
  · have hz : 0 < z.size := by rcases Nat.eq_zero_or_pos z.size with h | h; · rw [h] at hi; simp at hi
                               · exact h
    have key : ∀ (n i : Nat) (l : List Value), i < n * l.length → (List.replicate n l).flatten[i]? = l[i % l.length]? := by
      intro n
      induction n with
      | zero => intro i l h; simp at h
      | succ n ih =>
        intro i l h
        simp only [List.replicate_succ, List.flatten_cons]
        by_cases h1 : i < l.length
        · rw [List.getElem?_append_left h1, Nat.mod_eq_of_lt h1]
        · have e := ih (i - l.length) l (by rw [Nat.add_mul, Nat.one_mul] at h; omega)
          rw [List.getElem?_append_right (by omega), e, Nat.mod_eq_sub_mod (a := i) (by omega)]
    rw [key n i z.toList (by simpa using hi)]
    have hm : i % z.size < z.size := Nat.mod_lt _ hz
    simp [hi, getElem!_def, hm]
  · rw [List.getElem?_eq_none (by simp; omega), List.getElem?_eq_none (by simp; omega)]
theorem fill_parts {zs cs : List AV} {zv : Array Value} (place : Nat → Option (Nat × Nat)) {parts : List (Nat × Operand)} {ps : List (Nat × Nat × X)} (hps : cParts place parts = some ps) (hz : RepAVs c w zs zv.toList) (hfl : fillAV zs (ps.map fun p => (p.1, p.2.1, getX ts p.2.2)) = some cs) :
    ∃ out, Instr.fill place zv (parts.map fun p => (p.1, a.eval p.2)) = some out ∧ RepAVs c w cs out.toList := fill_rep hf hst place parts ps zs cs zv hps hz hfl
theorem mks_run {o : Oper} {t e : TypeId} {len sz : Nat} {parts : Array (Nat × Operand)} {zs cs : List AV} {ps : List (Nat × Nat × X)} (hu : P.underlying t = some (.slice e)) (hsz : size? P e = some sz) (hbig : ¬ len * sz > 2 ^ 24) (hz : zs? P e = some zs) (hzl : zs.length = sz) (hps : cParts (fun i => some (i * sz, sz)) parts.toList = some ps)
    (ho : o.op = .buildSlice t len parts) (hfl : fillAV ((List.replicate len zs).flatten) (ps.map fun p => (p.1, p.2.1, getX ts p.2.2)) = some cs) :
    ∃ out, (execOp a.eval o).run P w = .ok (.value (.slice (some ⟨w.heap.size, 0, none⟩) len len)) { w with heap := w.heap.push (.cells out e (0, 0)) } ∧ RepAVs c w cs out.toList := by
  obtain ⟨i, z, hi, hzz, hr⟩ := zs_rep (c := c) (w := w) hz
  have hzs : z.cells.size = sz := by have := hr.length; simp at this; omega
  have hi' : i.size = sz := by simpa [size?, hi] using hsz
  have hz0 : RepAVs c w ((List.replicate len zs).flatten) ((Array.range (len * sz)).map (fun x => (if len * sz = 0 then #[] else z.cells)[x % (if len * sz = 0 then #[] else z.cells).size]!)).toList := by
    by_cases h0 : len * sz = 0
    · rw [if_pos h0]
      have : (List.replicate len zs).flatten = [] := by
        rcases Nat.mul_eq_zero.1 h0 with h | h
        · simp [h]
        · have : zs = [] := List.eq_nil_of_length_eq_zero (by omega)
          subst this
          clear hfl hz hr hzl
          induction len with
          | zero => rfl
          | succ n ih => simp [List.replicate_succ]
      rw [this, h0]
      simp
      exact .nil
    · rw [if_neg h0]
      have := made_flat z.cells len
      rw [show len * sz = len * z.cells.size by rw [hzs], this]
      exact flatten_rep hr len
  obtain ⟨out, hout, hro⟩ := fill_parts hf hst (fun i => some (i * sz, sz)) hps hz0 hfl
  refine ⟨out, ?_, hro⟩
  by_cases h0 : len * sz = 0
  · simp only [h0, if_true] at hout
    simp [execOp, ho, Instr.buildSlice, run_underlying hu, sizeOf, typeInfo, hi, hi', hbig, h0, newRow]
    try simp at hout
    rw [hout]
    simp
  · simp only [h0, if_false] at hout
    simp [execOp, ho, Instr.buildSlice, run_underlying hu, sizeOf, typeInfo, hi, hi', hbig, h0, zeroValue, hzz, newRow]
    try simp at hout
    rw [hout]
    simp
theorem d_mks {o : Oper} {t e : TypeId} {len sz nb : Nat} {parts : Array (Nat × Operand)} {zs cs : List AV} {ps : List (Nat × Nat × X)} (hnb : c.μ nb = none) (hu : P.underlying t = some (.slice e)) (hsz : size? P e = some sz) (hbig : ¬ len * sz > 2 ^ 24) (hz : zs? P e = some zs) (hzl : zs.length = sz)
    (hps : cParts (fun i => some (i * sz, sz)) parts.toList = some ps) (ho : o.op = .buildSlice t len parts) (hfl : fillAV ((List.replicate len zs).flatten) (ps.map fun p => (p.1, p.2.1, getX ts p.2.2)) = some cs) (hcl : cs.length = len * sz) :
    (∀ ds, toDs cs = some ds → Does P o a w w0 c nb (.hw nb) (setAt os nb (.row sz 0 0 (chunks sz len ds)))) ∧ Does P o a w w0 c nb (.hs nb 0 len) (setAt os nb (.box cs)) := by
  obtain ⟨out, hrun, hro⟩ := mks_run hf hst hu hsz hbig hz hzl hps ho hfl
  have hosz : out.size = len * sz := by have := hro.length; simp at this; omega
  constructor
  · intro ds hds
    obtain ⟨hdl, hdg⟩ := toDs_get hds
    obtain ⟨hcl1, hcg⟩ := chunks_get sz len ds (by omega)
    obtain ⟨h1, h2⟩ := hst.new hnb out e (.row sz 0 0 (chunks sz len ds)) ⟨some w.heap.size, sz, (chunks sz len ds).length, len, fun _ => none⟩ rfl rfl (fun w' ext hh => by
      refine rep_row_new (c := c.with nb _) rfl (by omega) hh hosz (fun el he => by obtain ⟨j, hj⟩ := List.getElem?_of_mem he; exact (hcg j el hj).1) (fun j el i d hj hi => ?_)
      obtain ⟨g1, g2⟩ := hcg j el hj
      have hi' : i < sz := by rw [← g1]; exact (List.getElem?_eq_some_iff.1 hi).1
      rw [g2 i hi'] at hi
      obtain ⟨v, hv, hvd⟩ := hdg _ _ hi
      obtain ⟨u, hu, hur⟩ := hro.get _ _ hv
      exact ⟨u, by simpa using hu, (toD_rep (hur.mono ext) hvd)⟩)
    refine ⟨_, _, _, .slice (some ⟨w.heap.size, 0, none⟩) len len, hrun, .inl rfl, h1, h2, ?_, with_new⟩
    have := RepAV.hw (c := c.with nb ⟨some w.heap.size, sz, (chunks sz len ds).length, len, fun _ => none⟩) (w := { w with heap := w.heap.push (.cells out e (0, 0)) }) nb _ (by simp [Cx.with]; rfl)
    simpa [mk0, hcl1] using this
  · obtain ⟨h1, h2⟩ := hst.new hnb out e (.box cs) ⟨some w.heap.size, sz, 0, 0, fun _ => none⟩ rfl rfl (fun w' ext hh => ⟨w.heap.size, out.toList, e, rfl, by simpa using hh, hro.mono ext⟩)
    refine ⟨_, _, _, .slice (some ⟨w.heap.size, 0, none⟩) len len, hrun, .inl rfl, h1, h2, .hs nb 0 len _ _ _ (by simp [Cx.with]; rfl) (Nat.le_refl _) (fun _ => ⟨w.heap.size, rfl, by simp⟩), with_new⟩
theorem d_mksl {o : Oper} {t e : TypeId} {nb : Nat} {l l' : Operand} {L L' : X} {i : TypeInfo} {zs : List AV} {ds : List D} {k k' : IntKind} {n : Int} (hnb : c.μ nb = none) (hu : P.underlying t = some (.slice e)) (hi : P.info? e = some i) (hz : zs? P e = some zs) (hzl : zs.length = i.size) (hl : cX l = some L) (hl' : cX l' = some L')
    (ho : o.op = .makeSlice t l l') (hL : getX ts L = .int k n) (hL' : getX ts L' = .int k' n) (hds : toDs zs = some ds) (h0 : 0 ≤ n) (hb : n * i.bytes ≤ 140737488355328) (hn : n ≤ 9223372036854775807) :
    Does P o a w w0 c nb (.hw nb) (setAt os nb (.row i.size 0 0 (List.replicate n.toNat ds))) := by
  obtain ⟨i', z, hi', hzz, hr⟩ := zs_rep (c := c) (w := w) hz
  rw [hi] at hi'; cases hi'
  have hzs : z.cells.size = i.size := by have := hr.length; simp at this; omega
  have r1 := rep_X hf hl; rw [hL] at r1
  have r2 := rep_X hf hl'; rw [hL'] at r2
  generalize hv1 : a.eval l = v1 at r1
  generalize hv2 : a.eval l' = v2 at r2
  cases r1; cases r2
  have hw : IntKind.i64.wrap n = n := by simp [IntKind.wrap, IntKind.bits, IntKind.signed]; omega
  obtain ⟨m, rfl⟩ := Int.eq_ofNat_of_zero_le h0
  obtain ⟨hdl, hdg⟩ := toDs_get hds
  have hrun : (execOp a.eval o).run P w = .ok (.value (.slice (some ⟨w.heap.size, 0, none⟩) m m)) { w with heap := w.heap.push (.cells ((Array.range (m * i.size)).map (fun x => (if m * i.size = 0 then #[] else z.cells)[x % (if m * i.size = 0 then #[] else z.cells).size]!)) e (0, 0)) } := by
    have e1 : ¬ (281474976710656 < (i.bytes : Int) * (m : Int)) := by
      have : (i.bytes : Int) * (m : Int) = (m : Int) * i.bytes := Int.mul_comm _ _
      omega
    have e2 : ¬ ((m : Int) < 0) := by omega
    by_cases hz0 : m * i.size = 0
    · simp [execOp, ho, hv1, hv2, Instr.makeSlice, run_underlying hu, asInt, asIntOf, typeInfo, hi, hw, e1, e2, sizeOf, hz0, newRow]
    · simp [execOp, ho, hv1, hv2, Instr.makeSlice, run_underlying hu, asInt, asIntOf, typeInfo, hi, hw, e1, e2, sizeOf, hz0, newRow, zeroValue, hzz]
  generalize hV : ((Array.range (m * i.size)).map (fun x => (if m * i.size = 0 then #[] else z.cells)[x % (if m * i.size = 0 then #[] else z.cells).size]!)) = V at hrun
  have hVs : V.size = m * i.size := by rw [← hV]; simp
  have hVg : ∀ (j q : Nat) (v : Value), j < m → q < i.size → z.cells[q]? = some v → V[j * i.size + q]? = some v := by
    intro j q v hj hq hv
    have hlt : j * i.size + q < m * i.size := by
      have : (j + 1) * i.size ≤ m * i.size := Nat.mul_le_mul_right _ hj
      rw [Nat.add_mul] at this; omega
    have hne : ¬ m * i.size = 0 := by omega
    rw [← hV]
    simp only [hne, if_false, Array.getElem?_map, Array.getElem?_range, hlt, if_true, Option.map_some, hzs]
    have : (j * i.size + q) % i.size = q := by rw [Nat.mul_comm, Nat.mul_add_mod]; exact Nat.mod_eq_of_lt hq
    rw [this, getElem!_def, hv]
  obtain ⟨h1, h2⟩ := hst.new hnb V e (.row i.size 0 0 (List.replicate m ds)) ⟨some w.heap.size, i.size, (List.replicate m ds).length, m, fun _ => none⟩ rfl rfl (fun w' ext hh => by
    refine rep_row_new (c := c.with nb _) rfl (by simp) hh hVs (fun el he => by rw [List.eq_of_mem_replicate he, hdl, hzl]) (fun j el q d hj hq => ?_)
    have hjm : j < m := by have := (List.getElem?_eq_some_iff.1 hj).1; simpa using this
    have hel : el = ds := List.eq_of_mem_replicate (List.mem_of_getElem? hj)
    subst hel
    have hqs : q < i.size := by have := (List.getElem?_eq_some_iff.1 hq).1; omega
    obtain ⟨v, hv, hvd⟩ := hdg _ _ hq
    obtain ⟨u, hu', hur⟩ := hr.get _ _ hv
    exact ⟨u, hVg j q u hjm hqs (by simpa using hu'), toD_rep (hur.mono ext) hvd⟩)
  refine ⟨_, _, _, .slice (some ⟨w.heap.size, 0, none⟩) m m, hrun, .inl rfl, h1, h2, ?_, with_new⟩
  have := RepAV.hw (c := c.with nb ⟨some w.heap.size, i.size, (List.replicate m ds).length, m, fun _ => none⟩) (w := { w with heap := w.heap.push (.cells V e (0, 0)) }) nb _ (by simp [Cx.with]; rfl)
  simpa [mk0] using this
end
end Go.Gn

namespace Go.Gn
open Go
theorem Store.upd {w0 : World} {c : Cx} {os : List Obj} {w : World} (h : Store w0 c os w) {o b : Nat} {l : Option Nat} (hown : Owns c.μ os o l b) (vs : Array Value) {x : Obj}
  (hsub : ∀ l b, Owns c.μ (os.set o x) o l b → Owns c.μ os o l b) (hr : Ext c w c (w.setRow b vs) → ∃ m, c.μ o = some m ∧ RepObj c (w.setRow b vs) m x) :
  Store w0 c (os.set o x) (w.setRow b vs) ∧ Ext c w c (w.setRow b vs) := by
 have hsub' : ∀ q l b, Owns c.μ (os.set o x) q l b → Owns c.μ os q l b := by
  intro q l' b' hq
  by_cases he : o = q
  ·subst he; exact hsub _ _ hq
  ·obtain ⟨m, hm, hq⟩ := hq
   rw [getD_set, if_neg (fun hh => he hh.1)] at hq
   exact ⟨m, hm, hq⟩
 refine h.step (fun b' => b' = b) ⟨rfl, rfl⟩ (fun _ hb => hb) (fun _ hb => .inl hb) (fun _ m hm => ⟨m, hm, m.le_refl⟩) (by simp) ⟨rfl, rfl, rfl⟩ (fun b' _ hb => setRow_other w b b' vs hb) (fun b' hb => ⟨o, l, by rw [hb]; exact hown⟩) (fun e q y hy hne => ?_) (fun q l q' l' b' h1 h2 => h.uniq _ _ _ _ _ (hsub' _ _ _ h1) (hsub' _ _ _ h2))
  (fun q l b' hq => by simpa using h.lt _ _ _ (hsub' _ _ _ hq)) (fun b' hb => by simpa using h.immlt b' hb) h.fixlt'
 by_cases he : o = q
 ·subst he
  by_cases hl : o < os.length
  ·rw [getD_set, if_pos ⟨rfl, hl⟩] at hy
   subst hy
   exact .inl (hr e)
  ·obtain ⟨m, hm, ho⟩ := hown
   rw [List.getD_eq_getElem?_getD, List.getElem?_eq_none (Nat.le_of_not_lt hl)] at ho
   simp at ho
 ·right
  rw [getD_set, if_neg (fun hh => he hh.1)] at hy
  exact ⟨hy, rfl, fun l' b' hq hb => he (by subst hb; exact (h.uniq _ _ _ _ _ hown hq).1)⟩
theorem RepN.toD {imm S : Nat → Prop} {w : World} {m : Meta} {j : Nat} {d : D} {v : Value} (h : RepN imm w m j d v) (hs : ∀ b, imm b → S b) (hn : ∀ b, m.nest j = some b → S b) : RepD S w d v := by
 obtain ⟨ys, rfl, h⟩ := h
 rcases h with ⟨_, rfl, A, cap, rfl⟩ | ⟨b, cap, vs, e, hnb, rfl, hh, hc, hl, hr⟩
 ·exact .nil _ _
 ·rcases ys with _ | ⟨y, ys⟩
  ·exact .nil _ _
  ·refine .sl _ b 0 1 cap (fun j _ => vs.getD j undef) (by simp) (hn b hnb) hc (fun j el hj => ?_) (fun j el i d hj hi => ?_)
   ·obtain ⟨d', u, rfl, hu, _⟩ := hr j el hj
    refine ⟨rfl, fun i d hi => ?_⟩
    have : i = 0 := by have := (List.getElem?_eq_some_iff.1 hi).1; simp at this; omega
    subst this
    unfold cellAt World.cell?
    simp [hh, hu]
   ·obtain ⟨d', u, rfl, hu, hd⟩ := hr j el hj
    have : i = 0 := by have := (List.getElem?_eq_some_iff.1 hi).1; simp at this; omega
    subst this
    simp at hi; subst hi
    simp [hu]
    exact hd.mono (Keep.refl _ _) hs
theorem RepRow.flat {imm S : Nat → Prop} {w : World} {m : Meta} {sz k c0 : Nat} {xs : List (List D)} (h : RepRow imm w m sz k c0 xs) (hs : ∀ b, imm b → S b) (hn : ∀ j b, j < k → m.nest j = some b → S b) : RepRow S w m sz 0 sz xs := by
 obtain ⟨h1, h2, h3, h4, h5, h6, h7⟩ := h
 refine ⟨h1, h2, h3, ⟨Nat.zero_le _, fun h => absurd h (Nat.lt_irrefl _)⟩, h5, h6, fun b hb => ?_⟩
 obtain ⟨vs, e, hh, hsz, hr⟩ := h7 b hb
 refine ⟨vs, e, hh, hsz, fun j el i d hj hi => ?_⟩
 obtain ⟨v, hv, hrep⟩ := hr j el i d hj hi
 refine ⟨v, hv, ?_⟩
 rw [if_neg (by omega)]
 split at hrep
 ·rename_i hc; exact hrep.toD hs (fun b hb => hn j b hc.1 hb)
 ·exact hrep.mono (Keep.refl _ _) hs
theorem RepRow.toD {imm S : Nat → Prop} {w : World} {m : Meta} {sz k c0 : Nat} {xs : List (List D)} (h : RepRow imm w m sz k c0 xs) (hs : ∀ b, imm b → S b) (hb : ∀ b, m.blk = some b → S b) (hn : ∀ j b, j < k → m.nest j = some b → S b) :
  RepD S w (.sl xs) (.slice (m.blk.map mk0) m.len m.cap) := by
 obtain ⟨h1, h2, h3, h4, h5, h6, h7⟩ := h.flat hs hn
 rw [h2]
 cases xs with
 | nil => exact .nil _ _
 | cons x xs =>
  cases hbk : m.blk with
  | none => have := h5 hbk; simp at h2; omega
  | some b =>
   obtain ⟨vs, e, hh, hsz, hr⟩ := h7 b hbk
   refine .sl _ b 0 sz m.cap (fun j i => vs.getD (j * sz + i) undef) (by simp) (hb b hbk) (by omega) (fun j el hj => ⟨h6 el (List.mem_of_getElem? hj), fun i d hi => ?_⟩) (fun j el i d hj hi => ?_)
   ·obtain ⟨v, hv, _⟩ := hr j el i d hj hi
    unfold cellAt World.cell?
    simp [hh, hv]
   ·obtain ⟨v, hv, hd⟩ := hr j el i d hj hi
    rw [if_neg (by omega)] at hd
    simpa [hv] using hd
def Cx.ice (c : Cx) (os : List Obj) (o : Nat) : Cx := { c with imm := fun b => c.imm b ∨ ∃ l, Owns c.μ os o l b }
def freeObj : Obj → Bool
 | .frz _ _ => true
 | .dead => true
 | _ => false
theorem Owns.not_free {μ : Mu} {os : List Obj} {o : Nat} {l : Option Nat} {b : Nat} (h : Owns μ os o l b) : freeObj (os.getD o .dead) = false := by
 obtain ⟨m, hm, ho⟩ := h
 generalize os.getD o .dead = x at ho
 cases x <;> cases l <;> first | rfl | simp at ho
theorem Owns.of_set {μ : Mu} {os : List Obj} {o q : Nat} {x : Obj} {l : Option Nat} {b : Nat} (h : Owns μ (os.set o x) q l b) (hx : freeObj x = true) : q ≠ o ∧ Owns μ os q l b := by
 have hnf := h.not_free
 obtain ⟨m, hm, ho⟩ := h
 rw [getD_set] at hnf ho
 by_cases he : o = q
 ·subst he
  exfalso
  split at hnf
  ·rw [hx] at hnf; cases hnf
  ·rename_i hl
   rw [List.getD_eq_getElem?_getD, List.getElem?_eq_none (by omega)] at hnf
   simp [freeObj] at hnf
 ·rw [if_neg (fun hh => he hh.1)] at ho
  exact ⟨Ne.symm he, m, hm, ho⟩
theorem Store.freeze {w0 : World} {c : Cx} {os : List Obj} {w : World} (h : Store w0 c os w) {o : Nat} {m : Meta} (hm : c.μ o = some m) {sz k c0 : Nat} {xs : List (List D)} (hx : os.getD o .dead = .row sz k c0 xs) :
  Store w0 (c.ice os o) (os.set o (.frz sz xs)) w ∧ Ext c w (c.ice os o) w := by
 have hsub : ∀ q l b, Owns c.μ (os.set o (.frz sz xs)) q l b → q ≠ o ∧ Owns c.μ os q l b := fun q l b hq => hq.of_set rfl
 refine h.step (fun _ => False) ⟨rfl, rfl⟩ (fun _ hb => .inl hb) (fun _ hb => hb.imp id (fun ⟨l, h⟩ => ⟨o, l, h⟩)) (fun _ m hm => ⟨m, hm, m.le_refl⟩) (Nat.le_refl _) ⟨rfl, rfl, rfl⟩ (fun _ _ _ => rfl) (fun _ hb => hb.elim) (fun e q y hy hne => ?_) (fun q l q' l' b' h1 h2 => h.uniq _ _ _ _ _ (hsub _ _ _ h1).2 (hsub _ _ _ h2).2)
  (fun q l b' hq => ?_) (fun b' hb => ?_) h.fixlt'
 ·by_cases he : o = q
  ·subst he
   left
   have hl : o < os.length := by
    rcases Nat.lt_or_ge o os.length with hl | hl
    ·exact hl
    ·rw [List.getD_eq_getElem?_getD, List.getElem?_eq_none hl] at hx; simp at hx
   rw [getD_set, if_pos ⟨rfl, hl⟩] at hy
   subst hy
   obtain ⟨m', hm', hr⟩ := h.obj o _ hx (by simp)
   rw [hm] at hm'; cases hm'
   refine ⟨m, hm, RepRow.flat hr (fun b hb => .inl hb) (fun j b hj hb => .inr ⟨some j, m, hm, by rw [hx]; exact ⟨hj, hb⟩⟩), fun b hb => .inr ⟨none, m, hm, by rw [hx]; exact hb⟩⟩
  ·right
   rw [getD_set, if_neg (fun hh => he hh.1)] at hy
   exact ⟨hy, rfl, fun _ _ _ => id⟩
 ·obtain ⟨hne, ho⟩ := hsub _ _ _ hq
  obtain ⟨h1, h2, h3⟩ := h.lt _ _ _ ho
  exact ⟨h1, fun hh => hh.elim h2 (fun ⟨l', hl'⟩ => hne (h.uniq _ _ _ _ _ ho hl').1), h3⟩
 ·rcases hb with hb | ⟨l, hl⟩
  ·exact h.immlt b' hb
  ·exact (h.lt _ _ _ hl).1
structure Frz (w0 : World) (c : Cx) (os : List Obj) (w : World) (c' : Cx) (os' : List Obj) : Prop where
 st : Store w0 c' os' w
 ext : Ext c w c' w
 mu : c'.μ = c.μ
 row : ∀ o sz k c0 xs, os'.getD o .dead = .row sz k c0 xs → os.getD o .dead = .row sz k c0 xs
theorem Frz.trans {w0 : World} {c c1 c2 : Cx} {os os1 os2 : List Obj} {w : World} (h : Frz w0 c os w c1 os1) (h' : Frz w0 c1 os1 w c2 os2) : Frz w0 c os w c2 os2 :=
 ⟨h'.st, h.ext.trans h'.ext, h'.mu.trans h.mu, fun o sz k c0 xs hx => h.row o sz k c0 xs (h'.row o sz k c0 xs hx)⟩
theorem freeze_rep {w0 : World} {c : Cx} {os : List Obj} {w : World} (h : Store w0 c os w) {x : AV} {v : Value} (hr : RepAV c w x v) {d : D} {os' : List Obj} (hf : Gn.freeze x os = some (d, os')) :
  ∃ c', Frz w0 c os w c' os' ∧ RepD c'.imm w d v := by
 have rest : (x.toD.map fun d => (d, os)) = some (d, os') → ∃ c', Frz w0 c os w c' os' ∧ RepD c'.imm w d v := by
  intro hh
  simp only [Option.map_eq_some_iff] at hh
  obtain ⟨d', hd, he⟩ := hh
  cases he
  exact ⟨c, ⟨h, Ext.refl _ _, rfl, fun _ _ _ _ _ hx => hx⟩, toD_rep hr hd⟩
 cases x
 case hw o =>
  simp only [Gn.freeze] at hf
  cases hr with
  | hw _ m hm =>
  split at hf
  ·rename_i sz k c0 xs hx
   simp at hf
   obtain ⟨rfl, rfl⟩ := hf
   obtain ⟨h1, h2⟩ := h.freeze hm hx
   refine ⟨_, ⟨h1, h2, rfl, fun q sz k c0 xs hq => ?_⟩, ?_⟩
   ·rw [getD_set] at hq
    split at hq
    ·simp at hq
    ·exact hq
   ·obtain ⟨m', hm', hr⟩ := h.obj o _ hx (by simp)
    rw [hm] at hm'; cases hm'
    exact RepRow.toD hr (fun b hb => .inl hb) (fun b hb => .inr ⟨none, m, hm, by rw [hx]; exact hb⟩) (fun j b hj hb => .inr ⟨some j, m, hm, by rw [hx]; exact ⟨hj, hb⟩⟩)
  ·rename_i sz xs hx
   simp at hf
   obtain ⟨rfl, rfl⟩ := hf
   obtain ⟨m', hm', hr⟩ := h.obj o _ hx (by simp)
   rw [hm] at hm'; cases hm'
   exact ⟨c, ⟨h, Ext.refl _ _, rfl, fun _ _ _ _ _ hx => hx⟩, RepRow.toD hr.1 (fun b hb => hb) hr.2 (fun j b hj _ => absurd hj (Nat.not_lt_zero j))⟩
  ·simp at hf
 all_goals exact rest hf
theorem freezeL_rep {w0 : World} {w : World} : ∀ {cs : List AV} {vs : List Value} {c : Cx} {os : List Obj} (h : Store w0 c os w) (hr : RepAVs c w cs vs) {ds : List D} {os' : List Obj} (hf : freezeL cs os = some (ds, os')),
  ∃ c', Frz w0 c os w c' os' ∧ ds.length = cs.length ∧ ∀ (i : Nat) (d : D), ds[i]? = some d → ∃ v, vs[i]? = some v ∧ RepD c'.imm w d v
 | [], _, c, os, h, .nil, ds, os', hf => by
  simp [freezeL] at hf
  obtain ⟨rfl, rfl⟩ := hf
  exact ⟨c, ⟨h, Ext.refl _ _, rfl, fun _ _ _ _ _ hx => hx⟩, rfl, fun i d hd => by simp at hd⟩
 | x :: cs, _, c, os, h, .cons _ v _ vs h1 h2, ds, os', hf => by
  unfold freezeL at hf
  split at hf
  ·simp at hf
  ·rename_i d os1 hd
   split at hf
   ·simp at hf
   ·rename_i ds2 os2 hd2
    simp at hf
    obtain ⟨rfl, rfl⟩ := hf
    obtain ⟨c1, f1, r1⟩ := freeze_rep h h1 hd
    obtain ⟨c2, f2, hl, r2⟩ := freezeL_rep f1.st (h2.mono f1.ext) hd2
    refine ⟨c2, f1.trans f2, by simp [hl], fun i d' hi => ?_⟩
    cases i with
    | zero => simp at hi; subst hi; exact ⟨v, by simp, r1.mono (Keep.refl _ _) f2.ext.imm⟩
    | succ i => simpa using r2 i d' (by simpa using hi)
end Go.Gn

