/- Part 15 of a proof: an evaluator of the program, proved sound, and what it answers. -/
import Derived.Test.YtkgpnfeabojhcaaGreatA14
set_option linter.all false
namespace Go.Gn
open Go
set_option maxRecDepth 100000
set_option maxHeartbeats 8000000
theorem OpS.sz {o : OpM} (h : OpS o) : o.Sz := ⟨by have := h.1; omega, by have := h.2.1; omega, by have := h.2.2; omega⟩
def zOp : OpM := ⟨0, noText, noText, 0, noText⟩
section
variable {W : CallF} {L : LoopF} {E : EqF} {T : Prop → Bool} (h : IsK G W L E T)
include h
theorem fits_loop (cs : List Int) (hc : ByOk cs) (pl : PoolM) (hg : PoolG pl) (hn : ∀ v ∈ pl.vols, v.name.size ≤ 10) : ∀ (m i p : Nat) (o : OpM), i + m = 8 → p < 1000000 + 40 * i → OpS o → ∃ o' p' r, OpS o' ∧ p ≤ p' ∧ p' ≤ p + 40 * m ∧
  L (norm 1 cf174.live) (exitN 1 cf174.out (evCW W L G cf174 1 c174l0)) ⟨[(0, .ptr 0 0), (3, .ptr 1 0), (4, .ptr 2 0), (5, .ptr 3 0), (6, .int .i64 (i : Nat))], [rdB cs p, boxP pl, .box (opC zOp), .box (opC o)]⟩ = some r ∧
  (r = (.ret, ⟨[(4, .ptr 1 0), (5, .ptr 2 0)], [rdB cs p', .box (opC o'), .box (opC o')]⟩) ∨ r = (.ext 0, ⟨[(4, .ptr 1 0), (5, .ptr 2 0)], [rdB cs p', .box (opC zOp), .box (opC o')]⟩))
 | 0, i, p, o, hi, hp, ho => by
  refine ⟨o, p, _, ho, by omega, by omega, ?_, .inr rfl⟩
  rw [h.loop]
  repeat (conv=>lhs;whnf;arg 2;tactic=>first|exact g1)
  rfl
 | m + 1, i, p, o, hi, hp, ho => by
  have hlen : ((pl.vols.map volD).length : Nat) = pl.vols.length := List.length_map ..
  have hvl := hg.hl
  have hok := ev_sOpOk h o ho.sz
  have hcp := ev_l11Copy h pl (by omega) (by have := hg.h8; omega) (fun v hv => by have := hg.hb v hv; omega)
  obtain ⟨y, ed, hd⟩ := ev_l12Do h pl hg o ho.sz
  have hd' : ∃ a b z, y = z ∧ Res3 (sDo pl o).2 a b z := by
   rcases hd with rfl | ⟨ys, rfl⟩ | ⟨xs, ys, rfl⟩
   ·exact ⟨_, _, _, rfl, .inl rfl⟩
   ·exact ⟨_, _, _, rfl, .inr (.inl ⟨_, rfl⟩)⟩
   ·exact ⟨_, _, _, rfl, .inr (.inr ⟨_, _, rfl⟩)⟩
  clear hd
  obtain ⟨a2, b2, _, rfl, hd⟩ := hd'
  obtain ⟨o2, p2, ho2, hp2, hp2', e2⟩ := ev_l71Op h cs hc p (by omega)
  have hws := wrap_succ (i := i) (by omega)
  have hE : (pl.vols.length = 0 ∧ decide (((pl.vols.map volD).length : Int) > 0) = false) ∨ (decide (((pl.vols.map volD).length : Int) > 0) = true ∧ ∃ u : Int, W f_spec_l6Rd_pick [.ptr 0 0, .int .i64 3] [rdB cs p2] = some (.int .i64 u, [rdB cs (p2 + 1)]) ∧
    (decide (u > 0) = false ∨ (decide (u > 0) = true ∧ ∃ (k : Nat) (v : VolM), pl.vols[k]? = some v ∧ W f_spec_l6Rd_pick [.ptr 0 0, .int .i64 ((pl.vols.map volD).length : Nat)] [rdB cs (p2 + 1)] = some (.int .i64 (k : Nat), [rdB cs (p2 + 1 + 1)])))) := by
   by_cases hz : pl.vols.length = 0
   ·exact .inl ⟨hz, decide_eq_false (by rw [hlen]; omega)⟩
   ·obtain ⟨u, eu, _⟩ := ev_pick h cs hc p2 (by omega) 3 (by omega)
    refine .inr ⟨decide_eq_true (by rw [hlen]; omega), u, eu, ?_⟩
    cases hu : decide (u > 0)
    ·exact .inl rfl
    ·obtain ⟨k, ek, k0, k1, _⟩ := ev_pick h cs hc (p2 + 1) (by omega) ((pl.vols.map volD).length : Nat) (by rw [hlen]; omega)
     have k1 := k1 (by rw [hlen]; omega)
     rw [hlen] at k1
     obtain ⟨n, rfl⟩ : ∃ n : Nat, k = n := ⟨k.toNat, by omega⟩
     obtain ⟨v, hv⟩ := get_some (xs := pl.vols) (i := n) (by omega)
     exact .inr ⟨rfl, n, v, hv, ek⟩
  cases hop : sOpOk o
  ·rcases hE with ⟨_, hz⟩ | ⟨hz, u, eu, hu | ⟨hu, k, v, hv, ek⟩⟩
   ·obtain ⟨o', p', r, g1', g2', g3', e, g⟩ := fits_loop cs hc pl hg hn m (i + 1) p2 o2 (by omega) (by omega) ho2
    refine ⟨o', p', r, g1', by omega, by omega, ?_, g⟩
    rw [← e, h.loop]
    repeat (conv=>lhs;whnf;arg 2;tactic=>first|exact g1|exact hok|exact hop|exact e2)
    conv => lhs; whnf
    rw [hws]
    rfl
   ·obtain ⟨o', p', r, g1', g2', g3', e, g⟩ := fits_loop cs hc pl hg hn m (i + 1) (p2 + 1) o2 (by omega) (by omega) ho2
    refine ⟨o', p', r, g1', by omega, by omega, ?_, g⟩
    rw [← e, h.loop]
    repeat (conv=>lhs;whnf;arg 2;tactic=>first|exact g1|exact hok|exact hop|exact e2|exact hz|exact eu|exact hu)
    conv => lhs; whnf
    rw [hws]
    rfl
   ·obtain ⟨o', p', r, g1', g2', g3', e, g⟩ := fits_loop cs hc pl hg hn m (i + 1) (p2 + 1 + 1) ⟨o2.kind, v.name, o2.to, o2.n, o2.text⟩ (by omega) (by omega) ⟨hn v (List.mem_of_getElem? hv), ho2.2⟩
    refine ⟨o', p', r, g1', by omega, by omega, ?_, g⟩
    rw [← e, h.loop]
    repeat (conv=>lhs;whnf;arg 2;tactic=>first|exact g1|exact hok|exact hop|exact e2|exact hz|exact eu|exact hu|exact map_get hv|exact ek|exact gS)
    conv => lhs; whnf
    rw [hws]
    rfl
  ·cases hdo : (sDo pl o).2
   ·rw [hdo] at hd
    rcases hE with ⟨_, hz⟩ | ⟨hz, u, eu, hu | ⟨hu, k, v, hv, ek⟩⟩
    ·obtain ⟨o', p', r, g1', g2', g3', e, g⟩ := fits_loop cs hc pl hg hn m (i + 1) p2 o2 (by omega) (by omega) ho2
     refine ⟨o', p', r, g1', by omega, by omega, ?_, g⟩
     rw [← e, h.loop]
     rcases hd with rfl | ⟨zs, rfl⟩ | ⟨ws, zs, rfl⟩
     all_goals
      repeat (conv=>lhs;whnf;arg 2;tactic=>first|exact g1|exact hok|exact hop|exact hcp|exact ed|exact e2|exact gS)
      conv => lhs; whnf
      rw [hws]
      rfl
    ·obtain ⟨o', p', r, g1', g2', g3', e, g⟩ := fits_loop cs hc pl hg hn m (i + 1) (p2 + 1) o2 (by omega) (by omega) ho2
     refine ⟨o', p', r, g1', by omega, by omega, ?_, g⟩
     rw [← e, h.loop]
     rcases hd with rfl | ⟨zs, rfl⟩ | ⟨ws, zs, rfl⟩
     all_goals
      repeat (conv=>lhs;whnf;arg 2;tactic=>first|exact g1|exact hok|exact hop|exact hcp|exact ed|exact e2|exact hz|exact eu|exact hu|exact gS)
      conv => lhs; whnf
      rw [hws]
      rfl
    ·obtain ⟨o', p', r, g1', g2', g3', e, g⟩ := fits_loop cs hc pl hg hn m (i + 1) (p2 + 1 + 1) ⟨o2.kind, v.name, o2.to, o2.n, o2.text⟩ (by omega) (by omega) ⟨hn v (List.mem_of_getElem? hv), ho2.2⟩
     refine ⟨o', p', r, g1', by omega, by omega, ?_, g⟩
     rw [← e, h.loop]
     rcases hd with rfl | ⟨zs, rfl⟩ | ⟨ws, zs, rfl⟩
     all_goals
      repeat (conv=>lhs;whnf;arg 2;tactic=>first|exact g1|exact hok|exact hop|exact hcp|exact ed|exact e2|exact hz|exact eu|exact hu|exact map_get hv|exact ek|exact gS)
      conv => lhs; whnf
      rw [hws]
      rfl
   ·rw [hdo] at hd
    refine ⟨o, p, _, ho, by omega, by omega, ?_, .inl rfl⟩
    rw [h.loop]
    rcases hd with rfl | ⟨zs, rfl⟩ | ⟨ws, zs, rfl⟩
    all_goals
     repeat (conv=>lhs;whnf;arg 2;tactic=>first|exact g1|exact hok|exact hop|exact hcp|exact ed|exact gS)
     rfl
theorem ev_l71Fits (cs : List Int) (hc : ByOk cs) (pl : PoolM) (hg : PoolG pl) (hn : ∀ v ∈ pl.vols, v.name.size ≤ 10) (p : Nat) (hp : p < 900000) : ∃ o' p', OpS o' ∧ p ≤ p' ∧ p' ≤ p + 340 ∧ W f_spec_l71Fits [.ptr 0 0, poolA pl] [rdB cs p] = some (.agg (opC o'), [rdB cs p']) := by
 obtain ⟨o, p1, ho, hp1, hp1', e1⟩ := ev_l71Op h cs hc p (by omega)
 obtain ⟨o', p', r, g1', g2', g3', e, g⟩ := fits_loop h cs hc pl hg hn 8 0 p1 o (by omega) (by omega) ho
 rw [nc0] at e
 refine ⟨o', p', g1', by omega, by omega, ?_⟩
 rw [h.call]
 rcases g with rfl | rfl
 ·repeat (conv=>lhs;whnf;arg 2;tactic=>first|exact e1|exact e)
  rfl
 ·repeat (conv=>lhs;whnf;arg 2;tactic=>first|exact e1|exact e)
  rfl
end
end Go.Gn

