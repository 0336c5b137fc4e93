/- Part 13 of a proof: an evaluator of the program, proved sound, and what it answers. -/
import Derived.Test.YtkgpnfeabojhcaaGreatA12
set_option linter.all false
namespace Go.Gn
open Go
set_option maxRecDepth 100000
set_option maxHeartbeats 4000000
def byD (n : Int) : List D := [.int .u8 n]
def ByOk (cs : List Int) : Prop := cs.length ≤ 2000 ∧ ∀ b ∈ cs, 0 ≤ b ∧ b ≤ 255
def rdB (cs : List Int) (p : Nat) : Obj := .box [.sl .sh (cs.map byD), .int .i64 (p : Nat)]
theorem xor_nn {a b : Int} (ha : 0 ≤ a) (ha2 : a < 9223372036854775808) (hb : 0 ≤ b) (hb2 : b < 9223372036854775808) : 0 ≤ IntKind.i64.wrap (BitVec.ofInt IntKind.i64.bits a ^^^ BitVec.ofInt IntKind.i64.bits b).toNat := by
 have h1 : (BitVec.ofInt IntKind.i64.bits a ^^^ BitVec.ofInt IntKind.i64.bits b).toNat < 2 ^ 63 := by
  rw [BitVec.toNat_xor]
  apply Nat.xor_lt_two_pow
  ·rw [BitVec.toNat_ofInt]
   show (a % (2 ^ 64 : Nat)).toNat < _
   omega
  ·rw [BitVec.toNat_ofInt]
   show (b % (2 ^ 64 : Nat)).toNat < _
   omega
 rw [wrap_id (by omega) (by omega)]
 omega
theorem xkey (X : Int) (h1 : 0 ≤ X) (h2 : X < 4611686018427387904) : 0 ≤ IntKind.i64.wrap (BitVec.ofInt IntKind.i64.bits X ^^^ BitVec.ofInt IntKind.i64.bits (IntKind.i64.wrap (X.tdiv 64))).toNat := by
 have h3 : X.tdiv 64 = X / 64 := Int.tdiv_eq_ediv_of_nonneg h1
 rw [h3, wrap_id (n := X / 64) (by omega) (by omega)]
 exact xor_nn h1 (by omega) (by omega) (by omega)
theorem bin_rem {k : IntKind} {a b : Int} (hb : b ≠ 0) : binAV .rem (.int k a) (.int k b) = some (.int k (a.tmod b)) := by simp [binAV, binI, hb]
theorem bin_quo {k : IntKind} {a b : Int} (hb : b ≠ 0) : binAV .quo (.int k a) (.int k b) = some (.int k (k.wrap (a.tdiv b))) := by simp [binAV, binI, hb]
section
variable {W : CallF} {L : LoopF} {E : EqF} {T : Prop → Bool} (h : IsK G W L E T)
include h
theorem ev_pick (cs : List Int) (hc : ByOk cs) (p : Nat) (hp : p < 1000000000) (n : Int) (hn : n < 1000000) : ∃ v, W f_spec_l6Rd_pick [.ptr 0 0, .int .i64 n] [rdB cs p] = some (.int .i64 v, [rdB cs (p + 1)]) ∧ 0 ≤ v ∧ (1 ≤ n → v < n) ∧ (n < 1 → v = 0) := by
 have hw := wrap_succ (i := p) (by omega)
 have hpe : rdB cs (p + 1) = .box [.sl .sh (cs.map byD), .int .i64 (IntKind.i64.wrap ((p : Nat) + 1))] := by rw [hw]; rfl
 have hlen : ((cs.map byD).length : Nat) = cs.length := List.length_map ..
 cases hn1 : decide (n < 1)
 ·have hn1' : ¬ n < 1 := of_decide_eq_false hn1
  cases hz : (((cs.map byD).length : Int) == 0)
  ·have hz' : cs.length ≠ 0 := by rw [hlen] at hz; simpa using hz
   by_cases hlt : p < cs.length
   ·obtain ⟨b, hb⟩ := get_some (xs := cs) (i := p) hlt
    have hbb := hc.2 b (List.mem_of_getElem? hb)
    have hwp : IntKind.i64.wrap (IntKind.i64.wrap ((p : Nat) + 1) - 1) = (p : Nat) := by rw [hw, wrap_id (by omega) (by omega)]; omega
    refine ⟨b.tmod n, ?_, ?_, ?_, ?_⟩
    ·rw [hpe, h.call]
     have hwb : IntKind.i64.wrap b = b := wrap_id (by omega) (by omega)
     repeat (conv=>lhs;whnf;arg 2;tactic=>first|exact g1|exact hwp|exact map_get hb|exact bin_rem (by omega))
     conv => lhs; whnf
     rw [hwb]
    ·exact Int.tmod_nonneg _ hbb.1
    ·intro _; exact Int.tmod_lt_of_pos _ (by omega)
    ·intro h1; omega
   ·have hL : 0 < cs.length := by omega
    obtain ⟨b1, hb1⟩ := get_some (xs := cs) (i := p % cs.length) (Nat.mod_lt _ hL)
    obtain ⟨b2, hb2⟩ := get_some (xs := cs) (i := (p * 7 + 3) % cs.length) (Nat.mod_lt _ hL)
    have hbb1 := hc.2 b1 (List.mem_of_getElem? hb1)
    have hbb2 := hc.2 b2 (List.mem_of_getElem? hb2)
    have hwp : IntKind.i64.wrap (IntKind.i64.wrap ((p : Nat) + 1) - 1) = (p : Nat) := by rw [hw, wrap_id (by omega) (by omega)]; omega
    have w7 : IntKind.i64.wrap ((p : Int) * 7) = ((p * 7 : Nat) : Int) := by rw [wrap_id (by omega) (by omega)]; omega
    have w73 : IntKind.i64.wrap (((p * 7 : Nat) : Int) + 3) = ((p * 7 + 3 : Nat) : Int) := by rw [wrap_id (by omega) (by omega)]; omega
    have t1 : (IntKind.i64.wrap (IntKind.i64.wrap ((p : Nat) + 1) - 1)).tmod ((cs.map byD).length : Nat) = ((p % cs.length : Nat) : Int) := by rw [hwp, hlen]; rfl
    have t2 : (IntKind.i64.wrap (IntKind.i64.wrap (IntKind.i64.wrap (IntKind.i64.wrap ((p : Nat) + 1) - 1) * 7) + 3)).tmod ((cs.map byD).length : Nat) = (((p * 7 + 3) % cs.length : Nat) : Int) := by rw [hwp, w7, w73, hlen]; rfl
    have hX : 0 ≤ IntKind.i64.wrap (IntKind.i64.wrap (IntKind.i64.wrap (IntKind.i64.wrap (IntKind.i64.wrap b1 * 131) + IntKind.i64.wrap (IntKind.i64.wrap b2 * 1117)) + IntKind.i64.wrap (IntKind.i64.wrap (IntKind.i64.wrap ((p : Nat) + 1) - 1) * 29)) + IntKind.i64.wrap (IntKind.i64.wrap ((IntKind.i64.wrap (IntKind.i64.wrap ((p : Nat) + 1) - 1)).tdiv ((cs.map byD).length : Nat)) * 53)) ∧
      IntKind.i64.wrap (IntKind.i64.wrap (IntKind.i64.wrap (IntKind.i64.wrap (IntKind.i64.wrap b1 * 131) + IntKind.i64.wrap (IntKind.i64.wrap b2 * 1117)) + IntKind.i64.wrap (IntKind.i64.wrap (IntKind.i64.wrap ((p : Nat) + 1) - 1) * 29)) + IntKind.i64.wrap (IntKind.i64.wrap ((IntKind.i64.wrap (IntKind.i64.wrap ((p : Nat) + 1) - 1)).tdiv ((cs.map byD).length : Nat)) * 53)) < 4611686018427387904 := by
     rw [hwp, hlen, show ((p : Nat) : Int).tdiv (cs.length : Nat) = ((p / cs.length : Nat) : Int) from rfl]
     have hQ : p / cs.length ≤ p := Nat.div_le_self _ _
     generalize p / cs.length = Q at hQ
     rw [wrap_id (n := b1) (by omega) (by omega), wrap_id (n := b2) (by omega) (by omega), wrap_id (n := b1 * 131) (by omega) (by omega), wrap_id (n := b2 * 1117) (by omega) (by omega), wrap_id (n := b1 * 131 + b2 * 1117) (by omega) (by omega), wrap_id (n := (p : Int) * 29) (by omega) (by omega), wrap_id (n := b1 * 131 + b2 * 1117 + (p : Int) * 29) (by omega) (by omega), wrap_id (n := (Q : Int)) (by omega) (by omega), wrap_id (n := (Q : Int) * 53) (by omega) (by omega), wrap_id (by omega) (by omega)]
     omega
    refine ⟨?_, ?_, ?_, ?_, ?_⟩
    rotate_left
    ·rw [hpe, h.call]
     repeat (conv=>lhs;whnf;arg 2;tactic=>first|exact g1|exact t1|exact t2|exact map_get hb1|exact map_get hb2|exact bin_rem (by omega)|exact bin_quo (by omega))
     conv => lhs; whnf
    ·exact Int.tmod_nonneg _ (xkey _ hX.1 hX.2)
    ·intro _; exact Int.tmod_lt_of_pos _ (by omega)
    ·intro h1; omega
  ·refine ⟨0, ?_, by omega, fun _ => by omega, fun _ => rfl⟩
   rw [hpe, h.call]
   repeat (conv=>lhs;whnf;arg 2;tactic=>first|exact g1|exact hz)
   rfl
 ·refine ⟨0, ?_, by omega, fun h1 => by have := of_decide_eq_true hn1; omega, fun _ => rfl⟩
  rw [hpe, h.call]
  repeat (conv=>lhs;whnf;arg 2;tactic=>first|exact hn1)
  rfl
end
end Go.Gn

