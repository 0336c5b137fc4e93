/- THE STATEMENT FnWorldStill, PROVED: for every input the law returns true and leaves its arguments as they were. No conditions. -/
import Derived.Test.YtkgpnfeabojhcaaGreatA33
import Derived.Test.YtkgpnfeabojhcaaGreatA34
import Derived.Test.YtkgpnfeabojhcaaGreatA35
set_option linter.all false
namespace Go.Proofs.YtkgpnfeabojhcaaGreat.fnWorldStill
open Go Go.Gn Go.ChangeShapes Go.WideShapes Go.ChangeAt Go.RowKit
theorem own : ownKnob Tryz.prog.godebug = none := by kernel_rfl
theorem laidOut : laidOutB Tryz.prog = true := by kernel_rfl
theorem walk (a0 : List Int) (ha0 : BytesOk a0) (a1 : List Int) (ha1 : BytesOk a1) (w : World) (u0 : Value) (u1 : Value) (r0 : RepAV (c1 w) w (.sl .sh (a0.map byD)) u0) (r1 : RepAV (c1 w) w (.sl .sh (a1.map byD)) u1) :
  Calls Tryz.prog 21 #[u0, u1] w fun e w' => e = .returned (.bool true) ∧ Below w.heap.size w w' := by
 obtain ⟨W, L, E, T, h⟩ := exists_K G
 refine (said2 h (cf := cf21) rfl rfl (ev_FnWorldStill h a0 ha0 a1 ha1) (.cons _ _ _ _ r0 (.cons _ _ _ _ r1 .nil))).mono ?_
 rintro e w' ⟨v, c', rfl, hr, hb⟩
 exact ⟨congrArg _ (rep_true hr), hb⟩
set_option maxRecDepth 100000 in
theorem lifted (os : Os) (started : os.Started) (H : Type) (enc : TypeId × Value → H) :
  ReturnsInHanded {} Tryz.checked os 21 .any (Rows.fnWorldStillSpec.pre6 enc Tryz.prog Tryz.f21 Rows.fnWorldStillRow.domain false) (Rows.fnWorldStillSpec.post enc Tryz.prog Tryz.f21 false true false false) := by
 refine returnsInHanded_of_change (C := Tryz.checked) own started (by kernel_rfl) Tryz.func21
  (ChangeSpec.witness6 (enc := enc) (C := Tryz.checked) false ⟨#[], #[.slice none 0 0, .slice none 0 0], []⟩ 8 (by kernel_rfl) (by kernel_rfl) (by kernel_rfl) (by kernel_rfl)) ?_
 intro W base args ds gs before hval0 hW hcnd _
 have hval : ∀ (j : Nat) t v, Tryz.f21.params[j]? = some t → args[j]? = some v → Value.okWide Tryz.prog W .any base t v := hval0
 have hW' := hW
 obtain ⟨p, q, hA0, hV, rfl, hfz, hnd⟩ := hW
 have hA : DataW.TrodAll enc Tryz.prog W 0 (fun _ => true) true Tryz.f21.params.toList args.toList ds p := hA0
 rw [Tryz.params21] at hA hval
 obtain ⟨v0, vs0, d0, ds0, p0, q0, hargs, rfl, rfl, h0, r0⟩ := trodAll_cons hA
 obtain ⟨v1, vs1, d1, ds1, p1, q1, rfl, rfl, rfl, h1, r1⟩ := trodAll_cons r0
 obtain ⟨rfl, rfl, rfl⟩ := trodAll_nil r1
 obtain rfl : args = #[v0, v1] := by cases args; simp_all
 obtain ⟨rfl, rfl⟩ := trodVars_none hV
 have k0 := h0
 have lt0 : ∀ x ∈ p0, x.block < W.heap.size := by obtain ⟨m, hm⟩ := k0; exact DataW.trod_lt m _ _ _ hm
 obtain ⟨b0, len0, cap0, rfl⟩ := okWide_slice Tryz.underlying22 (hval 0 22 v0 rfl rfl)
 obtain ⟨fuel0, hf0⟩ := h0
 obtain ⟨x0, y0, z0, s0⟩ := rd_bytes hf0
 have k1 := h1
 have lt1 : ∀ x ∈ p1, x.block < W.heap.size := by obtain ⟨m, hm⟩ := k1; exact DataW.trod_lt m _ _ _ hm
 obtain ⟨b1, len1, cap1, rfl⟩ := okWide_slice Tryz.underlying22 (hval 1 22 v1 rfl rfl)
 obtain ⟨fuel1, hf1⟩ := h1
 obtain ⟨x1, y1, z1, s1⟩ := rd_bytes hf1
 clear hA0 hval0
 refine (walk x0 s0 x1 s1 W _ _ (rep_bytes z0) (rep_bytes z1)).mono fun e W' ⟨he, bel⟩ => ?_
 subst he
 exact ⟨_, rfl, _, _, _, [], _, [], hW', trodAll_mk1 (shut_bool Tryz.underlying4 _), (trodAll_cons_mk (Below.trod laidOut (by kernel_rfl) (of_decide_eq_true (by kernel_rfl)) k0 bel lt0) (trodAll_cons_mk (Below.trod laidOut (by kernel_rfl) (of_decide_eq_true (by kernel_rfl)) k1 bel lt1) trodAll_mk0)), rfl, bel.frame _, fun h => by cases h⟩
theorem closed : joinedFacts Tryz.prog 21 Tryz.f21 Rows.fnWorldStillSpec Rows.fnWorldStillRow = true := by
 unfold joinedFacts
 rw [Go.Proofs.YtkgpnfeabojhcaaGreat.enter.may, Go.Proofs.YtkgpnfeabojhcaaGreat.enter.make, Go.Proofs.YtkgpnfeabojhcaaGreat.enter.final]
 kernel_rfl
theorem proved : Rows.FnWorldStillSaid :=
 OpenClaim.holds_of_wide 21 Tryz.f21 rfl rfl rfl rfl rfl rfl rfl ⟨rfl, rfl, rfl, rfl, rfl⟩ rfl rfl rfl rfl rfl (by kernel_rfl) Tryz.func21 closed
  (of_decide_eq_true (by kernel_rfl)) (by unfold Func.isWrapper; first | (rw [if_pos (by decide +kernel)]; kernel_rfl) | (rw [if_neg (by decide +kernel)]; exact ⟨rfl, rfl⟩))
  (fun os started H enc _ => lifted os started H enc)
end Go.Proofs.YtkgpnfeabojhcaaGreat.fnWorldStill

#print axioms Go.Proofs.YtkgpnfeabojhcaaGreat.fnWorldStill.proved
