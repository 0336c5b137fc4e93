/- THE STATEMENT FnWorldCalm, PROVED: for every input the law returns true and leaves its arguments as they were. No conditions. -/
import Derived.Test.YtkgpnfeabojhcaaGreatA33
import Derived.Test.YtkgpnfeabojhcaaGreatA34
import Derived.Test.YtkgpnfeabojhcaaGreatA35
set_option linter.all false
namespace Go.Proofs.YtkgpnfeabojhcaaGreat.fnWorldCalm
open Go Go.Gn Go.ChangeShapes Go.WideShapes Go.ChangeAt Go.RowKit
theorem own : ownKnob Tryz.prog.godebug = none := by kernel_rfl
theorem laidOut : laidOutB Tryz.prog = true := by kernel_rfl
theorem walk (a0 : List Int) (ha0 : BytesOk a0) (w : World) (u0 : Value) (r0 : RepAV (c1 w) w (.sl .sh (a0.map byD)) u0) :
  Calls Tryz.prog 20 #[u0] w fun e w' => e = .returned (.bool true) ∧ Below w.heap.size w w' := by
 obtain ⟨W, L, E, T, h⟩ := exists_K G
 refine (said2 h (cf := cf20) rfl rfl (ev_FnWorldCalm h a0 ha0) (.cons _ _ _ _ r0 .nil)).mono ?_
 rintro e w' ⟨v, c', rfl, hr, hb⟩
 exact ⟨congrArg _ (rep_true hr), hb⟩
set_option maxRecDepth 100000 in
theorem lifted (os : Os) (started : os.Started) (H : Type) (enc : TypeId × Value → H) :
  ReturnsInHanded {} Tryz.checked os 20 .any (Rows.fnWorldCalmSpec.pre6 enc Tryz.prog Tryz.f20 Rows.fnWorldCalmRow.domain false) (Rows.fnWorldCalmSpec.post enc Tryz.prog Tryz.f20 false true false false) := by
 refine returnsInHanded_of_change (C := Tryz.checked) own started (by kernel_rfl) Tryz.func20
  (ChangeSpec.witness6 (enc := enc) (C := Tryz.checked) false ⟨#[], #[.slice none 0 0], []⟩ 8 (by kernel_rfl) (by kernel_rfl) (by kernel_rfl) (by kernel_rfl)) ?_
 intro W base args ds gs before hval0 hW hcnd _
 have hval : ∀ (j : Nat) t v, Tryz.f20.params[j]? = some t → args[j]? = some v → Value.okWide Tryz.prog W .any base t v := hval0
 have hW' := hW
 obtain ⟨p, q, hA0, hV, rfl, hfz, hnd⟩ := hW
 have hA : DataW.TrodAll enc Tryz.prog W 0 (fun _ => true) true Tryz.f20.params.toList args.toList ds p := hA0
 rw [Tryz.params20] at hA hval
 obtain ⟨v0, vs0, d0, ds0, p0, q0, hargs, rfl, rfl, h0, r0⟩ := trodAll_cons hA
 obtain ⟨rfl, rfl, rfl⟩ := trodAll_nil r0
 obtain rfl : args = #[v0] := by cases args; simp_all
 obtain ⟨rfl, rfl⟩ := trodVars_none hV
 have k0 := h0
 have lt0 : ∀ x ∈ p0, x.block < W.heap.size := by obtain ⟨m, hm⟩ := k0; exact DataW.trod_lt m _ _ _ hm
 obtain ⟨b0, len0, cap0, rfl⟩ := okWide_slice Tryz.underlying22 (hval 0 22 v0 rfl rfl)
 obtain ⟨fuel0, hf0⟩ := h0
 obtain ⟨x0, y0, z0, s0⟩ := rd_bytes hf0
 clear hA0 hval0
 refine (walk x0 s0 W _ (rep_bytes z0)).mono fun e W' ⟨he, bel⟩ => ?_
 subst he
 exact ⟨_, rfl, _, _, _, [], _, [], hW', trodAll_mk1 (shut_bool Tryz.underlying4 _), (trodAll_cons_mk (Below.trod laidOut (by kernel_rfl) (of_decide_eq_true (by kernel_rfl)) k0 bel lt0) trodAll_mk0), rfl, bel.frame _, fun h => by cases h⟩
theorem closed : joinedFacts Tryz.prog 20 Tryz.f20 Rows.fnWorldCalmSpec Rows.fnWorldCalmRow = true := by
 unfold joinedFacts
 rw [Go.Proofs.YtkgpnfeabojhcaaGreat.enter.may, Go.Proofs.YtkgpnfeabojhcaaGreat.enter.make, Go.Proofs.YtkgpnfeabojhcaaGreat.enter.final]
 kernel_rfl
theorem proved : Rows.FnWorldCalmSaid :=
 OpenClaim.holds_of_wide 20 Tryz.f20 rfl rfl rfl rfl rfl rfl rfl ⟨rfl, rfl, rfl, rfl, rfl⟩ rfl rfl rfl rfl rfl (by kernel_rfl) Tryz.func20 closed
  (of_decide_eq_true (by kernel_rfl)) (by unfold Func.isWrapper; first | (rw [if_pos (by decide +kernel)]; kernel_rfl) | (rw [if_neg (by decide +kernel)]; exact ⟨rfl, rfl⟩))
  (fun os started H enc _ => lifted os started H enc)
end Go.Proofs.YtkgpnfeabojhcaaGreat.fnWorldCalm

#print axioms Go.Proofs.YtkgpnfeabojhcaaGreat.fnWorldCalm.proved
