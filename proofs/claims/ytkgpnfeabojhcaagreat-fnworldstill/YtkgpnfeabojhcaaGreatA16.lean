/- Part 16 of a proof: an evaluator of the program, proved sound, and what it answers. -/
import Derived.Test.YtkgpnfeabojhcaaGreatA10
import Derived.Test.YtkgpnfeabojhcaaGreatA12
set_option linter.all false
namespace Go.Gn
open Go
set_option maxRecDepth 100000
set_option maxHeartbeats 8000000
theorem areOps_run (os : List OpM) : areOps os = ((runM poolNew os).isSome && decide ((os.length : Int) ≤ 20)) := by
 unfold areOps; rw [run_eq os poolNew_ok]
def canAdd (os : List OpM) (o : OpM) : Bool := match runM poolNew os with
 | some p => opOk o && (!(decide ((os.length : Int) ≥ 20)) && (sDo p o).2)
 | none => false
def nodeAdd (n : NodeM) (o : OpM) : NodeM := ⟨n.up, n.term, n.leads, n.alone, n.ops ++ [o]⟩
section
variable {W : CallF} {L : LoopF} {E : EqF} {T : Prop → Bool} (h : IsK G W L E T)
include h
theorem ev_run0 (os : List OpM) (hs : OpsSz os) : ∃ a b x, W f_spec_l13Run [.agg [.hw 0, .hw 1], .sl .br (os.map opD)] [.row 2 0 2 (emptySlots.map slotD), .row 2 0 2 []] = some x ∧ Res3 (runM poolNew os).isSome a b x ∧ ∀ p', runM poolNew os = some p' → a = p'.slots.map slotD ∧ b = p'.vols.map volD :=
 ev_l13Run h keeps poolNew poolNew_ok os hs
theorem ev_l21Copy (n : NodeM) (hl : n.ops.length < 2000000) : W f_spec_l21Copy [nodeA n] [] = some (nodeW n 0, [.row 5 0 0 (n.ops.map opD)]) := by
 have es : (n.ops.map opD).map (·.map D.scrub) = n.ops.map opD := scrub_map opD (fun _ => rfl) n.ops
 have hz : szOk 5 (n.ops.map opD) = true := szOk_map opD 5 (fun _ => rfl) n.ops
 have hd : decide ((0 + ((n.ops.map opD).map (·.map D.scrub)).length) * 64 ≤ 140737488355328) = true := decide_eq_true (by rw [es, List.length_map]; omega)
 rw [h.call]
 repeat (conv=>lhs;whnf;arg 2;tactic=>first|exact hz|exact hd)
 conv => lhs; whnf
 rw [es]
 rfl
theorem ev_l21Add (n : NodeM) (hs : OpsSz n.ops) (hr0 : (runM poolNew n.ops).isSome = true) (o : OpM) (ho : o.Sz) : W f_spec_l21Add [nodeW n 0, .agg (opC o)] [opsRow n.ops] =
  some (if canAdd n.ops o then (.tup [nodeW n 1, .bool true], [.dead, opsRow (n.ops ++ [o])]) else (.tup [nodeW n 0, .bool false], [opsRow n.ops])) := by
 have hlen : ((n.ops.map opD).length : Nat) = n.ops.length := List.length_map ..
 have hoo := ev_sOpOk h o ho
 rw [sOpOk_eq] at hoo
 have hn := ev_sPoolNew h
 obtain ⟨q, hq⟩ := Option.isSome_iff_exists.mp hr0
 have hqg := poolOk_G (runM_ok n.ops poolNew_ok hq)
 obtain ⟨a, b, x, e, hr, hab⟩ := ev_run0 h n.ops hs
 obtain ⟨rfl, rfl⟩ := hab q hq
 rw [hq] at hr
 obtain ⟨y, ed, hd⟩ := ev_l12Do h q hqg o ho
 have hd' : ∃ a b z, y = z ∧ Res3 (sDo q o).2 a b z := by
  rcases hd with rfl | ⟨ys, rfl⟩ | ⟨xs, ys, rfl⟩
  ·exact ⟨_, _, _, rfl, .inl rfl⟩
  ·exact ⟨_, _, _, rfl, .inr (.inl ⟨_, rfl⟩)⟩
  ·exact ⟨_, _, _, rfl, .inr (.inr ⟨_, _, rfl⟩)⟩
 clear hd
 obtain ⟨a2, b2, _, rfl, hd⟩ := hd'
 have hf' : decide (((n.ops.map opD).length : Int) ≥ 20) = decide ((n.ops.length : Int) ≥ 20) := by rw [hlen]
 unfold canAdd
 simp only [hq]
 simp only [Option.isSome_some] at hr
 obtain ⟨up, term, leads, alone, ops⟩ := n
 rw [h.call]
 cases hop : opOk o
 ·rcases hr with rfl | ⟨ys, rfl⟩ | ⟨xs, ys, rfl⟩
  all_goals
   repeat (conv=>lhs;whnf;arg 2;tactic=>first|exact hn|exact e|exact gS|exact hoo|exact congrArg not hop)
   rfl
 ·cases hfull : decide ((ops.length : Int) ≥ 20)
  ·rw [hfull] at hf'
   cases hdo : (sDo q o).2
   ·rw [hdo] at hd
    rcases hr with rfl | ⟨ys, rfl⟩ | ⟨xs, ys, rfl⟩ <;> rcases hd with rfl | ⟨zs, rfl⟩ | ⟨ws, zs, rfl⟩
    all_goals
     repeat (conv=>lhs;whnf;arg 2;tactic=>first|exact hn|exact e|exact gS|exact hoo|exact hf'|exact ed|exact congrArg not hop)
     rfl
   ·rw [hdo] at hd
    have hcap : decide (((ops.map opD).length + (chunks 5 1 [D.int .i64 o.kind, .str o.name, .str o.to, .int .i64 o.n, .str o.text]).length) * 64 ≤ 140737488355328) = true := decide_eq_true (by
     have h0 : ¬ ((ops.length : Int) ≥ 20) := of_decide_eq_false hfull
     rw [hlen]
     show (ops.length + 1) * 64 ≤ _
     omega)
    rcases hr with rfl | ⟨ys, rfl⟩ | ⟨xs, ys, rfl⟩ <;> rcases hd with rfl | ⟨zs, rfl⟩ | ⟨ws, zs, rfl⟩
    all_goals
     repeat (conv=>lhs;whnf;arg 2;tactic=>first|exact hn|exact e|exact gS|exact hoo|exact hf'|exact ed|exact hcap|exact congrArg not hop)
     conv => lhs; whnf
     simp only [app_row]
     rfl
  ·rw [hfull] at hf'
   rcases hr with rfl | ⟨ys, rfl⟩ | ⟨xs, ys, rfl⟩
   all_goals
    repeat (conv=>lhs;whnf;arg 2;tactic=>first|exact hn|exact e|exact gS|exact hoo|exact hf'|exact congrArg not hop)
    rfl
end
end Go.Gn

