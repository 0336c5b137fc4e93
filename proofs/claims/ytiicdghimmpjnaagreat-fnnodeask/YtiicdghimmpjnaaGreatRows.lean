/-
  No cell of these rows narrows 'for every input' (looked for: loops, veiled, ifaces, maps, wideKeys, modest, calm, conditions, laid).
  DERIVED. THE GIVEN ROWS OF THIS SEAT. 10 by the template 'for every input the law returns true; each argument reads behind the call as it read before'; 0 by the template 'total and deterministic' (their statements: YtiicdghimmpjnaaGreatTotals.lean).
  GIVEN WITH THE SEED: the statements are not yours to turn. If you find one false, say at which input.
  Laid BY PROGRAM, IN A SANDBOX (cutbox-rows.mjs): the forced cells as the released guide's own fill.sh prints them over the translation 9bc4579772b89214… (all of the seat's roots in one cut). By AI agents, Wed Nov 11 2026. No macro, syntax, notation, axiom, sorry.
-/
import Derived.Test.YtiicdghimmpjnaaGreatChecked
import GoSem.Claim
import GoSem.ClaimJoined
import GoSem.ClaimMapViews
import Derived.JoinedTies
import Derived.KernelRfl
namespace Go.Proofs.YtiicdghimmpjnaaGreat
/- THE CELL 'sum', in the pinned program and in every row, IS THE sha256 OF THE DUMP (.gsa) THAT YtiicdghimmpjnaaGreatProg.lean LOADS. Nothing in Lean hashes anything: it is a label: what it is worth is what the hold of that sum in a sandbox is worth. -/
noncomputable def Tryz.pinned : Pinned := { name := "ytiicdghimmpjnaagreat", sum := "9bc4579772b89214a11fd65e39e6024062f489a7023eac1a268582352516be1e", checked := Tryz.checked }
namespace Rows
def none {H : Type} : Left H := { results := [], args := [] }

/-- 'laws.FnHearLess': WHATEVER THE INPUT: true; the input reads as it did. -/
def fnHearLessSpec : ChangeSpec := { name := "fnHearLess", fn := fun _ => fun
  | [d] => { results := [.lit (.bool true)], args := [d] }
  | _ => none }
def fnHearLessRow : OpenClaim := { program := "ytiicdghimmpjnaagreat", sum := "9bc4579772b89214a11fd65e39e6024062f489a7023eac1a268582352516be1e", func := "loop.example/garner/laws.FnHearLess", spec := "fnHearLess", inPlace := ["internal/bytealg.abigen_runtime_cmpstring", "slices.overlaps[loop.example/garner/impl.Vol]"], unfollowed := true, recurses := true, apart := false }
def FnHearLessSaid : Prop := fnHearLessRow.holds Tryz.pinned (OpenSpec.ofChange fnHearLessSpec)

/-- ITS FALSE NEIGHBOUR: 'it returns false'. Refute it at one input. -/
def fnHearLessWrong : ChangeSpec := { name := "fnHearLess", fn := fun _ => fun
  | [d] => { results := [.lit (.bool false)], args := [d] }
  | _ => none }
def FnHearLessWrongFalsely : Prop := fnHearLessRow.holds Tryz.pinned (OpenSpec.ofChange fnHearLessWrong)

/-- 'laws.FnAskNot': WHATEVER THE INPUT: true; the input reads as it did. -/
def fnAskNotSpec : ChangeSpec := { name := "fnAskNot", fn := fun _ => fun
  | [d] => { results := [.lit (.bool true)], args := [d] }
  | _ => none }
def fnAskNotRow : OpenClaim := { program := "ytiicdghimmpjnaagreat", sum := "9bc4579772b89214a11fd65e39e6024062f489a7023eac1a268582352516be1e", func := "loop.example/garner/laws.FnAskNot", spec := "fnAskNot", inPlace := ["internal/bytealg.abigen_runtime_cmpstring", "slices.overlaps[loop.example/garner/impl.Vol]"], unfollowed := true, recurses := true, apart := false }
def FnAskNotSaid : Prop := fnAskNotRow.holds Tryz.pinned (OpenSpec.ofChange fnAskNotSpec)

/-- ITS FALSE NEIGHBOUR: 'it returns false'. Refute it at one input. -/
def fnAskNotWrong : ChangeSpec := { name := "fnAskNot", fn := fun _ => fun
  | [d] => { results := [.lit (.bool false)], args := [d] }
  | _ => none }
def FnAskNotWrongFalsely : Prop := fnAskNotRow.holds Tryz.pinned (OpenSpec.ofChange fnAskNotWrong)

/-- 'laws.FnNodeAskTwo': WHATEVER THE INPUT: true; the input reads as it did. -/
def fnNodeAskTwoSpec : ChangeSpec := { name := "fnNodeAskTwo", fn := fun _ => fun
  | [d1, d2] => { results := [.lit (.bool true)], args := [d1, d2] }
  | _ => none }
def fnNodeAskTwoRow : OpenClaim := { program := "ytiicdghimmpjnaagreat", sum := "9bc4579772b89214a11fd65e39e6024062f489a7023eac1a268582352516be1e", func := "loop.example/garner/laws.FnNodeAskTwo", spec := "fnNodeAskTwo", inPlace := ["internal/bytealg.abigen_runtime_cmpstring", "slices.overlaps[loop.example/garner/impl.Vol]"], unfollowed := true, recurses := true, apart := false }
def FnNodeAskTwoSaid : Prop := fnNodeAskTwoRow.holds Tryz.pinned (OpenSpec.ofChange fnNodeAskTwoSpec)

/-- ITS FALSE NEIGHBOUR: 'it returns false'. Refute it at one input. -/
def fnNodeAskTwoWrong : ChangeSpec := { name := "fnNodeAskTwo", fn := fun _ => fun
  | [d1, d2] => { results := [.lit (.bool false)], args := [d1, d2] }
  | _ => none }
def FnNodeAskTwoWrongFalsely : Prop := fnNodeAskTwoRow.holds Tryz.pinned (OpenSpec.ofChange fnNodeAskTwoWrong)

/-- 'laws.FnExactLogPool': WHATEVER THE INPUT: true; the input reads as it did. -/
def fnExactLogPoolSpec : ChangeSpec := { name := "fnExactLogPool", fn := fun _ => fun
  | [d] => { results := [.lit (.bool true)], args := [d] }
  | _ => none }
def fnExactLogPoolRow : OpenClaim := { program := "ytiicdghimmpjnaagreat", sum := "9bc4579772b89214a11fd65e39e6024062f489a7023eac1a268582352516be1e", func := "loop.example/garner/laws.FnExactLogPool", spec := "fnExactLogPool", inPlace := ["internal/bytealg.abigen_runtime_cmpstring", "slices.overlaps[loop.example/garner/impl.Vol]"], unfollowed := true, recurses := true, apart := false }
def FnExactLogPoolSaid : Prop := fnExactLogPoolRow.holds Tryz.pinned (OpenSpec.ofChange fnExactLogPoolSpec)

/-- ITS FALSE NEIGHBOUR: 'it returns false'. Refute it at one input. -/
def fnExactLogPoolWrong : ChangeSpec := { name := "fnExactLogPool", fn := fun _ => fun
  | [d] => { results := [.lit (.bool false)], args := [d] }
  | _ => none }
def FnExactLogPoolWrongFalsely : Prop := fnExactLogPoolRow.holds Tryz.pinned (OpenSpec.ofChange fnExactLogPoolWrong)

/-- 'laws.FnNodeAsk': WHATEVER THE INPUT: true; the input reads as it did. -/
def fnNodeAskSpec : ChangeSpec := { name := "fnNodeAsk", fn := fun _ => fun
  | [d] => { results := [.lit (.bool true)], args := [d] }
  | _ => none }
def fnNodeAskRow : OpenClaim := { program := "ytiicdghimmpjnaagreat", sum := "9bc4579772b89214a11fd65e39e6024062f489a7023eac1a268582352516be1e", func := "loop.example/garner/laws.FnNodeAsk", spec := "fnNodeAsk", inPlace := ["internal/bytealg.abigen_runtime_cmpstring", "slices.overlaps[loop.example/garner/impl.Vol]"], unfollowed := true, recurses := true, apart := false }
def FnNodeAskSaid : Prop := fnNodeAskRow.holds Tryz.pinned (OpenSpec.ofChange fnNodeAskSpec)

/-- ITS FALSE NEIGHBOUR: 'it returns false'. Refute it at one input. -/
def fnNodeAskWrong : ChangeSpec := { name := "fnNodeAsk", fn := fun _ => fun
  | [d] => { results := [.lit (.bool false)], args := [d] }
  | _ => none }
def FnNodeAskWrongFalsely : Prop := fnNodeAskRow.holds Tryz.pinned (OpenSpec.ofChange fnNodeAskWrong)

/-- 'laws.FnExactLogFall': WHATEVER THE INPUT: true; the input reads as it did. -/
def fnExactLogFallSpec : ChangeSpec := { name := "fnExactLogFall", fn := fun _ => fun
  | [d1, d2] => { results := [.lit (.bool true)], args := [d1, d2] }
  | _ => none }
def fnExactLogFallRow : OpenClaim := { program := "ytiicdghimmpjnaagreat", sum := "9bc4579772b89214a11fd65e39e6024062f489a7023eac1a268582352516be1e", func := "loop.example/garner/laws.FnExactLogFall", spec := "fnExactLogFall", inPlace := ["internal/bytealg.abigen_runtime_cmpstring", "slices.overlaps[loop.example/garner/impl.Vol]"], unfollowed := true, recurses := true, apart := false }
def FnExactLogFallSaid : Prop := fnExactLogFallRow.holds Tryz.pinned (OpenSpec.ofChange fnExactLogFallSpec)

/-- ITS FALSE NEIGHBOUR: 'it returns false'. Refute it at one input. -/
def fnExactLogFallWrong : ChangeSpec := { name := "fnExactLogFall", fn := fun _ => fun
  | [d1, d2] => { results := [.lit (.bool false)], args := [d1, d2] }
  | _ => none }
def FnExactLogFallWrongFalsely : Prop := fnExactLogFallRow.holds Tryz.pinned (OpenSpec.ofChange fnExactLogFallWrong)

/-- 'laws.FnExactLogKeep': WHATEVER THE INPUT: true; the input reads as it did. -/
def fnExactLogKeepSpec : ChangeSpec := { name := "fnExactLogKeep", fn := fun _ => fun
  | [d] => { results := [.lit (.bool true)], args := [d] }
  | _ => none }
def fnExactLogKeepRow : OpenClaim := { program := "ytiicdghimmpjnaagreat", sum := "9bc4579772b89214a11fd65e39e6024062f489a7023eac1a268582352516be1e", func := "loop.example/garner/laws.FnExactLogKeep", spec := "fnExactLogKeep", inPlace := ["internal/bytealg.abigen_runtime_cmpstring", "slices.overlaps[loop.example/garner/impl.Vol]"], unfollowed := true, recurses := true, apart := false }
def FnExactLogKeepSaid : Prop := fnExactLogKeepRow.holds Tryz.pinned (OpenSpec.ofChange fnExactLogKeepSpec)

/-- ITS FALSE NEIGHBOUR: 'it returns false'. Refute it at one input. -/
def fnExactLogKeepWrong : ChangeSpec := { name := "fnExactLogKeep", fn := fun _ => fun
  | [d] => { results := [.lit (.bool false)], args := [d] }
  | _ => none }
def FnExactLogKeepWrongFalsely : Prop := fnExactLogKeepRow.holds Tryz.pinned (OpenSpec.ofChange fnExactLogKeepWrong)

/-- 'laws.FnExactLogPack': WHATEVER THE INPUT: true; the input reads as it did. -/
def fnExactLogPackSpec : ChangeSpec := { name := "fnExactLogPack", fn := fun _ => fun
  | [d] => { results := [.lit (.bool true)], args := [d] }
  | _ => none }
def fnExactLogPackRow : OpenClaim := { program := "ytiicdghimmpjnaagreat", sum := "9bc4579772b89214a11fd65e39e6024062f489a7023eac1a268582352516be1e", func := "loop.example/garner/laws.FnExactLogPack", spec := "fnExactLogPack", inPlace := ["internal/bytealg.abigen_runtime_cmpstring", "slices.overlaps[loop.example/garner/impl.Vol]"], unfollowed := true, recurses := true, apart := false }
def FnExactLogPackSaid : Prop := fnExactLogPackRow.holds Tryz.pinned (OpenSpec.ofChange fnExactLogPackSpec)

/-- ITS FALSE NEIGHBOUR: 'it returns false'. Refute it at one input. -/
def fnExactLogPackWrong : ChangeSpec := { name := "fnExactLogPack", fn := fun _ => fun
  | [d] => { results := [.lit (.bool false)], args := [d] }
  | _ => none }
def FnExactLogPackWrongFalsely : Prop := fnExactLogPackRow.holds Tryz.pinned (OpenSpec.ofChange fnExactLogPackWrong)

/-- 'laws.FnExactLogAdd': WHATEVER THE INPUT: true; the input reads as it did. -/
def fnExactLogAddSpec : ChangeSpec := { name := "fnExactLogAdd", fn := fun _ => fun
  | [d1, d2] => { results := [.lit (.bool true)], args := [d1, d2] }
  | _ => none }
def fnExactLogAddRow : OpenClaim := { program := "ytiicdghimmpjnaagreat", sum := "9bc4579772b89214a11fd65e39e6024062f489a7023eac1a268582352516be1e", func := "loop.example/garner/laws.FnExactLogAdd", spec := "fnExactLogAdd", inPlace := ["internal/bytealg.abigen_runtime_cmpstring", "slices.overlaps[loop.example/garner/impl.Vol]"], unfollowed := true, recurses := true, apart := false }
def FnExactLogAddSaid : Prop := fnExactLogAddRow.holds Tryz.pinned (OpenSpec.ofChange fnExactLogAddSpec)

/-- ITS FALSE NEIGHBOUR: 'it returns false'. Refute it at one input. -/
def fnExactLogAddWrong : ChangeSpec := { name := "fnExactLogAdd", fn := fun _ => fun
  | [d1, d2] => { results := [.lit (.bool false)], args := [d1, d2] }
  | _ => none }
def FnExactLogAddWrongFalsely : Prop := fnExactLogAddRow.holds Tryz.pinned (OpenSpec.ofChange fnExactLogAddWrong)

/-- 'laws.FnWorldBad': WHATEVER THE INPUT: true; the input reads as it did. -/
def fnWorldBadSpec : ChangeSpec := { name := "fnWorldBad", fn := fun _ => fun
  | [d] => { results := [.lit (.bool true)], args := [d] }
  | _ => none }
def fnWorldBadRow : OpenClaim := { program := "ytiicdghimmpjnaagreat", sum := "9bc4579772b89214a11fd65e39e6024062f489a7023eac1a268582352516be1e", func := "loop.example/garner/laws.FnWorldBad", spec := "fnWorldBad", inPlace := ["internal/bytealg.abigen_runtime_cmpstring", "slices.overlaps[loop.example/garner/impl.Vol]"], unfollowed := true, recurses := true, apart := false }
def FnWorldBadSaid : Prop := fnWorldBadRow.holds Tryz.pinned (OpenSpec.ofChange fnWorldBadSpec)

/-- ITS FALSE NEIGHBOUR: 'it returns false'. Refute it at one input. -/
def fnWorldBadWrong : ChangeSpec := { name := "fnWorldBad", fn := fun _ => fun
  | [d] => { results := [.lit (.bool false)], args := [d] }
  | _ => none }
def FnWorldBadWrongFalsely : Prop := fnWorldBadRow.holds Tryz.pinned (OpenSpec.ofChange fnWorldBadWrong)

/- THE SECOND FORM. 'bulk': how many values and letters a reading holds, each counted each time it is reached (what is shared counts as often as it is met; a slice's spare places count too). A statement '..UptoSaid' is the law's where the arguments, and the package variables that the reading takes, are together of bulk at most 1048576: NARROWER than '..Said'. Prove '..Said' where nothing that the law and all that it calls make is longer than what came in: it says more and counts as full. Else prove '..UptoSaid'. A law counts once. -/
mutual
def uptoBulk {H : Type} : DataW H → Nat
  | .lit (.string bytes) => bytes.length + 1
  | .lit _ => 1
  | .nil => 1
  | .ptr d => uptoBulk d + 1
  | .slice elems spare => uptoBulkAll elems + uptoBulkAll spare + 1
  | .agg parts => uptoBulkAll parts + 1
  | .iface _ d => uptoBulk d + 1
  | .map entries => uptoBulkEntries entries + 1
  | .held _ => 1
def uptoBulkAll {H : Type} : List (DataW H) → Nat
  | [] => 0
  | d :: r => uptoBulk d + uptoBulkAll r
def uptoBulkEntries {H : Type} : List (Lit × DataW H) → Nat
  | [] => 0
  | x :: r => uptoBulkEntry x + uptoBulkEntries r
def uptoBulkEntry {H : Type} : Lit × DataW H → Nat
  | (.string bytes, d) => bytes.length + uptoBulk d + 1
  | (_, d) => uptoBulk d + 1
 end
def uptoSmall : (H : Type) → List (DataW H) → Bool := fun _ ds => decide (uptoBulkAll ds ≤ 1048576)
def OpenSpec.upto (s : _root_.Go.ChangeSpec) : _root_.Go.OpenSpec := { _root_.Go.OpenSpec.ofChange s with cond := some uptoSmall }

/-- 'laws.FnHearLess', WHERE WHAT IT READS IS OF BULK AT MOST 1048576: true; the input reads as it did. -/
def fnHearLessUptoRow : OpenClaim := { program := "ytiicdghimmpjnaagreat", sum := "9bc4579772b89214a11fd65e39e6024062f489a7023eac1a268582352516be1e", func := "loop.example/garner/laws.FnHearLess", spec := "fnHearLess", inPlace := ["internal/bytealg.abigen_runtime_cmpstring", "slices.overlaps[loop.example/garner/impl.Vol]"], unfollowed := true, recurses := true, apart := false, narrowed := true }
def FnHearLessUptoSaid : Prop := fnHearLessUptoRow.holds Tryz.pinned (OpenSpec.upto fnHearLessSpec)

/-- 'laws.FnAskNot', WHERE WHAT IT READS IS OF BULK AT MOST 1048576: true; the input reads as it did. -/
def fnAskNotUptoRow : OpenClaim := { program := "ytiicdghimmpjnaagreat", sum := "9bc4579772b89214a11fd65e39e6024062f489a7023eac1a268582352516be1e", func := "loop.example/garner/laws.FnAskNot", spec := "fnAskNot", inPlace := ["internal/bytealg.abigen_runtime_cmpstring", "slices.overlaps[loop.example/garner/impl.Vol]"], unfollowed := true, recurses := true, apart := false, narrowed := true }
def FnAskNotUptoSaid : Prop := fnAskNotUptoRow.holds Tryz.pinned (OpenSpec.upto fnAskNotSpec)

/-- 'laws.FnNodeAskTwo', WHERE WHAT IT READS IS OF BULK AT MOST 1048576: true; the input reads as it did. -/
def fnNodeAskTwoUptoRow : OpenClaim := { program := "ytiicdghimmpjnaagreat", sum := "9bc4579772b89214a11fd65e39e6024062f489a7023eac1a268582352516be1e", func := "loop.example/garner/laws.FnNodeAskTwo", spec := "fnNodeAskTwo", inPlace := ["internal/bytealg.abigen_runtime_cmpstring", "slices.overlaps[loop.example/garner/impl.Vol]"], unfollowed := true, recurses := true, apart := false, narrowed := true }
def FnNodeAskTwoUptoSaid : Prop := fnNodeAskTwoUptoRow.holds Tryz.pinned (OpenSpec.upto fnNodeAskTwoSpec)

/-- 'laws.FnExactLogPool', WHERE WHAT IT READS IS OF BULK AT MOST 1048576: true; the input reads as it did. -/
def fnExactLogPoolUptoRow : OpenClaim := { program := "ytiicdghimmpjnaagreat", sum := "9bc4579772b89214a11fd65e39e6024062f489a7023eac1a268582352516be1e", func := "loop.example/garner/laws.FnExactLogPool", spec := "fnExactLogPool", inPlace := ["internal/bytealg.abigen_runtime_cmpstring", "slices.overlaps[loop.example/garner/impl.Vol]"], unfollowed := true, recurses := true, apart := false, narrowed := true }
def FnExactLogPoolUptoSaid : Prop := fnExactLogPoolUptoRow.holds Tryz.pinned (OpenSpec.upto fnExactLogPoolSpec)

/-- 'laws.FnNodeAsk', WHERE WHAT IT READS IS OF BULK AT MOST 1048576: true; the input reads as it did. -/
def fnNodeAskUptoRow : OpenClaim := { program := "ytiicdghimmpjnaagreat", sum := "9bc4579772b89214a11fd65e39e6024062f489a7023eac1a268582352516be1e", func := "loop.example/garner/laws.FnNodeAsk", spec := "fnNodeAsk", inPlace := ["internal/bytealg.abigen_runtime_cmpstring", "slices.overlaps[loop.example/garner/impl.Vol]"], unfollowed := true, recurses := true, apart := false, narrowed := true }
def FnNodeAskUptoSaid : Prop := fnNodeAskUptoRow.holds Tryz.pinned (OpenSpec.upto fnNodeAskSpec)

/-- 'laws.FnExactLogFall', WHERE WHAT IT READS IS OF BULK AT MOST 1048576: true; the input reads as it did. -/
def fnExactLogFallUptoRow : OpenClaim := { program := "ytiicdghimmpjnaagreat", sum := "9bc4579772b89214a11fd65e39e6024062f489a7023eac1a268582352516be1e", func := "loop.example/garner/laws.FnExactLogFall", spec := "fnExactLogFall", inPlace := ["internal/bytealg.abigen_runtime_cmpstring", "slices.overlaps[loop.example/garner/impl.Vol]"], unfollowed := true, recurses := true, apart := false, narrowed := true }
def FnExactLogFallUptoSaid : Prop := fnExactLogFallUptoRow.holds Tryz.pinned (OpenSpec.upto fnExactLogFallSpec)

/-- 'laws.FnExactLogKeep', WHERE WHAT IT READS IS OF BULK AT MOST 1048576: true; the input reads as it did. -/
def fnExactLogKeepUptoRow : OpenClaim := { program := "ytiicdghimmpjnaagreat", sum := "9bc4579772b89214a11fd65e39e6024062f489a7023eac1a268582352516be1e", func := "loop.example/garner/laws.FnExactLogKeep", spec := "fnExactLogKeep", inPlace := ["internal/bytealg.abigen_runtime_cmpstring", "slices.overlaps[loop.example/garner/impl.Vol]"], unfollowed := true, recurses := true, apart := false, narrowed := true }
def FnExactLogKeepUptoSaid : Prop := fnExactLogKeepUptoRow.holds Tryz.pinned (OpenSpec.upto fnExactLogKeepSpec)

/-- 'laws.FnExactLogPack', WHERE WHAT IT READS IS OF BULK AT MOST 1048576: true; the input reads as it did. -/
def fnExactLogPackUptoRow : OpenClaim := { program := "ytiicdghimmpjnaagreat", sum := "9bc4579772b89214a11fd65e39e6024062f489a7023eac1a268582352516be1e", func := "loop.example/garner/laws.FnExactLogPack", spec := "fnExactLogPack", inPlace := ["internal/bytealg.abigen_runtime_cmpstring", "slices.overlaps[loop.example/garner/impl.Vol]"], unfollowed := true, recurses := true, apart := false, narrowed := true }
def FnExactLogPackUptoSaid : Prop := fnExactLogPackUptoRow.holds Tryz.pinned (OpenSpec.upto fnExactLogPackSpec)

/-- 'laws.FnExactLogAdd', WHERE WHAT IT READS IS OF BULK AT MOST 1048576: true; the input reads as it did. -/
def fnExactLogAddUptoRow : OpenClaim := { program := "ytiicdghimmpjnaagreat", sum := "9bc4579772b89214a11fd65e39e6024062f489a7023eac1a268582352516be1e", func := "loop.example/garner/laws.FnExactLogAdd", spec := "fnExactLogAdd", inPlace := ["internal/bytealg.abigen_runtime_cmpstring", "slices.overlaps[loop.example/garner/impl.Vol]"], unfollowed := true, recurses := true, apart := false, narrowed := true }
def FnExactLogAddUptoSaid : Prop := fnExactLogAddUptoRow.holds Tryz.pinned (OpenSpec.upto fnExactLogAddSpec)

/-- 'laws.FnWorldBad', WHERE WHAT IT READS IS OF BULK AT MOST 1048576: true; the input reads as it did. -/
def fnWorldBadUptoRow : OpenClaim := { program := "ytiicdghimmpjnaagreat", sum := "9bc4579772b89214a11fd65e39e6024062f489a7023eac1a268582352516be1e", func := "loop.example/garner/laws.FnWorldBad", spec := "fnWorldBad", inPlace := ["internal/bytealg.abigen_runtime_cmpstring", "slices.overlaps[loop.example/garner/impl.Vol]"], unfollowed := true, recurses := true, apart := false, narrowed := true }
def FnWorldBadUptoSaid : Prop := fnWorldBadUptoRow.holds Tryz.pinned (OpenSpec.upto fnWorldBadSpec)

end Rows
end Go.Proofs.YtiicdghimmpjnaaGreat
