/-
  No cell of these rows narrows 'for every input' (looked for: loops, veiled, ifaces, maps, wideKeys, modest, calm, conditions, laid).
  DERIVED. THE GIVEN ROWS OF THIS SEAT. 30 by the template 'for every input the law returns true; each argument reads behind the call as it read before'; 0 by the template 'total and deterministic' (their statements: YtkgpnfeabojhcaaGreatTotals.lean).
  GIVEN WITH THE SEED: the statements are not yours to turn. If you find one false, say at which input.
  Laid BY PROGRAM, IN A SANDBOX (cutbox-rows.mjs): the forced cells as the released guide's own fill.sh prints them over the translation f283307855cbb370… (all of the seat's roots in one cut). By AI agents, Wed Nov 11 2026. No macro, syntax, notation, axiom, sorry.
-/
import Derived.Test.YtkgpnfeabojhcaaGreatChecked
import GoSem.Claim
import GoSem.ClaimJoined
import GoSem.ClaimMapViews
import Derived.JoinedTies
import Derived.KernelRfl
namespace Go.Proofs.YtkgpnfeabojhcaaGreat
/- THE CELL 'sum', in the pinned program and in every row, IS THE sha256 OF THE DUMP (.gsa) THAT YtkgpnfeabojhcaaGreatProg.lean LOADS. Nothing in Lean hashes anything: it is a label: what it is worth is what the hold of that sum in a sandbox is worth. -/
noncomputable def Tryz.pinned : Pinned := { name := "ytkgpnfeabojhcaagreat", sum := "f283307855cbb370a2dc5c5aea2297300a9a1604806d5d4fe226bbdf6e218715", checked := Tryz.checked }
namespace Rows
def none {H : Type} : Left H := { results := [], args := [] }

/-- 'laws.FnWorldAlone': WHATEVER THE INPUT: true; the input reads as it did. -/
def fnWorldAloneSpec : ChangeSpec := { name := "fnWorldAlone", fn := fun _ => fun
  | [d] => { results := [.lit (.bool true)], args := [d] }
  | _ => none }
def fnWorldAloneRow : OpenClaim := { program := "ytkgpnfeabojhcaagreat", sum := "f283307855cbb370a2dc5c5aea2297300a9a1604806d5d4fe226bbdf6e218715", func := "loop.example/garner/laws.FnWorldAlone", spec := "fnWorldAlone", inPlace := ["internal/bytealg.abigen_runtime_cmpstring", "slices.overlaps[loop.example/garner/impl.Vol]"], unfollowed := true, recurses := true, apart := false }
def FnWorldAloneSaid : Prop := fnWorldAloneRow.holds Tryz.pinned (OpenSpec.ofChange fnWorldAloneSpec)

/-- ITS FALSE NEIGHBOUR: 'it returns false'. Refute it at one input. -/
def fnWorldAloneWrong : ChangeSpec := { name := "fnWorldAlone", fn := fun _ => fun
  | [d] => { results := [.lit (.bool false)], args := [d] }
  | _ => none }
def FnWorldAloneWrongFalsely : Prop := fnWorldAloneRow.holds Tryz.pinned (OpenSpec.ofChange fnWorldAloneWrong)

/-- 'laws.FnWorldDeaf': WHATEVER THE INPUT: true; the input reads as it did. -/
def fnWorldDeafSpec : ChangeSpec := { name := "fnWorldDeaf", fn := fun _ => fun
  | [d] => { results := [.lit (.bool true)], args := [d] }
  | _ => none }
def fnWorldDeafRow : OpenClaim := { program := "ytkgpnfeabojhcaagreat", sum := "f283307855cbb370a2dc5c5aea2297300a9a1604806d5d4fe226bbdf6e218715", func := "loop.example/garner/laws.FnWorldDeaf", spec := "fnWorldDeaf", inPlace := ["internal/bytealg.abigen_runtime_cmpstring", "slices.overlaps[loop.example/garner/impl.Vol]"], unfollowed := true, recurses := true, apart := false }
def FnWorldDeafSaid : Prop := fnWorldDeafRow.holds Tryz.pinned (OpenSpec.ofChange fnWorldDeafSpec)

/-- ITS FALSE NEIGHBOUR: 'it returns false'. Refute it at one input. -/
def fnWorldDeafWrong : ChangeSpec := { name := "fnWorldDeaf", fn := fun _ => fun
  | [d] => { results := [.lit (.bool false)], args := [d] }
  | _ => none }
def FnWorldDeafWrongFalsely : Prop := fnWorldDeafRow.holds Tryz.pinned (OpenSpec.ofChange fnWorldDeafWrong)

/-- 'laws.FnWorldNets': WHATEVER THE INPUT: true; the input reads as it did. -/
def fnWorldNetsSpec : ChangeSpec := { name := "fnWorldNets", fn := fun _ => fun
  | [d] => { results := [.lit (.bool true)], args := [d] }
  | _ => none }
def fnWorldNetsRow : OpenClaim := { program := "ytkgpnfeabojhcaagreat", sum := "f283307855cbb370a2dc5c5aea2297300a9a1604806d5d4fe226bbdf6e218715", func := "loop.example/garner/laws.FnWorldNets", spec := "fnWorldNets", inPlace := ["internal/bytealg.abigen_runtime_cmpstring", "slices.overlaps[loop.example/garner/impl.Vol]"], unfollowed := true, recurses := true, apart := false }
def FnWorldNetsSaid : Prop := fnWorldNetsRow.holds Tryz.pinned (OpenSpec.ofChange fnWorldNetsSpec)

/-- ITS FALSE NEIGHBOUR: 'it returns false'. Refute it at one input. -/
def fnWorldNetsWrong : ChangeSpec := { name := "fnWorldNets", fn := fun _ => fun
  | [d] => { results := [.lit (.bool false)], args := [d] }
  | _ => none }
def FnWorldNetsWrongFalsely : Prop := fnWorldNetsRow.holds Tryz.pinned (OpenSpec.ofChange fnWorldNetsWrong)

/-- 'laws.FnWorldOne': WHATEVER THE INPUT: true; the input reads as it did. -/
def fnWorldOneSpec : ChangeSpec := { name := "fnWorldOne", fn := fun _ => fun
  | [d] => { results := [.lit (.bool true)], args := [d] }
  | _ => none }
def fnWorldOneRow : OpenClaim := { program := "ytkgpnfeabojhcaagreat", sum := "f283307855cbb370a2dc5c5aea2297300a9a1604806d5d4fe226bbdf6e218715", func := "loop.example/garner/laws.FnWorldOne", spec := "fnWorldOne", inPlace := ["internal/bytealg.abigen_runtime_cmpstring", "slices.overlaps[loop.example/garner/impl.Vol]"], unfollowed := true, recurses := true, apart := false }
def FnWorldOneSaid : Prop := fnWorldOneRow.holds Tryz.pinned (OpenSpec.ofChange fnWorldOneSpec)

/-- ITS FALSE NEIGHBOUR: 'it returns false'. Refute it at one input. -/
def fnWorldOneWrong : ChangeSpec := { name := "fnWorldOne", fn := fun _ => fun
  | [d] => { results := [.lit (.bool false)], args := [d] }
  | _ => none }
def FnWorldOneWrongFalsely : Prop := fnWorldOneRow.holds Tryz.pinned (OpenSpec.ofChange fnWorldOneWrong)

/-- 'laws.FnWorldBoth': WHATEVER THE INPUT: true; the input reads as it did. -/
def fnWorldBothSpec : ChangeSpec := { name := "fnWorldBoth", fn := fun _ => fun
  | [d] => { results := [.lit (.bool true)], args := [d] }
  | _ => none }
def fnWorldBothRow : OpenClaim := { program := "ytkgpnfeabojhcaagreat", sum := "f283307855cbb370a2dc5c5aea2297300a9a1604806d5d4fe226bbdf6e218715", func := "loop.example/garner/laws.FnWorldBoth", spec := "fnWorldBoth", inPlace := ["internal/bytealg.abigen_runtime_cmpstring", "slices.overlaps[loop.example/garner/impl.Vol]"], unfollowed := true, recurses := true, apart := false }
def FnWorldBothSaid : Prop := fnWorldBothRow.holds Tryz.pinned (OpenSpec.ofChange fnWorldBothSpec)

/-- ITS FALSE NEIGHBOUR: 'it returns false'. Refute it at one input. -/
def fnWorldBothWrong : ChangeSpec := { name := "fnWorldBoth", fn := fun _ => fun
  | [d] => { results := [.lit (.bool false)], args := [d] }
  | _ => none }
def FnWorldBothWrongFalsely : Prop := fnWorldBothRow.holds Tryz.pinned (OpenSpec.ofChange fnWorldBothWrong)

/-- 'laws.FnWorldLetters': WHATEVER THE INPUT: true; the input reads as it did. -/
def fnWorldLettersSpec : ChangeSpec := { name := "fnWorldLetters", fn := fun _ => fun
  | [d] => { results := [.lit (.bool true)], args := [d] }
  | _ => none }
def fnWorldLettersRow : OpenClaim := { program := "ytkgpnfeabojhcaagreat", sum := "f283307855cbb370a2dc5c5aea2297300a9a1604806d5d4fe226bbdf6e218715", func := "loop.example/garner/laws.FnWorldLetters", spec := "fnWorldLetters", inPlace := ["internal/bytealg.abigen_runtime_cmpstring", "slices.overlaps[loop.example/garner/impl.Vol]"], unfollowed := true, recurses := true, apart := false }
def FnWorldLettersSaid : Prop := fnWorldLettersRow.holds Tryz.pinned (OpenSpec.ofChange fnWorldLettersSpec)

/-- ITS FALSE NEIGHBOUR: 'it returns false'. Refute it at one input. -/
def fnWorldLettersWrong : ChangeSpec := { name := "fnWorldLetters", fn := fun _ => fun
  | [d] => { results := [.lit (.bool false)], args := [d] }
  | _ => none }
def FnWorldLettersWrongFalsely : Prop := fnWorldLettersRow.holds Tryz.pinned (OpenSpec.ofChange fnWorldLettersWrong)

/-- 'laws.FnWorldTold': WHATEVER THE INPUT: true; the input reads as it did. -/
def fnWorldToldSpec : ChangeSpec := { name := "fnWorldTold", fn := fun _ => fun
  | [d1, d2] => { results := [.lit (.bool true)], args := [d1, d2] }
  | _ => none }
def fnWorldToldRow : OpenClaim := { program := "ytkgpnfeabojhcaagreat", sum := "f283307855cbb370a2dc5c5aea2297300a9a1604806d5d4fe226bbdf6e218715", func := "loop.example/garner/laws.FnWorldTold", spec := "fnWorldTold", inPlace := ["internal/bytealg.abigen_runtime_cmpstring", "slices.overlaps[loop.example/garner/impl.Vol]"], unfollowed := true, recurses := true, apart := false }
def FnWorldToldSaid : Prop := fnWorldToldRow.holds Tryz.pinned (OpenSpec.ofChange fnWorldToldSpec)

/-- ITS FALSE NEIGHBOUR: 'it returns false'. Refute it at one input. -/
def fnWorldToldWrong : ChangeSpec := { name := "fnWorldTold", fn := fun _ => fun
  | [d1, d2] => { results := [.lit (.bool false)], args := [d1, d2] }
  | _ => none }
def FnWorldToldWrongFalsely : Prop := fnWorldToldRow.holds Tryz.pinned (OpenSpec.ofChange fnWorldToldWrong)

/-- 'laws.FnWorldDoing': WHATEVER THE INPUT: true; the input reads as it did. -/
def fnWorldDoingSpec : ChangeSpec := { name := "fnWorldDoing", fn := fun _ => fun
  | [d] => { results := [.lit (.bool true)], args := [d] }
  | _ => none }
def fnWorldDoingRow : OpenClaim := { program := "ytkgpnfeabojhcaagreat", sum := "f283307855cbb370a2dc5c5aea2297300a9a1604806d5d4fe226bbdf6e218715", func := "loop.example/garner/laws.FnWorldDoing", spec := "fnWorldDoing", inPlace := ["internal/bytealg.abigen_runtime_cmpstring", "slices.overlaps[loop.example/garner/impl.Vol]"], unfollowed := true, recurses := true, apart := false }
def FnWorldDoingSaid : Prop := fnWorldDoingRow.holds Tryz.pinned (OpenSpec.ofChange fnWorldDoingSpec)

/-- ITS FALSE NEIGHBOUR: 'it returns false'. Refute it at one input. -/
def fnWorldDoingWrong : ChangeSpec := { name := "fnWorldDoing", fn := fun _ => fun
  | [d] => { results := [.lit (.bool false)], args := [d] }
  | _ => none }
def FnWorldDoingWrongFalsely : Prop := fnWorldDoingRow.holds Tryz.pinned (OpenSpec.ofChange fnWorldDoingWrong)

/-- 'laws.FnWorldOrder': WHATEVER THE INPUT: true; the input reads as it did. -/
def fnWorldOrderSpec : ChangeSpec := { name := "fnWorldOrder", fn := fun _ => fun
  | [d1, d2] => { results := [.lit (.bool true)], args := [d1, d2] }
  | _ => none }
def fnWorldOrderRow : OpenClaim := { program := "ytkgpnfeabojhcaagreat", sum := "f283307855cbb370a2dc5c5aea2297300a9a1604806d5d4fe226bbdf6e218715", func := "loop.example/garner/laws.FnWorldOrder", spec := "fnWorldOrder", inPlace := ["internal/bytealg.abigen_runtime_cmpstring", "slices.overlaps[loop.example/garner/impl.Vol]"], unfollowed := true, recurses := true, apart := false }
def FnWorldOrderSaid : Prop := fnWorldOrderRow.holds Tryz.pinned (OpenSpec.ofChange fnWorldOrderSpec)

/-- ITS FALSE NEIGHBOUR: 'it returns false'. Refute it at one input. -/
def fnWorldOrderWrong : ChangeSpec := { name := "fnWorldOrder", fn := fun _ => fun
  | [d1, d2] => { results := [.lit (.bool false)], args := [d1, d2] }
  | _ => none }
def FnWorldOrderWrongFalsely : Prop := fnWorldOrderRow.holds Tryz.pinned (OpenSpec.ofChange fnWorldOrderWrong)

/-- 'laws.FnWorldReads': WHATEVER THE INPUT: true; the input reads as it did. -/
def fnWorldReadsSpec : ChangeSpec := { name := "fnWorldReads", fn := fun _ => fun
  | [d] => { results := [.lit (.bool true)], args := [d] }
  | _ => none }
def fnWorldReadsRow : OpenClaim := { program := "ytkgpnfeabojhcaagreat", sum := "f283307855cbb370a2dc5c5aea2297300a9a1604806d5d4fe226bbdf6e218715", func := "loop.example/garner/laws.FnWorldReads", spec := "fnWorldReads", inPlace := ["internal/bytealg.abigen_runtime_cmpstring", "slices.overlaps[loop.example/garner/impl.Vol]"], unfollowed := true, recurses := true, apart := false }
def FnWorldReadsSaid : Prop := fnWorldReadsRow.holds Tryz.pinned (OpenSpec.ofChange fnWorldReadsSpec)

/-- ITS FALSE NEIGHBOUR: 'it returns false'. Refute it at one input. -/
def fnWorldReadsWrong : ChangeSpec := { name := "fnWorldReads", fn := fun _ => fun
  | [d] => { results := [.lit (.bool false)], args := [d] }
  | _ => none }
def FnWorldReadsWrongFalsely : Prop := fnWorldReadsRow.holds Tryz.pinned (OpenSpec.ofChange fnWorldReadsWrong)

/-- 'laws.FnWorldSafe': WHATEVER THE INPUT: true; the input reads as it did. -/
def fnWorldSafeSpec : ChangeSpec := { name := "fnWorldSafe", fn := fun _ => fun
  | [d] => { results := [.lit (.bool true)], args := [d] }
  | _ => none }
def fnWorldSafeRow : OpenClaim := { program := "ytkgpnfeabojhcaagreat", sum := "f283307855cbb370a2dc5c5aea2297300a9a1604806d5d4fe226bbdf6e218715", func := "loop.example/garner/laws.FnWorldSafe", spec := "fnWorldSafe", inPlace := ["internal/bytealg.abigen_runtime_cmpstring", "slices.overlaps[loop.example/garner/impl.Vol]"], unfollowed := true, recurses := true, apart := false }
def FnWorldSafeSaid : Prop := fnWorldSafeRow.holds Tryz.pinned (OpenSpec.ofChange fnWorldSafeSpec)

/-- ITS FALSE NEIGHBOUR: 'it returns false'. Refute it at one input. -/
def fnWorldSafeWrong : ChangeSpec := { name := "fnWorldSafe", fn := fun _ => fun
  | [d] => { results := [.lit (.bool false)], args := [d] }
  | _ => none }
def FnWorldSafeWrongFalsely : Prop := fnWorldSafeRow.holds Tryz.pinned (OpenSpec.ofChange fnWorldSafeWrong)

/-- 'laws.FnWorldAsk': WHATEVER THE INPUT: true; the input reads as it did. -/
def fnWorldAskSpec : ChangeSpec := { name := "fnWorldAsk", fn := fun _ => fun
  | [d1, d2] => { results := [.lit (.bool true)], args := [d1, d2] }
  | _ => none }
def fnWorldAskRow : OpenClaim := { program := "ytkgpnfeabojhcaagreat", sum := "f283307855cbb370a2dc5c5aea2297300a9a1604806d5d4fe226bbdf6e218715", func := "loop.example/garner/laws.FnWorldAsk", spec := "fnWorldAsk", inPlace := ["internal/bytealg.abigen_runtime_cmpstring", "slices.overlaps[loop.example/garner/impl.Vol]"], unfollowed := true, recurses := true, apart := false }
def FnWorldAskSaid : Prop := fnWorldAskRow.holds Tryz.pinned (OpenSpec.ofChange fnWorldAskSpec)

/-- ITS FALSE NEIGHBOUR: 'it returns false'. Refute it at one input. -/
def fnWorldAskWrong : ChangeSpec := { name := "fnWorldAsk", fn := fun _ => fun
  | [d1, d2] => { results := [.lit (.bool false)], args := [d1, d2] }
  | _ => none }
def FnWorldAskWrongFalsely : Prop := fnWorldAskRow.holds Tryz.pinned (OpenSpec.ofChange fnWorldAskWrong)

/-- 'laws.FnWorldCut': WHATEVER THE INPUT: true; the input reads as it did. -/
def fnWorldCutSpec : ChangeSpec := { name := "fnWorldCut", fn := fun _ => fun
  | [d1, d2] => { results := [.lit (.bool true)], args := [d1, d2] }
  | _ => none }
def fnWorldCutRow : OpenClaim := { program := "ytkgpnfeabojhcaagreat", sum := "f283307855cbb370a2dc5c5aea2297300a9a1604806d5d4fe226bbdf6e218715", func := "loop.example/garner/laws.FnWorldCut", spec := "fnWorldCut", inPlace := ["internal/bytealg.abigen_runtime_cmpstring", "slices.overlaps[loop.example/garner/impl.Vol]"], unfollowed := true, recurses := true, apart := false }
def FnWorldCutSaid : Prop := fnWorldCutRow.holds Tryz.pinned (OpenSpec.ofChange fnWorldCutSpec)

/-- ITS FALSE NEIGHBOUR: 'it returns false'. Refute it at one input. -/
def fnWorldCutWrong : ChangeSpec := { name := "fnWorldCut", fn := fun _ => fun
  | [d1, d2] => { results := [.lit (.bool false)], args := [d1, d2] }
  | _ => none }
def FnWorldCutWrongFalsely : Prop := fnWorldCutRow.holds Tryz.pinned (OpenSpec.ofChange fnWorldCutWrong)

/-- 'laws.FnWorldJoin': WHATEVER THE INPUT: true; the input reads as it did. -/
def fnWorldJoinSpec : ChangeSpec := { name := "fnWorldJoin", fn := fun _ => fun
  | [d] => { results := [.lit (.bool true)], args := [d] }
  | _ => none }
def fnWorldJoinRow : OpenClaim := { program := "ytkgpnfeabojhcaagreat", sum := "f283307855cbb370a2dc5c5aea2297300a9a1604806d5d4fe226bbdf6e218715", func := "loop.example/garner/laws.FnWorldJoin", spec := "fnWorldJoin", inPlace := ["internal/bytealg.abigen_runtime_cmpstring", "slices.overlaps[loop.example/garner/impl.Vol]"], unfollowed := true, recurses := true, apart := false }
def FnWorldJoinSaid : Prop := fnWorldJoinRow.holds Tryz.pinned (OpenSpec.ofChange fnWorldJoinSpec)

/-- ITS FALSE NEIGHBOUR: 'it returns false'. Refute it at one input. -/
def fnWorldJoinWrong : ChangeSpec := { name := "fnWorldJoin", fn := fun _ => fun
  | [d] => { results := [.lit (.bool false)], args := [d] }
  | _ => none }
def FnWorldJoinWrongFalsely : Prop := fnWorldJoinRow.holds Tryz.pinned (OpenSpec.ofChange fnWorldJoinWrong)

/-- 'laws.FnWorldStale': WHATEVER THE INPUT: true; the input reads as it did. -/
def fnWorldStaleSpec : ChangeSpec := { name := "fnWorldStale", fn := fun _ => fun
  | [d1, d2] => { results := [.lit (.bool true)], args := [d1, d2] }
  | _ => none }
def fnWorldStaleRow : OpenClaim := { program := "ytkgpnfeabojhcaagreat", sum := "f283307855cbb370a2dc5c5aea2297300a9a1604806d5d4fe226bbdf6e218715", func := "loop.example/garner/laws.FnWorldStale", spec := "fnWorldStale", inPlace := ["internal/bytealg.abigen_runtime_cmpstring", "slices.overlaps[loop.example/garner/impl.Vol]"], unfollowed := true, recurses := true, apart := false }
def FnWorldStaleSaid : Prop := fnWorldStaleRow.holds Tryz.pinned (OpenSpec.ofChange fnWorldStaleSpec)

/-- ITS FALSE NEIGHBOUR: 'it returns false'. Refute it at one input. -/
def fnWorldStaleWrong : ChangeSpec := { name := "fnWorldStale", fn := fun _ => fun
  | [d1, d2] => { results := [.lit (.bool false)], args := [d1, d2] }
  | _ => none }
def FnWorldStaleWrongFalsely : Prop := fnWorldStaleRow.holds Tryz.pinned (OpenSpec.ofChange fnWorldStaleWrong)

/-- 'laws.FnWorldTwice': WHATEVER THE INPUT: true; the input reads as it did. -/
def fnWorldTwiceSpec : ChangeSpec := { name := "fnWorldTwice", fn := fun _ => fun
  | [d] => { results := [.lit (.bool true)], args := [d] }
  | _ => none }
def fnWorldTwiceRow : OpenClaim := { program := "ytkgpnfeabojhcaagreat", sum := "f283307855cbb370a2dc5c5aea2297300a9a1604806d5d4fe226bbdf6e218715", func := "loop.example/garner/laws.FnWorldTwice", spec := "fnWorldTwice", inPlace := ["internal/bytealg.abigen_runtime_cmpstring", "slices.overlaps[loop.example/garner/impl.Vol]"], unfollowed := true, recurses := true, apart := false }
def FnWorldTwiceSaid : Prop := fnWorldTwiceRow.holds Tryz.pinned (OpenSpec.ofChange fnWorldTwiceSpec)

/-- ITS FALSE NEIGHBOUR: 'it returns false'. Refute it at one input. -/
def fnWorldTwiceWrong : ChangeSpec := { name := "fnWorldTwice", fn := fun _ => fun
  | [d] => { results := [.lit (.bool false)], args := [d] }
  | _ => none }
def FnWorldTwiceWrongFalsely : Prop := fnWorldTwiceRow.holds Tryz.pinned (OpenSpec.ofChange fnWorldTwiceWrong)

/-- 'laws.FnWorldTurn': WHATEVER THE INPUT: true; the input reads as it did. -/
def fnWorldTurnSpec : ChangeSpec := { name := "fnWorldTurn", fn := fun _ => fun
  | [d] => { results := [.lit (.bool true)], args := [d] }
  | _ => none }
def fnWorldTurnRow : OpenClaim := { program := "ytkgpnfeabojhcaagreat", sum := "f283307855cbb370a2dc5c5aea2297300a9a1604806d5d4fe226bbdf6e218715", func := "loop.example/garner/laws.FnWorldTurn", spec := "fnWorldTurn", inPlace := ["internal/bytealg.abigen_runtime_cmpstring", "slices.overlaps[loop.example/garner/impl.Vol]"], unfollowed := true, recurses := true, apart := false }
def FnWorldTurnSaid : Prop := fnWorldTurnRow.holds Tryz.pinned (OpenSpec.ofChange fnWorldTurnSpec)

/-- ITS FALSE NEIGHBOUR: 'it returns false'. Refute it at one input. -/
def fnWorldTurnWrong : ChangeSpec := { name := "fnWorldTurn", fn := fun _ => fun
  | [d] => { results := [.lit (.bool false)], args := [d] }
  | _ => none }
def FnWorldTurnWrongFalsely : Prop := fnWorldTurnRow.holds Tryz.pinned (OpenSpec.ofChange fnWorldTurnWrong)

/-- 'laws.FnWorldCalm': WHATEVER THE INPUT: true; the input reads as it did. -/
def fnWorldCalmSpec : ChangeSpec := { name := "fnWorldCalm", fn := fun _ => fun
  | [d] => { results := [.lit (.bool true)], args := [d] }
  | _ => none }
def fnWorldCalmRow : OpenClaim := { program := "ytkgpnfeabojhcaagreat", sum := "f283307855cbb370a2dc5c5aea2297300a9a1604806d5d4fe226bbdf6e218715", func := "loop.example/garner/laws.FnWorldCalm", spec := "fnWorldCalm", inPlace := ["internal/bytealg.abigen_runtime_cmpstring", "slices.overlaps[loop.example/garner/impl.Vol]"], unfollowed := true, recurses := true, apart := false }
def FnWorldCalmSaid : Prop := fnWorldCalmRow.holds Tryz.pinned (OpenSpec.ofChange fnWorldCalmSpec)

/-- ITS FALSE NEIGHBOUR: 'it returns false'. Refute it at one input. -/
def fnWorldCalmWrong : ChangeSpec := { name := "fnWorldCalm", fn := fun _ => fun
  | [d] => { results := [.lit (.bool false)], args := [d] }
  | _ => none }
def FnWorldCalmWrongFalsely : Prop := fnWorldCalmRow.holds Tryz.pinned (OpenSpec.ofChange fnWorldCalmWrong)

/-- 'laws.FnWorldStill': WHATEVER THE INPUT: true; the input reads as it did. -/
def fnWorldStillSpec : ChangeSpec := { name := "fnWorldStill", fn := fun _ => fun
  | [d1, d2] => { results := [.lit (.bool true)], args := [d1, d2] }
  | _ => none }
def fnWorldStillRow : OpenClaim := { program := "ytkgpnfeabojhcaagreat", sum := "f283307855cbb370a2dc5c5aea2297300a9a1604806d5d4fe226bbdf6e218715", func := "loop.example/garner/laws.FnWorldStill", spec := "fnWorldStill", inPlace := ["internal/bytealg.abigen_runtime_cmpstring", "slices.overlaps[loop.example/garner/impl.Vol]"], unfollowed := true, recurses := true, apart := false }
def FnWorldStillSaid : Prop := fnWorldStillRow.holds Tryz.pinned (OpenSpec.ofChange fnWorldStillSpec)

/-- ITS FALSE NEIGHBOUR: 'it returns false'. Refute it at one input. -/
def fnWorldStillWrong : ChangeSpec := { name := "fnWorldStill", fn := fun _ => fun
  | [d1, d2] => { results := [.lit (.bool false)], args := [d1, d2] }
  | _ => none }
def FnWorldStillWrongFalsely : Prop := fnWorldStillRow.holds Tryz.pinned (OpenSpec.ofChange fnWorldStillWrong)

/-- 'laws.FnWorldRounds': WHATEVER THE INPUT: true; the input reads as it did. -/
def fnWorldRoundsSpec : ChangeSpec := { name := "fnWorldRounds", fn := fun _ => fun
  | [d1, d2] => { results := [.lit (.bool true)], args := [d1, d2] }
  | _ => none }
def fnWorldRoundsRow : OpenClaim := { program := "ytkgpnfeabojhcaagreat", sum := "f283307855cbb370a2dc5c5aea2297300a9a1604806d5d4fe226bbdf6e218715", func := "loop.example/garner/laws.FnWorldRounds", spec := "fnWorldRounds", inPlace := ["internal/bytealg.abigen_runtime_cmpstring", "slices.overlaps[loop.example/garner/impl.Vol]"], unfollowed := true, recurses := true, apart := false }
def FnWorldRoundsSaid : Prop := fnWorldRoundsRow.holds Tryz.pinned (OpenSpec.ofChange fnWorldRoundsSpec)

/-- ITS FALSE NEIGHBOUR: 'it returns false'. Refute it at one input. -/
def fnWorldRoundsWrong : ChangeSpec := { name := "fnWorldRounds", fn := fun _ => fun
  | [d1, d2] => { results := [.lit (.bool false)], args := [d1, d2] }
  | _ => none }
def FnWorldRoundsWrongFalsely : Prop := fnWorldRoundsRow.holds Tryz.pinned (OpenSpec.ofChange fnWorldRoundsWrong)

/-- 'laws.FnWorldAloneGo': WHATEVER THE INPUT: true; the input reads as it did. -/
def fnWorldAloneGoSpec : ChangeSpec := { name := "fnWorldAloneGo", fn := fun _ => fun
  | [d1, d2] => { results := [.lit (.bool true)], args := [d1, d2] }
  | _ => none }
def fnWorldAloneGoRow : OpenClaim := { program := "ytkgpnfeabojhcaagreat", sum := "f283307855cbb370a2dc5c5aea2297300a9a1604806d5d4fe226bbdf6e218715", func := "loop.example/garner/laws.FnWorldAloneGo", spec := "fnWorldAloneGo", inPlace := ["internal/bytealg.abigen_runtime_cmpstring", "slices.overlaps[loop.example/garner/impl.Vol]"], unfollowed := true, recurses := true, apart := false }
def FnWorldAloneGoSaid : Prop := fnWorldAloneGoRow.holds Tryz.pinned (OpenSpec.ofChange fnWorldAloneGoSpec)

/-- ITS FALSE NEIGHBOUR: 'it returns false'. Refute it at one input. -/
def fnWorldAloneGoWrong : ChangeSpec := { name := "fnWorldAloneGo", fn := fun _ => fun
  | [d1, d2] => { results := [.lit (.bool false)], args := [d1, d2] }
  | _ => none }
def FnWorldAloneGoWrongFalsely : Prop := fnWorldAloneGoRow.holds Tryz.pinned (OpenSpec.ofChange fnWorldAloneGoWrong)

/-- 'laws.FnWorldEvents': WHATEVER THE INPUT: true; the input reads as it did. -/
def fnWorldEventsSpec : ChangeSpec := { name := "fnWorldEvents", fn := fun _ => fun
  | [d] => { results := [.lit (.bool true)], args := [d] }
  | _ => none }
def fnWorldEventsRow : OpenClaim := { program := "ytkgpnfeabojhcaagreat", sum := "f283307855cbb370a2dc5c5aea2297300a9a1604806d5d4fe226bbdf6e218715", func := "loop.example/garner/laws.FnWorldEvents", spec := "fnWorldEvents", inPlace := ["internal/bytealg.abigen_runtime_cmpstring", "slices.overlaps[loop.example/garner/impl.Vol]"], unfollowed := true, recurses := true, apart := false }
def FnWorldEventsSaid : Prop := fnWorldEventsRow.holds Tryz.pinned (OpenSpec.ofChange fnWorldEventsSpec)

/-- ITS FALSE NEIGHBOUR: 'it returns false'. Refute it at one input. -/
def fnWorldEventsWrong : ChangeSpec := { name := "fnWorldEvents", fn := fun _ => fun
  | [d] => { results := [.lit (.bool false)], args := [d] }
  | _ => none }
def FnWorldEventsWrongFalsely : Prop := fnWorldEventsRow.holds Tryz.pinned (OpenSpec.ofChange fnWorldEventsWrong)

/-- 'laws.FnWorldFall': WHATEVER THE INPUT: true; the input reads as it did. -/
def fnWorldFallSpec : ChangeSpec := { name := "fnWorldFall", fn := fun _ => fun
  | [d1, d2] => { results := [.lit (.bool true)], args := [d1, d2] }
  | _ => none }
def fnWorldFallRow : OpenClaim := { program := "ytkgpnfeabojhcaagreat", sum := "f283307855cbb370a2dc5c5aea2297300a9a1604806d5d4fe226bbdf6e218715", func := "loop.example/garner/laws.FnWorldFall", spec := "fnWorldFall", inPlace := ["internal/bytealg.abigen_runtime_cmpstring", "slices.overlaps[loop.example/garner/impl.Vol]"], unfollowed := true, recurses := true, apart := false }
def FnWorldFallSaid : Prop := fnWorldFallRow.holds Tryz.pinned (OpenSpec.ofChange fnWorldFallSpec)

/-- ITS FALSE NEIGHBOUR: 'it returns false'. Refute it at one input. -/
def fnWorldFallWrong : ChangeSpec := { name := "fnWorldFall", fn := fun _ => fun
  | [d1, d2] => { results := [.lit (.bool false)], args := [d1, d2] }
  | _ => none }
def FnWorldFallWrongFalsely : Prop := fnWorldFallRow.holds Tryz.pinned (OpenSpec.ofChange fnWorldFallWrong)

/-- 'laws.FnWorldIdle': WHATEVER THE INPUT: true; the input reads as it did. -/
def fnWorldIdleSpec : ChangeSpec := { name := "fnWorldIdle", fn := fun _ => fun
  | [d] => { results := [.lit (.bool true)], args := [d] }
  | _ => none }
def fnWorldIdleRow : OpenClaim := { program := "ytkgpnfeabojhcaagreat", sum := "f283307855cbb370a2dc5c5aea2297300a9a1604806d5d4fe226bbdf6e218715", func := "loop.example/garner/laws.FnWorldIdle", spec := "fnWorldIdle", inPlace := ["internal/bytealg.abigen_runtime_cmpstring", "slices.overlaps[loop.example/garner/impl.Vol]"], unfollowed := true, recurses := true, apart := false }
def FnWorldIdleSaid : Prop := fnWorldIdleRow.holds Tryz.pinned (OpenSpec.ofChange fnWorldIdleSpec)

/-- ITS FALSE NEIGHBOUR: 'it returns false'. Refute it at one input. -/
def fnWorldIdleWrong : ChangeSpec := { name := "fnWorldIdle", fn := fun _ => fun
  | [d] => { results := [.lit (.bool false)], args := [d] }
  | _ => none }
def FnWorldIdleWrongFalsely : Prop := fnWorldIdleRow.holds Tryz.pinned (OpenSpec.ofChange fnWorldIdleWrong)

/-- 'laws.FnWorldLose': WHATEVER THE INPUT: true; the input reads as it did. -/
def fnWorldLoseSpec : ChangeSpec := { name := "fnWorldLose", fn := fun _ => fun
  | [d1, d2] => { results := [.lit (.bool true)], args := [d1, d2] }
  | _ => none }
def fnWorldLoseRow : OpenClaim := { program := "ytkgpnfeabojhcaagreat", sum := "f283307855cbb370a2dc5c5aea2297300a9a1604806d5d4fe226bbdf6e218715", func := "loop.example/garner/laws.FnWorldLose", spec := "fnWorldLose", inPlace := ["internal/bytealg.abigen_runtime_cmpstring", "slices.overlaps[loop.example/garner/impl.Vol]"], unfollowed := true, recurses := true, apart := false }
def FnWorldLoseSaid : Prop := fnWorldLoseRow.holds Tryz.pinned (OpenSpec.ofChange fnWorldLoseSpec)

/-- ITS FALSE NEIGHBOUR: 'it returns false'. Refute it at one input. -/
def fnWorldLoseWrong : ChangeSpec := { name := "fnWorldLose", fn := fun _ => fun
  | [d1, d2] => { results := [.lit (.bool false)], args := [d1, d2] }
  | _ => none }
def FnWorldLoseWrongFalsely : Prop := fnWorldLoseRow.holds Tryz.pinned (OpenSpec.ofChange fnWorldLoseWrong)

/-- 'laws.FnWorldGoOn': WHATEVER THE INPUT: true; the input reads as it did. -/
def fnWorldGoOnSpec : ChangeSpec := { name := "fnWorldGoOn", fn := fun _ => fun
  | [d1, d2] => { results := [.lit (.bool true)], args := [d1, d2] }
  | _ => none }
def fnWorldGoOnRow : OpenClaim := { program := "ytkgpnfeabojhcaagreat", sum := "f283307855cbb370a2dc5c5aea2297300a9a1604806d5d4fe226bbdf6e218715", func := "loop.example/garner/laws.FnWorldGoOn", spec := "fnWorldGoOn", inPlace := ["internal/bytealg.abigen_runtime_cmpstring", "slices.overlaps[loop.example/garner/impl.Vol]"], unfollowed := true, recurses := true, apart := false }
def FnWorldGoOnSaid : Prop := fnWorldGoOnRow.holds Tryz.pinned (OpenSpec.ofChange fnWorldGoOnSpec)

/-- ITS FALSE NEIGHBOUR: 'it returns false'. Refute it at one input. -/
def fnWorldGoOnWrong : ChangeSpec := { name := "fnWorldGoOn", fn := fun _ => fun
  | [d1, d2] => { results := [.lit (.bool false)], args := [d1, d2] }
  | _ => none }
def FnWorldGoOnWrongFalsely : Prop := fnWorldGoOnRow.holds Tryz.pinned (OpenSpec.ofChange fnWorldGoOnWrong)

/-- 'laws.FnWorldDo': WHATEVER THE INPUT: true; the input reads as it did. -/
def fnWorldDoSpec : ChangeSpec := { name := "fnWorldDo", fn := fun _ => fun
  | [d] => { results := [.lit (.bool true)], args := [d] }
  | _ => none }
def fnWorldDoRow : OpenClaim := { program := "ytkgpnfeabojhcaagreat", sum := "f283307855cbb370a2dc5c5aea2297300a9a1604806d5d4fe226bbdf6e218715", func := "loop.example/garner/laws.FnWorldDo", spec := "fnWorldDo", inPlace := ["internal/bytealg.abigen_runtime_cmpstring", "slices.overlaps[loop.example/garner/impl.Vol]"], unfollowed := true, recurses := true, apart := false }
def FnWorldDoSaid : Prop := fnWorldDoRow.holds Tryz.pinned (OpenSpec.ofChange fnWorldDoSpec)

/-- ITS FALSE NEIGHBOUR: 'it returns false'. Refute it at one input. -/
def fnWorldDoWrong : ChangeSpec := { name := "fnWorldDo", fn := fun _ => fun
  | [d] => { results := [.lit (.bool false)], args := [d] }
  | _ => none }
def FnWorldDoWrongFalsely : Prop := fnWorldDoRow.holds Tryz.pinned (OpenSpec.ofChange fnWorldDoWrong)

/-- 'laws.FnExactWorldPlay': WHATEVER THE INPUT: true; the input reads as it did. -/
def fnExactWorldPlaySpec : ChangeSpec := { name := "fnExactWorldPlay", fn := fun _ => fun
  | [d] => { results := [.lit (.bool true)], args := [d] }
  | _ => none }
def fnExactWorldPlayRow : OpenClaim := { program := "ytkgpnfeabojhcaagreat", sum := "f283307855cbb370a2dc5c5aea2297300a9a1604806d5d4fe226bbdf6e218715", func := "loop.example/garner/laws.FnExactWorldPlay", spec := "fnExactWorldPlay", inPlace := ["internal/bytealg.abigen_runtime_cmpstring", "slices.overlaps[loop.example/garner/impl.Vol]"], unfollowed := true, recurses := true, apart := false }
def FnExactWorldPlaySaid : Prop := fnExactWorldPlayRow.holds Tryz.pinned (OpenSpec.ofChange fnExactWorldPlaySpec)

/-- ITS FALSE NEIGHBOUR: 'it returns false'. Refute it at one input. -/
def fnExactWorldPlayWrong : ChangeSpec := { name := "fnExactWorldPlay", fn := fun _ => fun
  | [d] => { results := [.lit (.bool false)], args := [d] }
  | _ => none }
def FnExactWorldPlayWrongFalsely : Prop := fnExactWorldPlayRow.holds Tryz.pinned (OpenSpec.ofChange fnExactWorldPlayWrong)

/-- 'laws.FnExactWorldCalm': WHATEVER THE INPUT: true; the input reads as it did. -/
def fnExactWorldCalmSpec : ChangeSpec := { name := "fnExactWorldCalm", fn := fun _ => fun
  | [d1, d2] => { results := [.lit (.bool true)], args := [d1, d2] }
  | _ => none }
def fnExactWorldCalmRow : OpenClaim := { program := "ytkgpnfeabojhcaagreat", sum := "f283307855cbb370a2dc5c5aea2297300a9a1604806d5d4fe226bbdf6e218715", func := "loop.example/garner/laws.FnExactWorldCalm", spec := "fnExactWorldCalm", inPlace := ["internal/bytealg.abigen_runtime_cmpstring", "slices.overlaps[loop.example/garner/impl.Vol]"], unfollowed := true, recurses := true, apart := false }
def FnExactWorldCalmSaid : Prop := fnExactWorldCalmRow.holds Tryz.pinned (OpenSpec.ofChange fnExactWorldCalmSpec)

/-- ITS FALSE NEIGHBOUR: 'it returns false'. Refute it at one input. -/
def fnExactWorldCalmWrong : ChangeSpec := { name := "fnExactWorldCalm", fn := fun _ => fun
  | [d1, d2] => { results := [.lit (.bool false)], args := [d1, d2] }
  | _ => none }
def FnExactWorldCalmWrongFalsely : Prop := fnExactWorldCalmRow.holds Tryz.pinned (OpenSpec.ofChange fnExactWorldCalmWrong)

/-- 'laws.FnExactWorldDo': WHATEVER THE INPUT: true; the input reads as it did. -/
def fnExactWorldDoSpec : ChangeSpec := { name := "fnExactWorldDo", fn := fun _ => fun
  | [d1, d2] => { results := [.lit (.bool true)], args := [d1, d2] }
  | _ => none }
def fnExactWorldDoRow : OpenClaim := { program := "ytkgpnfeabojhcaagreat", sum := "f283307855cbb370a2dc5c5aea2297300a9a1604806d5d4fe226bbdf6e218715", func := "loop.example/garner/laws.FnExactWorldDo", spec := "fnExactWorldDo", inPlace := ["internal/bytealg.abigen_runtime_cmpstring", "slices.overlaps[loop.example/garner/impl.Vol]"], unfollowed := true, recurses := true, apart := false }
def FnExactWorldDoSaid : Prop := fnExactWorldDoRow.holds Tryz.pinned (OpenSpec.ofChange fnExactWorldDoSpec)

/-- ITS FALSE NEIGHBOUR: 'it returns false'. Refute it at one input. -/
def fnExactWorldDoWrong : ChangeSpec := { name := "fnExactWorldDo", fn := fun _ => fun
  | [d1, d2] => { results := [.lit (.bool false)], args := [d1, d2] }
  | _ => none }
def FnExactWorldDoWrongFalsely : Prop := fnExactWorldDoRow.holds Tryz.pinned (OpenSpec.ofChange fnExactWorldDoWrong)

/- THE SECOND FORM. 'bulk': how many values and letters a reading holds, each counted each time it is reached (what is shared counts as often as it is met; a slice's spare places count too). A statement '..UptoSaid' is the law's where the arguments, and the package variables that the reading takes, are together of bulk at most 1048576: NARROWER than '..Said'. Prove '..Said' where nothing that the law and all that it calls make is longer than what came in: it says more and counts as full. Else prove '..UptoSaid'. A law counts once. -/
mutual
def uptoBulk {H : Type} : DataW H → Nat
  | .lit (.string bytes) => bytes.length + 1
  | .lit _ => 1
  | .nil => 1
  | .ptr d => uptoBulk d + 1
  | .slice elems spare => uptoBulkAll elems + uptoBulkAll spare + 1
  | .agg parts => uptoBulkAll parts + 1
  | .iface _ d => uptoBulk d + 1
  | .map entries => uptoBulkEntries entries + 1
  | .held _ => 1
def uptoBulkAll {H : Type} : List (DataW H) → Nat
  | [] => 0
  | d :: r => uptoBulk d + uptoBulkAll r
def uptoBulkEntries {H : Type} : List (Lit × DataW H) → Nat
  | [] => 0
  | x :: r => uptoBulkEntry x + uptoBulkEntries r
def uptoBulkEntry {H : Type} : Lit × DataW H → Nat
  | (.string bytes, d) => bytes.length + uptoBulk d + 1
  | (_, d) => uptoBulk d + 1
 end
def uptoSmall : (H : Type) → List (DataW H) → Bool := fun _ ds => decide (uptoBulkAll ds ≤ 1048576)
def OpenSpec.upto (s : _root_.Go.ChangeSpec) : _root_.Go.OpenSpec := { _root_.Go.OpenSpec.ofChange s with cond := some uptoSmall }

/-- 'laws.FnWorldAlone', WHERE WHAT IT READS IS OF BULK AT MOST 1048576: true; the input reads as it did. -/
def fnWorldAloneUptoRow : OpenClaim := { program := "ytkgpnfeabojhcaagreat", sum := "f283307855cbb370a2dc5c5aea2297300a9a1604806d5d4fe226bbdf6e218715", func := "loop.example/garner/laws.FnWorldAlone", spec := "fnWorldAlone", inPlace := ["internal/bytealg.abigen_runtime_cmpstring", "slices.overlaps[loop.example/garner/impl.Vol]"], unfollowed := true, recurses := true, apart := false, narrowed := true }
def FnWorldAloneUptoSaid : Prop := fnWorldAloneUptoRow.holds Tryz.pinned (OpenSpec.upto fnWorldAloneSpec)

/-- 'laws.FnWorldDeaf', WHERE WHAT IT READS IS OF BULK AT MOST 1048576: true; the input reads as it did. -/
def fnWorldDeafUptoRow : OpenClaim := { program := "ytkgpnfeabojhcaagreat", sum := "f283307855cbb370a2dc5c5aea2297300a9a1604806d5d4fe226bbdf6e218715", func := "loop.example/garner/laws.FnWorldDeaf", spec := "fnWorldDeaf", inPlace := ["internal/bytealg.abigen_runtime_cmpstring", "slices.overlaps[loop.example/garner/impl.Vol]"], unfollowed := true, recurses := true, apart := false, narrowed := true }
def FnWorldDeafUptoSaid : Prop := fnWorldDeafUptoRow.holds Tryz.pinned (OpenSpec.upto fnWorldDeafSpec)

/-- 'laws.FnWorldNets', WHERE WHAT IT READS IS OF BULK AT MOST 1048576: true; the input reads as it did. -/
def fnWorldNetsUptoRow : OpenClaim := { program := "ytkgpnfeabojhcaagreat", sum := "f283307855cbb370a2dc5c5aea2297300a9a1604806d5d4fe226bbdf6e218715", func := "loop.example/garner/laws.FnWorldNets", spec := "fnWorldNets", inPlace := ["internal/bytealg.abigen_runtime_cmpstring", "slices.overlaps[loop.example/garner/impl.Vol]"], unfollowed := true, recurses := true, apart := false, narrowed := true }
def FnWorldNetsUptoSaid : Prop := fnWorldNetsUptoRow.holds Tryz.pinned (OpenSpec.upto fnWorldNetsSpec)

/-- 'laws.FnWorldOne', WHERE WHAT IT READS IS OF BULK AT MOST 1048576: true; the input reads as it did. -/
def fnWorldOneUptoRow : OpenClaim := { program := "ytkgpnfeabojhcaagreat", sum := "f283307855cbb370a2dc5c5aea2297300a9a1604806d5d4fe226bbdf6e218715", func := "loop.example/garner/laws.FnWorldOne", spec := "fnWorldOne", inPlace := ["internal/bytealg.abigen_runtime_cmpstring", "slices.overlaps[loop.example/garner/impl.Vol]"], unfollowed := true, recurses := true, apart := false, narrowed := true }
def FnWorldOneUptoSaid : Prop := fnWorldOneUptoRow.holds Tryz.pinned (OpenSpec.upto fnWorldOneSpec)

/-- 'laws.FnWorldBoth', WHERE WHAT IT READS IS OF BULK AT MOST 1048576: true; the input reads as it did. -/
def fnWorldBothUptoRow : OpenClaim := { program := "ytkgpnfeabojhcaagreat", sum := "f283307855cbb370a2dc5c5aea2297300a9a1604806d5d4fe226bbdf6e218715", func := "loop.example/garner/laws.FnWorldBoth", spec := "fnWorldBoth", inPlace := ["internal/bytealg.abigen_runtime_cmpstring", "slices.overlaps[loop.example/garner/impl.Vol]"], unfollowed := true, recurses := true, apart := false, narrowed := true }
def FnWorldBothUptoSaid : Prop := fnWorldBothUptoRow.holds Tryz.pinned (OpenSpec.upto fnWorldBothSpec)

/-- 'laws.FnWorldLetters', WHERE WHAT IT READS IS OF BULK AT MOST 1048576: true; the input reads as it did. -/
def fnWorldLettersUptoRow : OpenClaim := { program := "ytkgpnfeabojhcaagreat", sum := "f283307855cbb370a2dc5c5aea2297300a9a1604806d5d4fe226bbdf6e218715", func := "loop.example/garner/laws.FnWorldLetters", spec := "fnWorldLetters", inPlace := ["internal/bytealg.abigen_runtime_cmpstring", "slices.overlaps[loop.example/garner/impl.Vol]"], unfollowed := true, recurses := true, apart := false, narrowed := true }
def FnWorldLettersUptoSaid : Prop := fnWorldLettersUptoRow.holds Tryz.pinned (OpenSpec.upto fnWorldLettersSpec)

/-- 'laws.FnWorldTold', WHERE WHAT IT READS IS OF BULK AT MOST 1048576: true; the input reads as it did. -/
def fnWorldToldUptoRow : OpenClaim := { program := "ytkgpnfeabojhcaagreat", sum := "f283307855cbb370a2dc5c5aea2297300a9a1604806d5d4fe226bbdf6e218715", func := "loop.example/garner/laws.FnWorldTold", spec := "fnWorldTold", inPlace := ["internal/bytealg.abigen_runtime_cmpstring", "slices.overlaps[loop.example/garner/impl.Vol]"], unfollowed := true, recurses := true, apart := false, narrowed := true }
def FnWorldToldUptoSaid : Prop := fnWorldToldUptoRow.holds Tryz.pinned (OpenSpec.upto fnWorldToldSpec)

/-- 'laws.FnWorldDoing', WHERE WHAT IT READS IS OF BULK AT MOST 1048576: true; the input reads as it did. -/
def fnWorldDoingUptoRow : OpenClaim := { program := "ytkgpnfeabojhcaagreat", sum := "f283307855cbb370a2dc5c5aea2297300a9a1604806d5d4fe226bbdf6e218715", func := "loop.example/garner/laws.FnWorldDoing", spec := "fnWorldDoing", inPlace := ["internal/bytealg.abigen_runtime_cmpstring", "slices.overlaps[loop.example/garner/impl.Vol]"], unfollowed := true, recurses := true, apart := false, narrowed := true }
def FnWorldDoingUptoSaid : Prop := fnWorldDoingUptoRow.holds Tryz.pinned (OpenSpec.upto fnWorldDoingSpec)

/-- 'laws.FnWorldOrder', WHERE WHAT IT READS IS OF BULK AT MOST 1048576: true; the input reads as it did. -/
def fnWorldOrderUptoRow : OpenClaim := { program := "ytkgpnfeabojhcaagreat", sum := "f283307855cbb370a2dc5c5aea2297300a9a1604806d5d4fe226bbdf6e218715", func := "loop.example/garner/laws.FnWorldOrder", spec := "fnWorldOrder", inPlace := ["internal/bytealg.abigen_runtime_cmpstring", "slices.overlaps[loop.example/garner/impl.Vol]"], unfollowed := true, recurses := true, apart := false, narrowed := true }
def FnWorldOrderUptoSaid : Prop := fnWorldOrderUptoRow.holds Tryz.pinned (OpenSpec.upto fnWorldOrderSpec)

/-- 'laws.FnWorldReads', WHERE WHAT IT READS IS OF BULK AT MOST 1048576: true; the input reads as it did. -/
def fnWorldReadsUptoRow : OpenClaim := { program := "ytkgpnfeabojhcaagreat", sum := "f283307855cbb370a2dc5c5aea2297300a9a1604806d5d4fe226bbdf6e218715", func := "loop.example/garner/laws.FnWorldReads", spec := "fnWorldReads", inPlace := ["internal/bytealg.abigen_runtime_cmpstring", "slices.overlaps[loop.example/garner/impl.Vol]"], unfollowed := true, recurses := true, apart := false, narrowed := true }
def FnWorldReadsUptoSaid : Prop := fnWorldReadsUptoRow.holds Tryz.pinned (OpenSpec.upto fnWorldReadsSpec)

/-- 'laws.FnWorldSafe', WHERE WHAT IT READS IS OF BULK AT MOST 1048576: true; the input reads as it did. -/
def fnWorldSafeUptoRow : OpenClaim := { program := "ytkgpnfeabojhcaagreat", sum := "f283307855cbb370a2dc5c5aea2297300a9a1604806d5d4fe226bbdf6e218715", func := "loop.example/garner/laws.FnWorldSafe", spec := "fnWorldSafe", inPlace := ["internal/bytealg.abigen_runtime_cmpstring", "slices.overlaps[loop.example/garner/impl.Vol]"], unfollowed := true, recurses := true, apart := false, narrowed := true }
def FnWorldSafeUptoSaid : Prop := fnWorldSafeUptoRow.holds Tryz.pinned (OpenSpec.upto fnWorldSafeSpec)

/-- 'laws.FnWorldAsk', WHERE WHAT IT READS IS OF BULK AT MOST 1048576: true; the input reads as it did. -/
def fnWorldAskUptoRow : OpenClaim := { program := "ytkgpnfeabojhcaagreat", sum := "f283307855cbb370a2dc5c5aea2297300a9a1604806d5d4fe226bbdf6e218715", func := "loop.example/garner/laws.FnWorldAsk", spec := "fnWorldAsk", inPlace := ["internal/bytealg.abigen_runtime_cmpstring", "slices.overlaps[loop.example/garner/impl.Vol]"], unfollowed := true, recurses := true, apart := false, narrowed := true }
def FnWorldAskUptoSaid : Prop := fnWorldAskUptoRow.holds Tryz.pinned (OpenSpec.upto fnWorldAskSpec)

/-- 'laws.FnWorldCut', WHERE WHAT IT READS IS OF BULK AT MOST 1048576: true; the input reads as it did. -/
def fnWorldCutUptoRow : OpenClaim := { program := "ytkgpnfeabojhcaagreat", sum := "f283307855cbb370a2dc5c5aea2297300a9a1604806d5d4fe226bbdf6e218715", func := "loop.example/garner/laws.FnWorldCut", spec := "fnWorldCut", inPlace := ["internal/bytealg.abigen_runtime_cmpstring", "slices.overlaps[loop.example/garner/impl.Vol]"], unfollowed := true, recurses := true, apart := false, narrowed := true }
def FnWorldCutUptoSaid : Prop := fnWorldCutUptoRow.holds Tryz.pinned (OpenSpec.upto fnWorldCutSpec)

/-- 'laws.FnWorldJoin', WHERE WHAT IT READS IS OF BULK AT MOST 1048576: true; the input reads as it did. -/
def fnWorldJoinUptoRow : OpenClaim := { program := "ytkgpnfeabojhcaagreat", sum := "f283307855cbb370a2dc5c5aea2297300a9a1604806d5d4fe226bbdf6e218715", func := "loop.example/garner/laws.FnWorldJoin", spec := "fnWorldJoin", inPlace := ["internal/bytealg.abigen_runtime_cmpstring", "slices.overlaps[loop.example/garner/impl.Vol]"], unfollowed := true, recurses := true, apart := false, narrowed := true }
def FnWorldJoinUptoSaid : Prop := fnWorldJoinUptoRow.holds Tryz.pinned (OpenSpec.upto fnWorldJoinSpec)

/-- 'laws.FnWorldStale', WHERE WHAT IT READS IS OF BULK AT MOST 1048576: true; the input reads as it did. -/
def fnWorldStaleUptoRow : OpenClaim := { program := "ytkgpnfeabojhcaagreat", sum := "f283307855cbb370a2dc5c5aea2297300a9a1604806d5d4fe226bbdf6e218715", func := "loop.example/garner/laws.FnWorldStale", spec := "fnWorldStale", inPlace := ["internal/bytealg.abigen_runtime_cmpstring", "slices.overlaps[loop.example/garner/impl.Vol]"], unfollowed := true, recurses := true, apart := false, narrowed := true }
def FnWorldStaleUptoSaid : Prop := fnWorldStaleUptoRow.holds Tryz.pinned (OpenSpec.upto fnWorldStaleSpec)

/-- 'laws.FnWorldTwice', WHERE WHAT IT READS IS OF BULK AT MOST 1048576: true; the input reads as it did. -/
def fnWorldTwiceUptoRow : OpenClaim := { program := "ytkgpnfeabojhcaagreat", sum := "f283307855cbb370a2dc5c5aea2297300a9a1604806d5d4fe226bbdf6e218715", func := "loop.example/garner/laws.FnWorldTwice", spec := "fnWorldTwice", inPlace := ["internal/bytealg.abigen_runtime_cmpstring", "slices.overlaps[loop.example/garner/impl.Vol]"], unfollowed := true, recurses := true, apart := false, narrowed := true }
def FnWorldTwiceUptoSaid : Prop := fnWorldTwiceUptoRow.holds Tryz.pinned (OpenSpec.upto fnWorldTwiceSpec)

/-- 'laws.FnWorldTurn', WHERE WHAT IT READS IS OF BULK AT MOST 1048576: true; the input reads as it did. -/
def fnWorldTurnUptoRow : OpenClaim := { program := "ytkgpnfeabojhcaagreat", sum := "f283307855cbb370a2dc5c5aea2297300a9a1604806d5d4fe226bbdf6e218715", func := "loop.example/garner/laws.FnWorldTurn", spec := "fnWorldTurn", inPlace := ["internal/bytealg.abigen_runtime_cmpstring", "slices.overlaps[loop.example/garner/impl.Vol]"], unfollowed := true, recurses := true, apart := false, narrowed := true }
def FnWorldTurnUptoSaid : Prop := fnWorldTurnUptoRow.holds Tryz.pinned (OpenSpec.upto fnWorldTurnSpec)

/-- 'laws.FnWorldCalm', WHERE WHAT IT READS IS OF BULK AT MOST 1048576: true; the input reads as it did. -/
def fnWorldCalmUptoRow : OpenClaim := { program := "ytkgpnfeabojhcaagreat", sum := "f283307855cbb370a2dc5c5aea2297300a9a1604806d5d4fe226bbdf6e218715", func := "loop.example/garner/laws.FnWorldCalm", spec := "fnWorldCalm", inPlace := ["internal/bytealg.abigen_runtime_cmpstring", "slices.overlaps[loop.example/garner/impl.Vol]"], unfollowed := true, recurses := true, apart := false, narrowed := true }
def FnWorldCalmUptoSaid : Prop := fnWorldCalmUptoRow.holds Tryz.pinned (OpenSpec.upto fnWorldCalmSpec)

/-- 'laws.FnWorldStill', WHERE WHAT IT READS IS OF BULK AT MOST 1048576: true; the input reads as it did. -/
def fnWorldStillUptoRow : OpenClaim := { program := "ytkgpnfeabojhcaagreat", sum := "f283307855cbb370a2dc5c5aea2297300a9a1604806d5d4fe226bbdf6e218715", func := "loop.example/garner/laws.FnWorldStill", spec := "fnWorldStill", inPlace := ["internal/bytealg.abigen_runtime_cmpstring", "slices.overlaps[loop.example/garner/impl.Vol]"], unfollowed := true, recurses := true, apart := false, narrowed := true }
def FnWorldStillUptoSaid : Prop := fnWorldStillUptoRow.holds Tryz.pinned (OpenSpec.upto fnWorldStillSpec)

/-- 'laws.FnWorldRounds', WHERE WHAT IT READS IS OF BULK AT MOST 1048576: true; the input reads as it did. -/
def fnWorldRoundsUptoRow : OpenClaim := { program := "ytkgpnfeabojhcaagreat", sum := "f283307855cbb370a2dc5c5aea2297300a9a1604806d5d4fe226bbdf6e218715", func := "loop.example/garner/laws.FnWorldRounds", spec := "fnWorldRounds", inPlace := ["internal/bytealg.abigen_runtime_cmpstring", "slices.overlaps[loop.example/garner/impl.Vol]"], unfollowed := true, recurses := true, apart := false, narrowed := true }
def FnWorldRoundsUptoSaid : Prop := fnWorldRoundsUptoRow.holds Tryz.pinned (OpenSpec.upto fnWorldRoundsSpec)

/-- 'laws.FnWorldAloneGo', WHERE WHAT IT READS IS OF BULK AT MOST 1048576: true; the input reads as it did. -/
def fnWorldAloneGoUptoRow : OpenClaim := { program := "ytkgpnfeabojhcaagreat", sum := "f283307855cbb370a2dc5c5aea2297300a9a1604806d5d4fe226bbdf6e218715", func := "loop.example/garner/laws.FnWorldAloneGo", spec := "fnWorldAloneGo", inPlace := ["internal/bytealg.abigen_runtime_cmpstring", "slices.overlaps[loop.example/garner/impl.Vol]"], unfollowed := true, recurses := true, apart := false, narrowed := true }
def FnWorldAloneGoUptoSaid : Prop := fnWorldAloneGoUptoRow.holds Tryz.pinned (OpenSpec.upto fnWorldAloneGoSpec)

/-- 'laws.FnWorldEvents', WHERE WHAT IT READS IS OF BULK AT MOST 1048576: true; the input reads as it did. -/
def fnWorldEventsUptoRow : OpenClaim := { program := "ytkgpnfeabojhcaagreat", sum := "f283307855cbb370a2dc5c5aea2297300a9a1604806d5d4fe226bbdf6e218715", func := "loop.example/garner/laws.FnWorldEvents", spec := "fnWorldEvents", inPlace := ["internal/bytealg.abigen_runtime_cmpstring", "slices.overlaps[loop.example/garner/impl.Vol]"], unfollowed := true, recurses := true, apart := false, narrowed := true }
def FnWorldEventsUptoSaid : Prop := fnWorldEventsUptoRow.holds Tryz.pinned (OpenSpec.upto fnWorldEventsSpec)

/-- 'laws.FnWorldFall', WHERE WHAT IT READS IS OF BULK AT MOST 1048576: true; the input reads as it did. -/
def fnWorldFallUptoRow : OpenClaim := { program := "ytkgpnfeabojhcaagreat", sum := "f283307855cbb370a2dc5c5aea2297300a9a1604806d5d4fe226bbdf6e218715", func := "loop.example/garner/laws.FnWorldFall", spec := "fnWorldFall", inPlace := ["internal/bytealg.abigen_runtime_cmpstring", "slices.overlaps[loop.example/garner/impl.Vol]"], unfollowed := true, recurses := true, apart := false, narrowed := true }
def FnWorldFallUptoSaid : Prop := fnWorldFallUptoRow.holds Tryz.pinned (OpenSpec.upto fnWorldFallSpec)

/-- 'laws.FnWorldIdle', WHERE WHAT IT READS IS OF BULK AT MOST 1048576: true; the input reads as it did. -/
def fnWorldIdleUptoRow : OpenClaim := { program := "ytkgpnfeabojhcaagreat", sum := "f283307855cbb370a2dc5c5aea2297300a9a1604806d5d4fe226bbdf6e218715", func := "loop.example/garner/laws.FnWorldIdle", spec := "fnWorldIdle", inPlace := ["internal/bytealg.abigen_runtime_cmpstring", "slices.overlaps[loop.example/garner/impl.Vol]"], unfollowed := true, recurses := true, apart := false, narrowed := true }
def FnWorldIdleUptoSaid : Prop := fnWorldIdleUptoRow.holds Tryz.pinned (OpenSpec.upto fnWorldIdleSpec)

/-- 'laws.FnWorldLose', WHERE WHAT IT READS IS OF BULK AT MOST 1048576: true; the input reads as it did. -/
def fnWorldLoseUptoRow : OpenClaim := { program := "ytkgpnfeabojhcaagreat", sum := "f283307855cbb370a2dc5c5aea2297300a9a1604806d5d4fe226bbdf6e218715", func := "loop.example/garner/laws.FnWorldLose", spec := "fnWorldLose", inPlace := ["internal/bytealg.abigen_runtime_cmpstring", "slices.overlaps[loop.example/garner/impl.Vol]"], unfollowed := true, recurses := true, apart := false, narrowed := true }
def FnWorldLoseUptoSaid : Prop := fnWorldLoseUptoRow.holds Tryz.pinned (OpenSpec.upto fnWorldLoseSpec)

/-- 'laws.FnWorldGoOn', WHERE WHAT IT READS IS OF BULK AT MOST 1048576: true; the input reads as it did. -/
def fnWorldGoOnUptoRow : OpenClaim := { program := "ytkgpnfeabojhcaagreat", sum := "f283307855cbb370a2dc5c5aea2297300a9a1604806d5d4fe226bbdf6e218715", func := "loop.example/garner/laws.FnWorldGoOn", spec := "fnWorldGoOn", inPlace := ["internal/bytealg.abigen_runtime_cmpstring", "slices.overlaps[loop.example/garner/impl.Vol]"], unfollowed := true, recurses := true, apart := false, narrowed := true }
def FnWorldGoOnUptoSaid : Prop := fnWorldGoOnUptoRow.holds Tryz.pinned (OpenSpec.upto fnWorldGoOnSpec)

/-- 'laws.FnWorldDo', WHERE WHAT IT READS IS OF BULK AT MOST 1048576: true; the input reads as it did. -/
def fnWorldDoUptoRow : OpenClaim := { program := "ytkgpnfeabojhcaagreat", sum := "f283307855cbb370a2dc5c5aea2297300a9a1604806d5d4fe226bbdf6e218715", func := "loop.example/garner/laws.FnWorldDo", spec := "fnWorldDo", inPlace := ["internal/bytealg.abigen_runtime_cmpstring", "slices.overlaps[loop.example/garner/impl.Vol]"], unfollowed := true, recurses := true, apart := false, narrowed := true }
def FnWorldDoUptoSaid : Prop := fnWorldDoUptoRow.holds Tryz.pinned (OpenSpec.upto fnWorldDoSpec)

/-- 'laws.FnExactWorldPlay', WHERE WHAT IT READS IS OF BULK AT MOST 1048576: true; the input reads as it did. -/
def fnExactWorldPlayUptoRow : OpenClaim := { program := "ytkgpnfeabojhcaagreat", sum := "f283307855cbb370a2dc5c5aea2297300a9a1604806d5d4fe226bbdf6e218715", func := "loop.example/garner/laws.FnExactWorldPlay", spec := "fnExactWorldPlay", inPlace := ["internal/bytealg.abigen_runtime_cmpstring", "slices.overlaps[loop.example/garner/impl.Vol]"], unfollowed := true, recurses := true, apart := false, narrowed := true }
def FnExactWorldPlayUptoSaid : Prop := fnExactWorldPlayUptoRow.holds Tryz.pinned (OpenSpec.upto fnExactWorldPlaySpec)

/-- 'laws.FnExactWorldCalm', WHERE WHAT IT READS IS OF BULK AT MOST 1048576: true; the input reads as it did. -/
def fnExactWorldCalmUptoRow : OpenClaim := { program := "ytkgpnfeabojhcaagreat", sum := "f283307855cbb370a2dc5c5aea2297300a9a1604806d5d4fe226bbdf6e218715", func := "loop.example/garner/laws.FnExactWorldCalm", spec := "fnExactWorldCalm", inPlace := ["internal/bytealg.abigen_runtime_cmpstring", "slices.overlaps[loop.example/garner/impl.Vol]"], unfollowed := true, recurses := true, apart := false, narrowed := true }
def FnExactWorldCalmUptoSaid : Prop := fnExactWorldCalmUptoRow.holds Tryz.pinned (OpenSpec.upto fnExactWorldCalmSpec)

/-- 'laws.FnExactWorldDo', WHERE WHAT IT READS IS OF BULK AT MOST 1048576: true; the input reads as it did. -/
def fnExactWorldDoUptoRow : OpenClaim := { program := "ytkgpnfeabojhcaagreat", sum := "f283307855cbb370a2dc5c5aea2297300a9a1604806d5d4fe226bbdf6e218715", func := "loop.example/garner/laws.FnExactWorldDo", spec := "fnExactWorldDo", inPlace := ["internal/bytealg.abigen_runtime_cmpstring", "slices.overlaps[loop.example/garner/impl.Vol]"], unfollowed := true, recurses := true, apart := false, narrowed := true }
def FnExactWorldDoUptoSaid : Prop := fnExactWorldDoUptoRow.holds Tryz.pinned (OpenSpec.upto fnExactWorldDoSpec)

end Rows
end Go.Proofs.YtkgpnfeabojhcaaGreat
