/-
  No cell of these rows narrows 'for every input' (looked for: loops, veiled, ifaces, maps, wideKeys, modest, calm, conditions, laid).
  DERIVED. THE GIVEN ROWS OF THIS SEAT. 8 by the template 'for every input the law returns true; each argument reads behind the call as it read before'; 0 by the template 'total and deterministic' (their statements: YtfbjaaboffmlfaaTotals.lean).
  GIVEN WITH THE SEED: the statements are not yours to turn. If you find one false, say at which input.
  Laid BY PROGRAM, IN A SANDBOX (cutbox-rows.mjs): the forced cells as the released guide's own fill.sh prints them over the translation 77abc18325b2676a… (all of the seat's roots in one cut). By AI agents, Wed Nov 11 2026. No macro, syntax, notation, axiom, sorry.
-/
import Derived.Test.YtfbjaaboffmlfaaChecked
import GoSem.Claim
import GoSem.ClaimJoined
import GoSem.ClaimMapViews
import Derived.JoinedTies
import Derived.KernelRfl
namespace Go.Proofs.Ytfbjaaboffmlfaa
/- THE CELL 'sum', in the pinned program and in every row, IS THE sha256 OF THE DUMP (.gsa) THAT YtfbjaaboffmlfaaProg.lean LOADS. Nothing in Lean hashes anything: it is a label: what it is worth is what the hold of that sum in a sandbox is worth. -/
noncomputable def Try.pinned : Pinned := { name := "ytfbjaaboffmlfaa", sum := "77abc18325b2676a717f103b82c0a06d40bbae31d88cff7563f841d555cc4b8d", checked := Try.checked }
namespace Rows
def none {H : Type} : Left H := { results := [], args := [] }

/-- 'laws.FnExactSpoilByte': WHATEVER THE INPUT: true; the input reads as it did. -/
def fnExactSpoilByteSpec : ChangeSpec := { name := "fnExactSpoilByte", fn := fun _ => fun
  | [d1, d2, d3] => { results := [.lit (.bool true)], args := [d1, d2, d3] }
  | _ => none }
def fnExactSpoilByteRow : OpenClaim := { program := "ytfbjaaboffmlfaa", sum := "77abc18325b2676a717f103b82c0a06d40bbae31d88cff7563f841d555cc4b8d", func := "loop.example/g00698/laws.FnExactSpoilByte", spec := "fnExactSpoilByte", apart := false }
def FnExactSpoilByteSaid : Prop := fnExactSpoilByteRow.holds Try.pinned (OpenSpec.ofChange fnExactSpoilByteSpec)

/-- ITS FALSE NEIGHBOUR: 'it returns false'. Refute it at one input. -/
def fnExactSpoilByteWrong : ChangeSpec := { name := "fnExactSpoilByte", fn := fun _ => fun
  | [d1, d2, d3] => { results := [.lit (.bool false)], args := [d1, d2, d3] }
  | _ => none }
def FnExactSpoilByteWrongFalsely : Prop := fnExactSpoilByteRow.holds Try.pinned (OpenSpec.ofChange fnExactSpoilByteWrong)

/-- 'laws.FnExactWaitOf': WHATEVER THE INPUT: true; the input reads as it did. -/
def fnExactWaitOfSpec : ChangeSpec := { name := "fnExactWaitOf", fn := fun _ => fun
  | [d1, d2, d3] => { results := [.lit (.bool true)], args := [d1, d2, d3] }
  | _ => none }
def fnExactWaitOfRow : OpenClaim := { program := "ytfbjaaboffmlfaa", sum := "77abc18325b2676a717f103b82c0a06d40bbae31d88cff7563f841d555cc4b8d", func := "loop.example/g00698/laws.FnExactWaitOf", spec := "fnExactWaitOf", apart := false }
def FnExactWaitOfSaid : Prop := fnExactWaitOfRow.holds Try.pinned (OpenSpec.ofChange fnExactWaitOfSpec)

/-- ITS FALSE NEIGHBOUR: 'it returns false'. Refute it at one input. -/
def fnExactWaitOfWrong : ChangeSpec := { name := "fnExactWaitOf", fn := fun _ => fun
  | [d1, d2, d3] => { results := [.lit (.bool false)], args := [d1, d2, d3] }
  | _ => none }
def FnExactWaitOfWrongFalsely : Prop := fnExactWaitOfRow.holds Try.pinned (OpenSpec.ofChange fnExactWaitOfWrong)

/-- 'laws.FnExactNewWatch': WHATEVER THE INPUT: true; the input reads as it did. -/
def fnExactNewWatchSpec : ChangeSpec := { name := "fnExactNewWatch", fn := fun _ => fun
  | [d1, d2] => { results := [.lit (.bool true)], args := [d1, d2] }
  | _ => none }
def fnExactNewWatchRow : OpenClaim := { program := "ytfbjaaboffmlfaa", sum := "77abc18325b2676a717f103b82c0a06d40bbae31d88cff7563f841d555cc4b8d", func := "loop.example/g00698/laws.FnExactNewWatch", spec := "fnExactNewWatch", apart := false }
def FnExactNewWatchSaid : Prop := fnExactNewWatchRow.holds Try.pinned (OpenSpec.ofChange fnExactNewWatchSpec)

/-- ITS FALSE NEIGHBOUR: 'it returns false'. Refute it at one input. -/
def fnExactNewWatchWrong : ChangeSpec := { name := "fnExactNewWatch", fn := fun _ => fun
  | [d1, d2] => { results := [.lit (.bool false)], args := [d1, d2] }
  | _ => none }
def FnExactNewWatchWrongFalsely : Prop := fnExactNewWatchRow.holds Try.pinned (OpenSpec.ofChange fnExactNewWatchWrong)

/-- 'laws.FnExactHasRound': WHATEVER THE INPUT: true; the input reads as it did. -/
def fnExactHasRoundSpec : ChangeSpec := { name := "fnExactHasRound", fn := fun _ => fun
  | [d1, d2] => { results := [.lit (.bool true)], args := [d1, d2] }
  | _ => none }
def fnExactHasRoundRow : OpenClaim := { program := "ytfbjaaboffmlfaa", sum := "77abc18325b2676a717f103b82c0a06d40bbae31d88cff7563f841d555cc4b8d", func := "loop.example/g00698/laws.FnExactHasRound", spec := "fnExactHasRound", unfollowed := true, recurses := true, apart := false }
def FnExactHasRoundSaid : Prop := fnExactHasRoundRow.holds Try.pinned (OpenSpec.ofChange fnExactHasRoundSpec)

/-- ITS FALSE NEIGHBOUR: 'it returns false'. Refute it at one input. -/
def fnExactHasRoundWrong : ChangeSpec := { name := "fnExactHasRound", fn := fun _ => fun
  | [d1, d2] => { results := [.lit (.bool false)], args := [d1, d2] }
  | _ => none }
def FnExactHasRoundWrongFalsely : Prop := fnExactHasRoundRow.holds Try.pinned (OpenSpec.ofChange fnExactHasRoundWrong)

/-- 'laws.FnExactGoodPlaces': WHATEVER THE INPUT: true; the input reads as it did. -/
def fnExactGoodPlacesSpec : ChangeSpec := { name := "fnExactGoodPlaces", fn := fun _ => fun
  | [d1, d2] => { results := [.lit (.bool true)], args := [d1, d2] }
  | _ => none }
def fnExactGoodPlacesRow : OpenClaim := { program := "ytfbjaaboffmlfaa", sum := "77abc18325b2676a717f103b82c0a06d40bbae31d88cff7563f841d555cc4b8d", func := "loop.example/g00698/laws.FnExactGoodPlaces", spec := "fnExactGoodPlaces", unfollowed := true, recurses := true, apart := false }
def FnExactGoodPlacesSaid : Prop := fnExactGoodPlacesRow.holds Try.pinned (OpenSpec.ofChange fnExactGoodPlacesSpec)

/-- ITS FALSE NEIGHBOUR: 'it returns false'. Refute it at one input. -/
def fnExactGoodPlacesWrong : ChangeSpec := { name := "fnExactGoodPlaces", fn := fun _ => fun
  | [d1, d2] => { results := [.lit (.bool false)], args := [d1, d2] }
  | _ => none }
def FnExactGoodPlacesWrongFalsely : Prop := fnExactGoodPlacesRow.holds Try.pinned (OpenSpec.ofChange fnExactGoodPlacesWrong)

/-- 'laws.FnExactGoodWatch': WHATEVER THE INPUT: true; the input reads as it did. -/
def fnExactGoodWatchSpec : ChangeSpec := { name := "fnExactGoodWatch", fn := fun _ => fun
  | [d] => { results := [.lit (.bool true)], args := [d] }
  | _ => none }
def fnExactGoodWatchRow : OpenClaim := { program := "ytfbjaaboffmlfaa", sum := "77abc18325b2676a717f103b82c0a06d40bbae31d88cff7563f841d555cc4b8d", func := "loop.example/g00698/laws.FnExactGoodWatch", spec := "fnExactGoodWatch", unfollowed := true, recurses := true, apart := false }
def FnExactGoodWatchSaid : Prop := fnExactGoodWatchRow.holds Try.pinned (OpenSpec.ofChange fnExactGoodWatchSpec)

/-- ITS FALSE NEIGHBOUR: 'it returns false'. Refute it at one input. -/
def fnExactGoodWatchWrong : ChangeSpec := { name := "fnExactGoodWatch", fn := fun _ => fun
  | [d] => { results := [.lit (.bool false)], args := [d] }
  | _ => none }
def FnExactGoodWatchWrongFalsely : Prop := fnExactGoodWatchRow.holds Try.pinned (OpenSpec.ofChange fnExactGoodWatchWrong)

/-- 'laws.FnExactGoodCheck': WHATEVER THE INPUT: true; the input reads as it did. -/
def fnExactGoodCheckSpec : ChangeSpec := { name := "fnExactGoodCheck", fn := fun _ => fun
  | [d1, d2] => { results := [.lit (.bool true)], args := [d1, d2] }
  | _ => none }
def fnExactGoodCheckRow : OpenClaim := { program := "ytfbjaaboffmlfaa", sum := "77abc18325b2676a717f103b82c0a06d40bbae31d88cff7563f841d555cc4b8d", func := "loop.example/g00698/laws.FnExactGoodCheck", spec := "fnExactGoodCheck", unfollowed := true, recurses := true, apart := false }
def FnExactGoodCheckSaid : Prop := fnExactGoodCheckRow.holds Try.pinned (OpenSpec.ofChange fnExactGoodCheckSpec)

/-- ITS FALSE NEIGHBOUR: 'it returns false'. Refute it at one input. -/
def fnExactGoodCheckWrong : ChangeSpec := { name := "fnExactGoodCheck", fn := fun _ => fun
  | [d1, d2] => { results := [.lit (.bool false)], args := [d1, d2] }
  | _ => none }
def FnExactGoodCheckWrongFalsely : Prop := fnExactGoodCheckRow.holds Try.pinned (OpenSpec.ofChange fnExactGoodCheckWrong)

/-- 'laws.FnExactHostsOf': WHATEVER THE INPUT: true; the input reads as it did. -/
def fnExactHostsOfSpec : ChangeSpec := { name := "fnExactHostsOf", fn := fun _ => fun
  | [d1, d2, d3] => { results := [.lit (.bool true)], args := [d1, d2, d3] }
  | _ => none }
def fnExactHostsOfRow : OpenClaim := { program := "ytfbjaaboffmlfaa", sum := "77abc18325b2676a717f103b82c0a06d40bbae31d88cff7563f841d555cc4b8d", func := "loop.example/g00698/laws.FnExactHostsOf", spec := "fnExactHostsOf", unfollowed := true, recurses := true, apart := false }
def FnExactHostsOfSaid : Prop := fnExactHostsOfRow.holds Try.pinned (OpenSpec.ofChange fnExactHostsOfSpec)

/-- ITS FALSE NEIGHBOUR: 'it returns false'. Refute it at one input. -/
def fnExactHostsOfWrong : ChangeSpec := { name := "fnExactHostsOf", fn := fun _ => fun
  | [d1, d2, d3] => { results := [.lit (.bool false)], args := [d1, d2, d3] }
  | _ => none }
def FnExactHostsOfWrongFalsely : Prop := fnExactHostsOfRow.holds Try.pinned (OpenSpec.ofChange fnExactHostsOfWrong)

/- THE SECOND FORM. 'bulk': how many values and letters a reading holds, each counted each time it is reached (what is shared counts as often as it is met; a slice's spare places count too). A statement '..UptoSaid' is the law's where the arguments, and the package variables that the reading takes, are together of bulk at most 1048576: NARROWER than '..Said'. Prove '..Said' where nothing that the law and all that it calls make is longer than what came in: it says more and counts as full. Else prove '..UptoSaid'. A law counts once. -/
mutual
def uptoBulk {H : Type} : DataW H → Nat
  | .lit (.string bytes) => bytes.length + 1
  | .lit _ => 1
  | .nil => 1
  | .ptr d => uptoBulk d + 1
  | .slice elems spare => uptoBulkAll elems + uptoBulkAll spare + 1
  | .agg parts => uptoBulkAll parts + 1
  | .iface _ d => uptoBulk d + 1
  | .map entries => uptoBulkEntries entries + 1
  | .held _ => 1
def uptoBulkAll {H : Type} : List (DataW H) → Nat
  | [] => 0
  | d :: r => uptoBulk d + uptoBulkAll r
def uptoBulkEntries {H : Type} : List (Lit × DataW H) → Nat
  | [] => 0
  | x :: r => uptoBulkEntry x + uptoBulkEntries r
def uptoBulkEntry {H : Type} : Lit × DataW H → Nat
  | (.string bytes, d) => bytes.length + uptoBulk d + 1
  | (_, d) => uptoBulk d + 1
 end
def uptoSmall : (H : Type) → List (DataW H) → Bool := fun _ ds => decide (uptoBulkAll ds ≤ 1048576)
def OpenSpec.upto (s : _root_.Go.ChangeSpec) : _root_.Go.OpenSpec := { _root_.Go.OpenSpec.ofChange s with cond := some uptoSmall }

/-- 'laws.FnExactSpoilByte', WHERE WHAT IT READS IS OF BULK AT MOST 1048576: true; the input reads as it did. -/
def fnExactSpoilByteUptoRow : OpenClaim := { program := "ytfbjaaboffmlfaa", sum := "77abc18325b2676a717f103b82c0a06d40bbae31d88cff7563f841d555cc4b8d", func := "loop.example/g00698/laws.FnExactSpoilByte", spec := "fnExactSpoilByte", apart := false, narrowed := true }
def FnExactSpoilByteUptoSaid : Prop := fnExactSpoilByteUptoRow.holds Try.pinned (OpenSpec.upto fnExactSpoilByteSpec)

/-- 'laws.FnExactWaitOf', WHERE WHAT IT READS IS OF BULK AT MOST 1048576: true; the input reads as it did. -/
def fnExactWaitOfUptoRow : OpenClaim := { program := "ytfbjaaboffmlfaa", sum := "77abc18325b2676a717f103b82c0a06d40bbae31d88cff7563f841d555cc4b8d", func := "loop.example/g00698/laws.FnExactWaitOf", spec := "fnExactWaitOf", apart := false, narrowed := true }
def FnExactWaitOfUptoSaid : Prop := fnExactWaitOfUptoRow.holds Try.pinned (OpenSpec.upto fnExactWaitOfSpec)

/-- 'laws.FnExactNewWatch', WHERE WHAT IT READS IS OF BULK AT MOST 1048576: true; the input reads as it did. -/
def fnExactNewWatchUptoRow : OpenClaim := { program := "ytfbjaaboffmlfaa", sum := "77abc18325b2676a717f103b82c0a06d40bbae31d88cff7563f841d555cc4b8d", func := "loop.example/g00698/laws.FnExactNewWatch", spec := "fnExactNewWatch", apart := false, narrowed := true }
def FnExactNewWatchUptoSaid : Prop := fnExactNewWatchUptoRow.holds Try.pinned (OpenSpec.upto fnExactNewWatchSpec)

/-- 'laws.FnExactHasRound', WHERE WHAT IT READS IS OF BULK AT MOST 1048576: true; the input reads as it did. -/
def fnExactHasRoundUptoRow : OpenClaim := { program := "ytfbjaaboffmlfaa", sum := "77abc18325b2676a717f103b82c0a06d40bbae31d88cff7563f841d555cc4b8d", func := "loop.example/g00698/laws.FnExactHasRound", spec := "fnExactHasRound", unfollowed := true, recurses := true, apart := false, narrowed := true }
def FnExactHasRoundUptoSaid : Prop := fnExactHasRoundUptoRow.holds Try.pinned (OpenSpec.upto fnExactHasRoundSpec)

/-- 'laws.FnExactGoodPlaces', WHERE WHAT IT READS IS OF BULK AT MOST 1048576: true; the input reads as it did. -/
def fnExactGoodPlacesUptoRow : OpenClaim := { program := "ytfbjaaboffmlfaa", sum := "77abc18325b2676a717f103b82c0a06d40bbae31d88cff7563f841d555cc4b8d", func := "loop.example/g00698/laws.FnExactGoodPlaces", spec := "fnExactGoodPlaces", unfollowed := true, recurses := true, apart := false, narrowed := true }
def FnExactGoodPlacesUptoSaid : Prop := fnExactGoodPlacesUptoRow.holds Try.pinned (OpenSpec.upto fnExactGoodPlacesSpec)

/-- 'laws.FnExactGoodWatch', WHERE WHAT IT READS IS OF BULK AT MOST 1048576: true; the input reads as it did. -/
def fnExactGoodWatchUptoRow : OpenClaim := { program := "ytfbjaaboffmlfaa", sum := "77abc18325b2676a717f103b82c0a06d40bbae31d88cff7563f841d555cc4b8d", func := "loop.example/g00698/laws.FnExactGoodWatch", spec := "fnExactGoodWatch", unfollowed := true, recurses := true, apart := false, narrowed := true }
def FnExactGoodWatchUptoSaid : Prop := fnExactGoodWatchUptoRow.holds Try.pinned (OpenSpec.upto fnExactGoodWatchSpec)

/-- 'laws.FnExactGoodCheck', WHERE WHAT IT READS IS OF BULK AT MOST 1048576: true; the input reads as it did. -/
def fnExactGoodCheckUptoRow : OpenClaim := { program := "ytfbjaaboffmlfaa", sum := "77abc18325b2676a717f103b82c0a06d40bbae31d88cff7563f841d555cc4b8d", func := "loop.example/g00698/laws.FnExactGoodCheck", spec := "fnExactGoodCheck", unfollowed := true, recurses := true, apart := false, narrowed := true }
def FnExactGoodCheckUptoSaid : Prop := fnExactGoodCheckUptoRow.holds Try.pinned (OpenSpec.upto fnExactGoodCheckSpec)

/-- 'laws.FnExactHostsOf', WHERE WHAT IT READS IS OF BULK AT MOST 1048576: true; the input reads as it did. -/
def fnExactHostsOfUptoRow : OpenClaim := { program := "ytfbjaaboffmlfaa", sum := "77abc18325b2676a717f103b82c0a06d40bbae31d88cff7563f841d555cc4b8d", func := "loop.example/g00698/laws.FnExactHostsOf", spec := "fnExactHostsOf", unfollowed := true, recurses := true, apart := false, narrowed := true }
def FnExactHostsOfUptoSaid : Prop := fnExactHostsOfUptoRow.holds Try.pinned (OpenSpec.upto fnExactHostsOfSpec)

end Rows
end Go.Proofs.Ytfbjaaboffmlfaa
