/-
  No cell of these rows narrows 'for every input' (looked for: loops, veiled, ifaces, maps, wideKeys, modest, calm, conditions, laid).
  DERIVED. THE GIVEN ROWS OF THIS SEAT. 6 by the template 'for every input the law returns true; each argument reads behind the call as it read before'; 0 by the template 'total and deterministic' (their statements: YtdcbankajhnepaaGreatTotals.lean).
  GIVEN WITH THE SEED: the statements are not yours to turn. If you find one false, say at which input.
  Laid BY PROGRAM, IN A SANDBOX (cutbox-rows.mjs): the forced cells as the released guide's own fill.sh prints them over the translation 7518968273c063d5… (all of the seat's roots in one cut). By AI agents, Wed Nov 11 2026. No macro, syntax, notation, axiom, sorry.
-/
import Derived.Test.YtdcbankajhnepaaGreatChecked
import GoSem.Claim
import GoSem.ClaimJoined
import GoSem.ClaimMapViews
import Derived.JoinedTies
import Derived.KernelRfl
namespace Go.Proofs.YtdcbankajhnepaaGreat
/- THE CELL 'sum', in the pinned program and in every row, IS THE sha256 OF THE DUMP (.gsa) THAT YtdcbankajhnepaaGreatProg.lean LOADS. Nothing in Lean hashes anything: it is a label: what it is worth is what the hold of that sum in a sandbox is worth. -/
noncomputable def Tryz.pinned : Pinned := { name := "ytdcbankajhnepaagreat", sum := "7518968273c063d53512ffb35ac2c19caa36af6c6ca23d321e9c860b7d86741b", checked := Tryz.checked }
namespace Rows
def none {H : Type} : Left H := { results := [], args := [] }

/-- 'laws.FnWatched': WHATEVER THE INPUT: true; the input reads as it did. -/
def fnWatchedSpec : ChangeSpec := { name := "fnWatched", fn := fun _ => fun
  | [d1, d2] => { results := [.lit (.bool true)], args := [d1, d2] }
  | _ => none }
def fnWatchedRow : OpenClaim := { program := "ytdcbankajhnepaagreat", sum := "7518968273c063d53512ffb35ac2c19caa36af6c6ca23d321e9c860b7d86741b", func := "loop.example/g00698/laws.FnWatched", spec := "fnWatched", unfollowed := true, recurses := true, apart := false }
def FnWatchedSaid : Prop := fnWatchedRow.holds Tryz.pinned (OpenSpec.ofChange fnWatchedSpec)

/-- ITS FALSE NEIGHBOUR: 'it returns false'. Refute it at one input. -/
def fnWatchedWrong : ChangeSpec := { name := "fnWatched", fn := fun _ => fun
  | [d1, d2] => { results := [.lit (.bool false)], args := [d1, d2] }
  | _ => none }
def FnWatchedWrongFalsely : Prop := fnWatchedRow.holds Tryz.pinned (OpenSpec.ofChange fnWatchedWrong)

/-- 'laws.FnExactPlayWatch': WHATEVER THE INPUT: true; the input reads as it did. -/
def fnExactPlayWatchSpec : ChangeSpec := { name := "fnExactPlayWatch", fn := fun _ => fun
  | [d1, d2, d3] => { results := [.lit (.bool true)], args := [d1, d2, d3] }
  | _ => none }
def fnExactPlayWatchRow : OpenClaim := { program := "ytdcbankajhnepaagreat", sum := "7518968273c063d53512ffb35ac2c19caa36af6c6ca23d321e9c860b7d86741b", func := "loop.example/g00698/laws.FnExactPlayWatch", spec := "fnExactPlayWatch", unfollowed := true, recurses := true, apart := false }
def FnExactPlayWatchSaid : Prop := fnExactPlayWatchRow.holds Tryz.pinned (OpenSpec.ofChange fnExactPlayWatchSpec)

/-- ITS FALSE NEIGHBOUR: 'it returns false'. Refute it at one input. -/
def fnExactPlayWatchWrong : ChangeSpec := { name := "fnExactPlayWatch", fn := fun _ => fun
  | [d1, d2, d3] => { results := [.lit (.bool false)], args := [d1, d2, d3] }
  | _ => none }
def FnExactPlayWatchWrongFalsely : Prop := fnExactPlayWatchRow.holds Tryz.pinned (OpenSpec.ofChange fnExactPlayWatchWrong)

/-- 'laws.FnExactMarksOf': WHATEVER THE INPUT: true; the input reads as it did. -/
def fnExactMarksOfSpec : ChangeSpec := { name := "fnExactMarksOf", fn := fun _ => fun
  | [d] => { results := [.lit (.bool true)], args := [d] }
  | _ => none }
def fnExactMarksOfRow : OpenClaim := { program := "ytdcbankajhnepaagreat", sum := "7518968273c063d53512ffb35ac2c19caa36af6c6ca23d321e9c860b7d86741b", func := "loop.example/g00698/laws.FnExactMarksOf", spec := "fnExactMarksOf", unfollowed := true, recurses := true, apart := false }
def FnExactMarksOfSaid : Prop := fnExactMarksOfRow.holds Tryz.pinned (OpenSpec.ofChange fnExactMarksOfSpec)

/-- ITS FALSE NEIGHBOUR: 'it returns false'. Refute it at one input. -/
def fnExactMarksOfWrong : ChangeSpec := { name := "fnExactMarksOf", fn := fun _ => fun
  | [d] => { results := [.lit (.bool false)], args := [d] }
  | _ => none }
def FnExactMarksOfWrongFalsely : Prop := fnExactMarksOfRow.holds Tryz.pinned (OpenSpec.ofChange fnExactMarksOfWrong)

/-- 'laws.FnExactCheckAt': WHATEVER THE INPUT: true; the input reads as it did. -/
def fnExactCheckAtSpec : ChangeSpec := { name := "fnExactCheckAt", fn := fun _ => fun
  | [d1, d2] => { results := [.lit (.bool true)], args := [d1, d2] }
  | _ => none }
def fnExactCheckAtRow : OpenClaim := { program := "ytdcbankajhnepaagreat", sum := "7518968273c063d53512ffb35ac2c19caa36af6c6ca23d321e9c860b7d86741b", func := "loop.example/g00698/laws.FnExactCheckAt", spec := "fnExactCheckAt", unfollowed := true, recurses := true, apart := false }
def FnExactCheckAtSaid : Prop := fnExactCheckAtRow.holds Tryz.pinned (OpenSpec.ofChange fnExactCheckAtSpec)

/-- ITS FALSE NEIGHBOUR: 'it returns false'. Refute it at one input. -/
def fnExactCheckAtWrong : ChangeSpec := { name := "fnExactCheckAt", fn := fun _ => fun
  | [d1, d2] => { results := [.lit (.bool false)], args := [d1, d2] }
  | _ => none }
def FnExactCheckAtWrongFalsely : Prop := fnExactCheckAtRow.holds Tryz.pinned (OpenSpec.ofChange fnExactCheckAtWrong)

/-- 'laws.FnExactResumeAt': WHATEVER THE INPUT: true; the input reads as it did. -/
def fnExactResumeAtSpec : ChangeSpec := { name := "fnExactResumeAt", fn := fun _ => fun
  | [d1, d2] => { results := [.lit (.bool true)], args := [d1, d2] }
  | _ => none }
def fnExactResumeAtRow : OpenClaim := { program := "ytdcbankajhnepaagreat", sum := "7518968273c063d53512ffb35ac2c19caa36af6c6ca23d321e9c860b7d86741b", func := "loop.example/g00698/laws.FnExactResumeAt", spec := "fnExactResumeAt", unfollowed := true, recurses := true, apart := false }
def FnExactResumeAtSaid : Prop := fnExactResumeAtRow.holds Tryz.pinned (OpenSpec.ofChange fnExactResumeAtSpec)

/-- ITS FALSE NEIGHBOUR: 'it returns false'. Refute it at one input. -/
def fnExactResumeAtWrong : ChangeSpec := { name := "fnExactResumeAt", fn := fun _ => fun
  | [d1, d2] => { results := [.lit (.bool false)], args := [d1, d2] }
  | _ => none }
def FnExactResumeAtWrongFalsely : Prop := fnExactResumeAtRow.holds Tryz.pinned (OpenSpec.ofChange fnExactResumeAtWrong)

/-- 'laws.FnExactCommonMarks': WHATEVER THE INPUT: true; the input reads as it did. -/
def fnExactCommonMarksSpec : ChangeSpec := { name := "fnExactCommonMarks", fn := fun _ => fun
  | [d] => { results := [.lit (.bool true)], args := [d] }
  | _ => none }
def fnExactCommonMarksRow : OpenClaim := { program := "ytdcbankajhnepaagreat", sum := "7518968273c063d53512ffb35ac2c19caa36af6c6ca23d321e9c860b7d86741b", func := "loop.example/g00698/laws.FnExactCommonMarks", spec := "fnExactCommonMarks", unfollowed := true, recurses := true, apart := false }
def FnExactCommonMarksSaid : Prop := fnExactCommonMarksRow.holds Tryz.pinned (OpenSpec.ofChange fnExactCommonMarksSpec)

/-- ITS FALSE NEIGHBOUR: 'it returns false'. Refute it at one input. -/
def fnExactCommonMarksWrong : ChangeSpec := { name := "fnExactCommonMarks", fn := fun _ => fun
  | [d] => { results := [.lit (.bool false)], args := [d] }
  | _ => none }
def FnExactCommonMarksWrongFalsely : Prop := fnExactCommonMarksRow.holds Tryz.pinned (OpenSpec.ofChange fnExactCommonMarksWrong)

/- THE SECOND FORM. 'bulk': how many values and letters a reading holds, each counted each time it is reached (what is shared counts as often as it is met; a slice's spare places count too). A statement '..UptoSaid' is the law's where the arguments, and the package variables that the reading takes, are together of bulk at most 1048576: NARROWER than '..Said'. Prove '..Said' where nothing that the law and all that it calls make is longer than what came in: it says more and counts as full. Else prove '..UptoSaid'. A law counts once. -/
mutual
def uptoBulk {H : Type} : DataW H → Nat
  | .lit (.string bytes) => bytes.length + 1
  | .lit _ => 1
  | .nil => 1
  | .ptr d => uptoBulk d + 1
  | .slice elems spare => uptoBulkAll elems + uptoBulkAll spare + 1
  | .agg parts => uptoBulkAll parts + 1
  | .iface _ d => uptoBulk d + 1
  | .map entries => uptoBulkEntries entries + 1
  | .held _ => 1
def uptoBulkAll {H : Type} : List (DataW H) → Nat
  | [] => 0
  | d :: r => uptoBulk d + uptoBulkAll r
def uptoBulkEntries {H : Type} : List (Lit × DataW H) → Nat
  | [] => 0
  | x :: r => uptoBulkEntry x + uptoBulkEntries r
def uptoBulkEntry {H : Type} : Lit × DataW H → Nat
  | (.string bytes, d) => bytes.length + uptoBulk d + 1
  | (_, d) => uptoBulk d + 1
 end
def uptoSmall : (H : Type) → List (DataW H) → Bool := fun _ ds => decide (uptoBulkAll ds ≤ 1048576)
def OpenSpec.upto (s : _root_.Go.ChangeSpec) : _root_.Go.OpenSpec := { _root_.Go.OpenSpec.ofChange s with cond := some uptoSmall }

/-- 'laws.FnWatched', WHERE WHAT IT READS IS OF BULK AT MOST 1048576: true; the input reads as it did. -/
def fnWatchedUptoRow : OpenClaim := { program := "ytdcbankajhnepaagreat", sum := "7518968273c063d53512ffb35ac2c19caa36af6c6ca23d321e9c860b7d86741b", func := "loop.example/g00698/laws.FnWatched", spec := "fnWatched", unfollowed := true, recurses := true, apart := false, narrowed := true }
def FnWatchedUptoSaid : Prop := fnWatchedUptoRow.holds Tryz.pinned (OpenSpec.upto fnWatchedSpec)

/-- 'laws.FnExactPlayWatch', WHERE WHAT IT READS IS OF BULK AT MOST 1048576: true; the input reads as it did. -/
def fnExactPlayWatchUptoRow : OpenClaim := { program := "ytdcbankajhnepaagreat", sum := "7518968273c063d53512ffb35ac2c19caa36af6c6ca23d321e9c860b7d86741b", func := "loop.example/g00698/laws.FnExactPlayWatch", spec := "fnExactPlayWatch", unfollowed := true, recurses := true, apart := false, narrowed := true }
def FnExactPlayWatchUptoSaid : Prop := fnExactPlayWatchUptoRow.holds Tryz.pinned (OpenSpec.upto fnExactPlayWatchSpec)

/-- 'laws.FnExactMarksOf', WHERE WHAT IT READS IS OF BULK AT MOST 1048576: true; the input reads as it did. -/
def fnExactMarksOfUptoRow : OpenClaim := { program := "ytdcbankajhnepaagreat", sum := "7518968273c063d53512ffb35ac2c19caa36af6c6ca23d321e9c860b7d86741b", func := "loop.example/g00698/laws.FnExactMarksOf", spec := "fnExactMarksOf", unfollowed := true, recurses := true, apart := false, narrowed := true }
def FnExactMarksOfUptoSaid : Prop := fnExactMarksOfUptoRow.holds Tryz.pinned (OpenSpec.upto fnExactMarksOfSpec)

/-- 'laws.FnExactCheckAt', WHERE WHAT IT READS IS OF BULK AT MOST 1048576: true; the input reads as it did. -/
def fnExactCheckAtUptoRow : OpenClaim := { program := "ytdcbankajhnepaagreat", sum := "7518968273c063d53512ffb35ac2c19caa36af6c6ca23d321e9c860b7d86741b", func := "loop.example/g00698/laws.FnExactCheckAt", spec := "fnExactCheckAt", unfollowed := true, recurses := true, apart := false, narrowed := true }
def FnExactCheckAtUptoSaid : Prop := fnExactCheckAtUptoRow.holds Tryz.pinned (OpenSpec.upto fnExactCheckAtSpec)

/-- 'laws.FnExactResumeAt', WHERE WHAT IT READS IS OF BULK AT MOST 1048576: true; the input reads as it did. -/
def fnExactResumeAtUptoRow : OpenClaim := { program := "ytdcbankajhnepaagreat", sum := "7518968273c063d53512ffb35ac2c19caa36af6c6ca23d321e9c860b7d86741b", func := "loop.example/g00698/laws.FnExactResumeAt", spec := "fnExactResumeAt", unfollowed := true, recurses := true, apart := false, narrowed := true }
def FnExactResumeAtUptoSaid : Prop := fnExactResumeAtUptoRow.holds Tryz.pinned (OpenSpec.upto fnExactResumeAtSpec)

/-- 'laws.FnExactCommonMarks', WHERE WHAT IT READS IS OF BULK AT MOST 1048576: true; the input reads as it did. -/
def fnExactCommonMarksUptoRow : OpenClaim := { program := "ytdcbankajhnepaagreat", sum := "7518968273c063d53512ffb35ac2c19caa36af6c6ca23d321e9c860b7d86741b", func := "loop.example/g00698/laws.FnExactCommonMarks", spec := "fnExactCommonMarks", unfollowed := true, recurses := true, apart := false, narrowed := true }
def FnExactCommonMarksUptoSaid : Prop := fnExactCommonMarksUptoRow.holds Tryz.pinned (OpenSpec.upto fnExactCommonMarksSpec)

end Rows
end Go.Proofs.YtdcbankajhnepaaGreat
