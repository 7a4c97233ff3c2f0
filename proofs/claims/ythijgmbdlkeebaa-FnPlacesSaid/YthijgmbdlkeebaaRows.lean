/-
  No cell of these rows narrows 'for every input' (looked for: loops, veiled, ifaces, maps, wideKeys, modest, calm, conditions, laid).
  DERIVED. THE GIVEN ROWS OF THIS SEAT. 7 by the template 'for every input the law returns true; each argument reads behind the call as it read before'; 0 by the template 'total and deterministic' (their statements: YthijgmbdlkeebaaTotals.lean).
  GIVEN WITH THE SEED: the statements are not yours to turn. If you find one false, say at which input.
  Laid BY PROGRAM, IN A SANDBOX (cutbox-rows.mjs): the forced cells as the released guide's own fill.sh prints them over the translation 2d5462d238be0c85… (all of the seat's roots in one cut). By AI agents, Wed Nov 11 2026. No macro, syntax, notation, axiom, sorry.
-/
import Derived.Test.YthijgmbdlkeebaaChecked
import GoSem.Claim
import GoSem.ClaimJoined
import GoSem.ClaimMapViews
import Derived.JoinedTies
import Derived.KernelRfl
namespace Go.Proofs.Ythijgmbdlkeebaa
/- THE CELL 'sum', in the pinned program and in every row, IS THE sha256 OF THE DUMP (.gsa) THAT YthijgmbdlkeebaaProg.lean LOADS. Nothing in Lean hashes anything: it is a label: what it is worth is what the hold of that sum in a sandbox is worth. -/
noncomputable def Try.pinned : Pinned := { name := "ythijgmbdlkeebaa", sum := "2d5462d238be0c8561a1002c43d9bb37a3a2f8378d828075842340b618dde278", checked := Try.checked }
namespace Rows
def none {H : Type} : Left H := { results := [], args := [] }

/-- 'laws.FnExactNeedsOf': WHATEVER THE INPUT: true; the input reads as it did. -/
def fnExactNeedsOfSpec : ChangeSpec := { name := "fnExactNeedsOf", fn := fun _ => fun
  | [d1, d2] => { results := [.lit (.bool true)], args := [d1, d2] }
  | _ => none }
def fnExactNeedsOfRow : OpenClaim := { program := "ythijgmbdlkeebaa", sum := "2d5462d238be0c8561a1002c43d9bb37a3a2f8378d828075842340b618dde278", func := "loop.example/g00698/laws.FnExactNeedsOf", spec := "fnExactNeedsOf", unfollowed := true, recurses := true, apart := false }
def FnExactNeedsOfSaid : Prop := fnExactNeedsOfRow.holds Try.pinned (OpenSpec.ofChange fnExactNeedsOfSpec)

/-- ITS FALSE NEIGHBOUR: 'it returns false'. Refute it at one input. -/
def fnExactNeedsOfWrong : ChangeSpec := { name := "fnExactNeedsOf", fn := fun _ => fun
  | [d1, d2] => { results := [.lit (.bool false)], args := [d1, d2] }
  | _ => none }
def FnExactNeedsOfWrongFalsely : Prop := fnExactNeedsOfRow.holds Try.pinned (OpenSpec.ofChange fnExactNeedsOfWrong)

/-- 'laws.FnExactVerdictsOf': WHATEVER THE INPUT: true; the input reads as it did. -/
def fnExactVerdictsOfSpec : ChangeSpec := { name := "fnExactVerdictsOf", fn := fun _ => fun
  | [d1, d2] => { results := [.lit (.bool true)], args := [d1, d2] }
  | _ => none }
def fnExactVerdictsOfRow : OpenClaim := { program := "ythijgmbdlkeebaa", sum := "2d5462d238be0c8561a1002c43d9bb37a3a2f8378d828075842340b618dde278", func := "loop.example/g00698/laws.FnExactVerdictsOf", spec := "fnExactVerdictsOf", unfollowed := true, recurses := true, apart := false }
def FnExactVerdictsOfSaid : Prop := fnExactVerdictsOfRow.holds Try.pinned (OpenSpec.ofChange fnExactVerdictsOfSpec)

/-- ITS FALSE NEIGHBOUR: 'it returns false'. Refute it at one input. -/
def fnExactVerdictsOfWrong : ChangeSpec := { name := "fnExactVerdictsOf", fn := fun _ => fun
  | [d1, d2] => { results := [.lit (.bool false)], args := [d1, d2] }
  | _ => none }
def FnExactVerdictsOfWrongFalsely : Prop := fnExactVerdictsOfRow.holds Try.pinned (OpenSpec.ofChange fnExactVerdictsOfWrong)

/-- 'laws.FnExactKeptIn': WHATEVER THE INPUT: true; the input reads as it did. -/
def fnExactKeptInSpec : ChangeSpec := { name := "fnExactKeptIn", fn := fun _ => fun
  | [d1, d2] => { results := [.lit (.bool true)], args := [d1, d2] }
  | _ => none }
def fnExactKeptInRow : OpenClaim := { program := "ythijgmbdlkeebaa", sum := "2d5462d238be0c8561a1002c43d9bb37a3a2f8378d828075842340b618dde278", func := "loop.example/g00698/laws.FnExactKeptIn", spec := "fnExactKeptIn", unfollowed := true, recurses := true, apart := false }
def FnExactKeptInSaid : Prop := fnExactKeptInRow.holds Try.pinned (OpenSpec.ofChange fnExactKeptInSpec)

/-- ITS FALSE NEIGHBOUR: 'it returns false'. Refute it at one input. -/
def fnExactKeptInWrong : ChangeSpec := { name := "fnExactKeptIn", fn := fun _ => fun
  | [d1, d2] => { results := [.lit (.bool false)], args := [d1, d2] }
  | _ => none }
def FnExactKeptInWrongFalsely : Prop := fnExactKeptInRow.holds Try.pinned (OpenSpec.ofChange fnExactKeptInWrong)

/-- 'laws.FnExactPartBook': WHATEVER THE INPUT: true; the input reads as it did. -/
def fnExactPartBookSpec : ChangeSpec := { name := "fnExactPartBook", fn := fun _ => fun
  | [d1, d2, d3] => { results := [.lit (.bool true)], args := [d1, d2, d3] }
  | _ => none }
def fnExactPartBookRow : OpenClaim := { program := "ythijgmbdlkeebaa", sum := "2d5462d238be0c8561a1002c43d9bb37a3a2f8378d828075842340b618dde278", func := "loop.example/g00698/laws.FnExactPartBook", spec := "fnExactPartBook", unfollowed := true, recurses := true, apart := false }
def FnExactPartBookSaid : Prop := fnExactPartBookRow.holds Try.pinned (OpenSpec.ofChange fnExactPartBookSpec)

/-- ITS FALSE NEIGHBOUR: 'it returns false'. Refute it at one input. -/
def fnExactPartBookWrong : ChangeSpec := { name := "fnExactPartBook", fn := fun _ => fun
  | [d1, d2, d3] => { results := [.lit (.bool false)], args := [d1, d2, d3] }
  | _ => none }
def FnExactPartBookWrongFalsely : Prop := fnExactPartBookRow.holds Try.pinned (OpenSpec.ofChange fnExactPartBookWrong)

/-- 'laws.FnExactFullPart': WHATEVER THE INPUT: true; the input reads as it did. -/
def fnExactFullPartSpec : ChangeSpec := { name := "fnExactFullPart", fn := fun _ => fun
  | [d1, d2, d3, d4] => { results := [.lit (.bool true)], args := [d1, d2, d3, d4] }
  | _ => none }
def fnExactFullPartRow : OpenClaim := { program := "ythijgmbdlkeebaa", sum := "2d5462d238be0c8561a1002c43d9bb37a3a2f8378d828075842340b618dde278", func := "loop.example/g00698/laws.FnExactFullPart", spec := "fnExactFullPart", unfollowed := true, recurses := true, apart := false }
def FnExactFullPartSaid : Prop := fnExactFullPartRow.holds Try.pinned (OpenSpec.ofChange fnExactFullPartSpec)

/-- ITS FALSE NEIGHBOUR: 'it returns false'. Refute it at one input. -/
def fnExactFullPartWrong : ChangeSpec := { name := "fnExactFullPart", fn := fun _ => fun
  | [d1, d2, d3, d4] => { results := [.lit (.bool false)], args := [d1, d2, d3, d4] }
  | _ => none }
def FnExactFullPartWrongFalsely : Prop := fnExactFullPartRow.holds Try.pinned (OpenSpec.ofChange fnExactFullPartWrong)

/-- 'laws.FnExactOpenIn': WHATEVER THE INPUT: true; the input reads as it did. -/
def fnExactOpenInSpec : ChangeSpec := { name := "fnExactOpenIn", fn := fun _ => fun
  | [d] => { results := [.lit (.bool true)], args := [d] }
  | _ => none }
def fnExactOpenInRow : OpenClaim := { program := "ythijgmbdlkeebaa", sum := "2d5462d238be0c8561a1002c43d9bb37a3a2f8378d828075842340b618dde278", func := "loop.example/g00698/laws.FnExactOpenIn", spec := "fnExactOpenIn", unfollowed := true, recurses := true, apart := false }
def FnExactOpenInSaid : Prop := fnExactOpenInRow.holds Try.pinned (OpenSpec.ofChange fnExactOpenInSpec)

/-- ITS FALSE NEIGHBOUR: 'it returns false'. Refute it at one input. -/
def fnExactOpenInWrong : ChangeSpec := { name := "fnExactOpenIn", fn := fun _ => fun
  | [d] => { results := [.lit (.bool false)], args := [d] }
  | _ => none }
def FnExactOpenInWrongFalsely : Prop := fnExactOpenInRow.holds Try.pinned (OpenSpec.ofChange fnExactOpenInWrong)

/-- 'laws.FnPlaces': WHATEVER THE INPUT: true; the input reads as it did. -/
def fnPlacesSpec : ChangeSpec := { name := "fnPlaces", fn := fun _ => fun
  | [d1, d2] => { results := [.lit (.bool true)], args := [d1, d2] }
  | _ => none }
def fnPlacesRow : OpenClaim := { program := "ythijgmbdlkeebaa", sum := "2d5462d238be0c8561a1002c43d9bb37a3a2f8378d828075842340b618dde278", func := "loop.example/g00698/laws.FnPlaces", spec := "fnPlaces", unfollowed := true, recurses := true, apart := false }
def FnPlacesSaid : Prop := fnPlacesRow.holds Try.pinned (OpenSpec.ofChange fnPlacesSpec)

/-- ITS FALSE NEIGHBOUR: 'it returns false'. Refute it at one input. -/
def fnPlacesWrong : ChangeSpec := { name := "fnPlaces", fn := fun _ => fun
  | [d1, d2] => { results := [.lit (.bool false)], args := [d1, d2] }
  | _ => none }
def FnPlacesWrongFalsely : Prop := fnPlacesRow.holds Try.pinned (OpenSpec.ofChange fnPlacesWrong)

/- THE SECOND FORM. 'bulk': how many values and letters a reading holds, each counted each time it is reached (what is shared counts as often as it is met; a slice's spare places count too). A statement '..UptoSaid' is the law's where the arguments, and the package variables that the reading takes, are together of bulk at most 1048576: NARROWER than '..Said'. Prove '..Said' where nothing that the law and all that it calls make is longer than what came in: it says more and counts as full. Else prove '..UptoSaid'. A law counts once. -/
mutual
def uptoBulk {H : Type} : DataW H → Nat
  | .lit (.string bytes) => bytes.length + 1
  | .lit _ => 1
  | .nil => 1
  | .ptr d => uptoBulk d + 1
  | .slice elems spare => uptoBulkAll elems + uptoBulkAll spare + 1
  | .agg parts => uptoBulkAll parts + 1
  | .iface _ d => uptoBulk d + 1
  | .map entries => uptoBulkEntries entries + 1
  | .held _ => 1
def uptoBulkAll {H : Type} : List (DataW H) → Nat
  | [] => 0
  | d :: r => uptoBulk d + uptoBulkAll r
def uptoBulkEntries {H : Type} : List (Lit × DataW H) → Nat
  | [] => 0
  | x :: r => uptoBulkEntry x + uptoBulkEntries r
def uptoBulkEntry {H : Type} : Lit × DataW H → Nat
  | (.string bytes, d) => bytes.length + uptoBulk d + 1
  | (_, d) => uptoBulk d + 1
 end
def uptoSmall : (H : Type) → List (DataW H) → Bool := fun _ ds => decide (uptoBulkAll ds ≤ 1048576)
def OpenSpec.upto (s : _root_.Go.ChangeSpec) : _root_.Go.OpenSpec := { _root_.Go.OpenSpec.ofChange s with cond := some uptoSmall }

/-- 'laws.FnExactNeedsOf', WHERE WHAT IT READS IS OF BULK AT MOST 1048576: true; the input reads as it did. -/
def fnExactNeedsOfUptoRow : OpenClaim := { program := "ythijgmbdlkeebaa", sum := "2d5462d238be0c8561a1002c43d9bb37a3a2f8378d828075842340b618dde278", func := "loop.example/g00698/laws.FnExactNeedsOf", spec := "fnExactNeedsOf", unfollowed := true, recurses := true, apart := false, narrowed := true }
def FnExactNeedsOfUptoSaid : Prop := fnExactNeedsOfUptoRow.holds Try.pinned (OpenSpec.upto fnExactNeedsOfSpec)

/-- 'laws.FnExactVerdictsOf', WHERE WHAT IT READS IS OF BULK AT MOST 1048576: true; the input reads as it did. -/
def fnExactVerdictsOfUptoRow : OpenClaim := { program := "ythijgmbdlkeebaa", sum := "2d5462d238be0c8561a1002c43d9bb37a3a2f8378d828075842340b618dde278", func := "loop.example/g00698/laws.FnExactVerdictsOf", spec := "fnExactVerdictsOf", unfollowed := true, recurses := true, apart := false, narrowed := true }
def FnExactVerdictsOfUptoSaid : Prop := fnExactVerdictsOfUptoRow.holds Try.pinned (OpenSpec.upto fnExactVerdictsOfSpec)

/-- 'laws.FnExactKeptIn', WHERE WHAT IT READS IS OF BULK AT MOST 1048576: true; the input reads as it did. -/
def fnExactKeptInUptoRow : OpenClaim := { program := "ythijgmbdlkeebaa", sum := "2d5462d238be0c8561a1002c43d9bb37a3a2f8378d828075842340b618dde278", func := "loop.example/g00698/laws.FnExactKeptIn", spec := "fnExactKeptIn", unfollowed := true, recurses := true, apart := false, narrowed := true }
def FnExactKeptInUptoSaid : Prop := fnExactKeptInUptoRow.holds Try.pinned (OpenSpec.upto fnExactKeptInSpec)

/-- 'laws.FnExactPartBook', WHERE WHAT IT READS IS OF BULK AT MOST 1048576: true; the input reads as it did. -/
def fnExactPartBookUptoRow : OpenClaim := { program := "ythijgmbdlkeebaa", sum := "2d5462d238be0c8561a1002c43d9bb37a3a2f8378d828075842340b618dde278", func := "loop.example/g00698/laws.FnExactPartBook", spec := "fnExactPartBook", unfollowed := true, recurses := true, apart := false, narrowed := true }
def FnExactPartBookUptoSaid : Prop := fnExactPartBookUptoRow.holds Try.pinned (OpenSpec.upto fnExactPartBookSpec)

/-- 'laws.FnExactFullPart', WHERE WHAT IT READS IS OF BULK AT MOST 1048576: true; the input reads as it did. -/
def fnExactFullPartUptoRow : OpenClaim := { program := "ythijgmbdlkeebaa", sum := "2d5462d238be0c8561a1002c43d9bb37a3a2f8378d828075842340b618dde278", func := "loop.example/g00698/laws.FnExactFullPart", spec := "fnExactFullPart", unfollowed := true, recurses := true, apart := false, narrowed := true }
def FnExactFullPartUptoSaid : Prop := fnExactFullPartUptoRow.holds Try.pinned (OpenSpec.upto fnExactFullPartSpec)

/-- 'laws.FnExactOpenIn', WHERE WHAT IT READS IS OF BULK AT MOST 1048576: true; the input reads as it did. -/
def fnExactOpenInUptoRow : OpenClaim := { program := "ythijgmbdlkeebaa", sum := "2d5462d238be0c8561a1002c43d9bb37a3a2f8378d828075842340b618dde278", func := "loop.example/g00698/laws.FnExactOpenIn", spec := "fnExactOpenIn", unfollowed := true, recurses := true, apart := false, narrowed := true }
def FnExactOpenInUptoSaid : Prop := fnExactOpenInUptoRow.holds Try.pinned (OpenSpec.upto fnExactOpenInSpec)

/-- 'laws.FnPlaces', WHERE WHAT IT READS IS OF BULK AT MOST 1048576: true; the input reads as it did. -/
def fnPlacesUptoRow : OpenClaim := { program := "ythijgmbdlkeebaa", sum := "2d5462d238be0c8561a1002c43d9bb37a3a2f8378d828075842340b618dde278", func := "loop.example/g00698/laws.FnPlaces", spec := "fnPlaces", unfollowed := true, recurses := true, apart := false, narrowed := true }
def FnPlacesUptoSaid : Prop := fnPlacesUptoRow.holds Try.pinned (OpenSpec.upto fnPlacesSpec)

end Rows
end Go.Proofs.Ythijgmbdlkeebaa
