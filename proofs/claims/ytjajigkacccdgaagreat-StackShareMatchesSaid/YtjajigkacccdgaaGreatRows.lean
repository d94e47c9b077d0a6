/-
  No cell of these rows narrows 'for every input' (looked for: loops, veiled, ifaces, maps, wideKeys, modest, calm, conditions, laid).
  DERIVED. THE GIVEN ROWS OF THIS SEAT. 9 by the template 'for every input the law returns true; each argument reads behind the call as it read before'; 0 by the template 'total and deterministic' (their statements: YtjajigkacccdgaaGreatTotals.lean).
  GIVEN WITH THE SEED: the statements are not yours to turn. If you find one false, say at which input.
  Laid BY PROGRAM, IN A SANDBOX (cutbox-rows.mjs): the forced cells as the released guide's own fill.sh prints them over the translation c378d2c1b233eea3… (all of the seat's roots in one cut). By AI agents, Wed Nov 11 2026. No macro, syntax, notation, axiom, sorry.
-/
import Derived.Test.YtjajigkacccdgaaGreatChecked
import GoSem.Claim
import GoSem.ClaimJoined
import GoSem.ClaimMapViews
import Derived.JoinedTies
import Derived.KernelRfl
namespace Go.Proofs.YtjajigkacccdgaaGreat
/- THE CELL 'sum', in the pinned program and in every row, IS THE sha256 OF THE DUMP (.gsa) THAT YtjajigkacccdgaaGreatProg.lean LOADS. Nothing in Lean hashes anything: it is a label: what it is worth is what the hold of that sum in a sandbox is worth. -/
noncomputable def Tryz.pinned : Pinned := { name := "ytjajigkacccdgaagreat", sum := "c378d2c1b233eea30c293748eb4672e70f343e898a7ad30d7866b8881177593b", checked := Tryz.checked }
namespace Rows
def none {H : Type} : Left H := { results := [], args := [] }

/-- 'pylonlaw24.StackMatches': WHATEVER THE INPUT: true; the input reads as it did. -/
def stackMatchesSpec : ChangeSpec := { name := "stackMatches", fn := fun _ => fun
  | [d] => { results := [.lit (.bool true)], args := [d] }
  | _ => none }
def stackMatchesRow : OpenClaim := { program := "ytjajigkacccdgaagreat", sum := "c378d2c1b233eea30c293748eb4672e70f343e898a7ad30d7866b8881177593b", func := "pylon/pylonlaw24.StackMatches", spec := "stackMatches", inPlace := ["internal/reflectlite.ValueOf", "internal/reflectlite.Swapper", "(internal/reflectlite.Value).Len"], unfollowed := true, recurses := true, apart := false }
def StackMatchesSaid : Prop := stackMatchesRow.holds Tryz.pinned (OpenSpec.ofChange stackMatchesSpec)

/-- ITS FALSE NEIGHBOUR: 'it returns false'. Refute it at one input. -/
def stackMatchesWrong : ChangeSpec := { name := "stackMatches", fn := fun _ => fun
  | [d] => { results := [.lit (.bool false)], args := [d] }
  | _ => none }
def StackMatchesWrongFalsely : Prop := stackMatchesRow.holds Tryz.pinned (OpenSpec.ofChange stackMatchesWrong)

/-- 'pylonlaw24.StackShareMatches': WHATEVER THE INPUT: true; the input reads as it did. -/
def stackShareMatchesSpec : ChangeSpec := { name := "stackShareMatches", fn := fun _ => fun
  | [d1, d2] => { results := [.lit (.bool true)], args := [d1, d2] }
  | _ => none }
def stackShareMatchesRow : OpenClaim := { program := "ytjajigkacccdgaagreat", sum := "c378d2c1b233eea30c293748eb4672e70f343e898a7ad30d7866b8881177593b", func := "pylon/pylonlaw24.StackShareMatches", spec := "stackShareMatches", inPlace := ["internal/reflectlite.ValueOf", "internal/reflectlite.Swapper", "(internal/reflectlite.Value).Len"], unfollowed := true, recurses := true, apart := false }
def StackShareMatchesSaid : Prop := stackShareMatchesRow.holds Tryz.pinned (OpenSpec.ofChange stackShareMatchesSpec)

/-- ITS FALSE NEIGHBOUR: 'it returns false'. Refute it at one input. -/
def stackShareMatchesWrong : ChangeSpec := { name := "stackShareMatches", fn := fun _ => fun
  | [d1, d2] => { results := [.lit (.bool false)], args := [d1, d2] }
  | _ => none }
def StackShareMatchesWrongFalsely : Prop := stackShareMatchesRow.holds Tryz.pinned (OpenSpec.ofChange stackShareMatchesWrong)

/-- 'pylonlaw24.StackExamples': WHATEVER THE INPUT: true; the input reads as it did. -/
def stackExamplesSpec : ChangeSpec := { name := "stackExamples", fn := fun _ => fun
  | [] => { results := [.lit (.bool true)], args := [] }
  | _ => none }
def stackExamplesRow : OpenClaim := { program := "ytjajigkacccdgaagreat", sum := "c378d2c1b233eea30c293748eb4672e70f343e898a7ad30d7866b8881177593b", func := "pylon/pylonlaw24.StackExamples", spec := "stackExamples", inPlace := ["internal/reflectlite.ValueOf", "internal/reflectlite.Swapper", "(internal/reflectlite.Value).Len"], unfollowed := true, recurses := true, apart := false }
def StackExamplesSaid : Prop := stackExamplesRow.holds Tryz.pinned (OpenSpec.ofChange stackExamplesSpec)

/-- ITS FALSE NEIGHBOUR: 'it returns false'. Refute it at one input. -/
def stackExamplesWrong : ChangeSpec := { name := "stackExamples", fn := fun _ => fun
  | [] => { results := [.lit (.bool false)], args := [] }
  | _ => none }
def StackExamplesWrongFalsely : Prop := stackExamplesRow.holds Tryz.pinned (OpenSpec.ofChange stackExamplesWrong)

/-- 'pylonlaw24.StackOptimality': WHATEVER THE INPUT: true; the input reads as it did. -/
def stackOptimalitySpec : ChangeSpec := { name := "stackOptimality", fn := fun _ => fun
  | [d1, d2, d3] => { results := [.lit (.bool true)], args := [d1, d2, d3] }
  | _ => none }
def stackOptimalityRow : OpenClaim := { program := "ytjajigkacccdgaagreat", sum := "c378d2c1b233eea30c293748eb4672e70f343e898a7ad30d7866b8881177593b", func := "pylon/pylonlaw24.StackOptimality", spec := "stackOptimality", inPlace := ["internal/reflectlite.ValueOf", "internal/reflectlite.Swapper", "(internal/reflectlite.Value).Len"], unfollowed := true, recurses := true, apart := false }
def StackOptimalitySaid : Prop := stackOptimalityRow.holds Tryz.pinned (OpenSpec.ofChange stackOptimalitySpec)

/-- ITS FALSE NEIGHBOUR: 'it returns false'. Refute it at one input. -/
def stackOptimalityWrong : ChangeSpec := { name := "stackOptimality", fn := fun _ => fun
  | [d1, d2, d3] => { results := [.lit (.bool false)], args := [d1, d2, d3] }
  | _ => none }
def StackOptimalityWrongFalsely : Prop := stackOptimalityRow.holds Tryz.pinned (OpenSpec.ofChange stackOptimalityWrong)

/-- 'pylonlaw25.ClearMatches': WHATEVER THE INPUT: true; the input reads as it did. -/
def clearMatchesSpec : ChangeSpec := { name := "clearMatches", fn := fun _ => fun
  | [d1, d2] => { results := [.lit (.bool true)], args := [d1, d2] }
  | _ => none }
def clearMatchesRow : OpenClaim := { program := "ytjajigkacccdgaagreat", sum := "c378d2c1b233eea30c293748eb4672e70f343e898a7ad30d7866b8881177593b", func := "pylon/pylonlaw25.ClearMatches", spec := "clearMatches", inPlace := ["internal/reflectlite.ValueOf", "internal/reflectlite.Swapper", "(internal/reflectlite.Value).Len"], unfollowed := true, recurses := true, apart := false }
def ClearMatchesSaid : Prop := clearMatchesRow.holds Tryz.pinned (OpenSpec.ofChange clearMatchesSpec)

/-- ITS FALSE NEIGHBOUR: 'it returns false'. Refute it at one input. -/
def clearMatchesWrong : ChangeSpec := { name := "clearMatches", fn := fun _ => fun
  | [d1, d2] => { results := [.lit (.bool false)], args := [d1, d2] }
  | _ => none }
def ClearMatchesWrongFalsely : Prop := clearMatchesRow.holds Tryz.pinned (OpenSpec.ofChange clearMatchesWrong)

/-- 'pylonlaw25.ClearPriceInterval': WHATEVER THE INPUT: true; the input reads as it did. -/
def clearPriceIntervalSpec : ChangeSpec := { name := "clearPriceInterval", fn := fun _ => fun
  | [d1, d2, d3, d4, d5] => { results := [.lit (.bool true)], args := [d1, d2, d3, d4, d5] }
  | _ => none }
def clearPriceIntervalRow : OpenClaim := { program := "ytjajigkacccdgaagreat", sum := "c378d2c1b233eea30c293748eb4672e70f343e898a7ad30d7866b8881177593b", func := "pylon/pylonlaw25.ClearPriceInterval", spec := "clearPriceInterval", inPlace := ["internal/reflectlite.ValueOf", "internal/reflectlite.Swapper", "(internal/reflectlite.Value).Len"], unfollowed := true, recurses := true, apart := false }
def ClearPriceIntervalSaid : Prop := clearPriceIntervalRow.holds Tryz.pinned (OpenSpec.ofChange clearPriceIntervalSpec)

/-- ITS FALSE NEIGHBOUR: 'it returns false'. Refute it at one input. -/
def clearPriceIntervalWrong : ChangeSpec := { name := "clearPriceInterval", fn := fun _ => fun
  | [d1, d2, d3, d4, d5] => { results := [.lit (.bool false)], args := [d1, d2, d3, d4, d5] }
  | _ => none }
def ClearPriceIntervalWrongFalsely : Prop := clearPriceIntervalRow.holds Tryz.pinned (OpenSpec.ofChange clearPriceIntervalWrong)

/-- 'pylonlaw25.ClearOptimality': WHATEVER THE INPUT: true; the input reads as it did. -/
def clearOptimalitySpec : ChangeSpec := { name := "clearOptimality", fn := fun _ => fun
  | [d1, d2, d3, d4] => { results := [.lit (.bool true)], args := [d1, d2, d3, d4] }
  | _ => none }
def clearOptimalityRow : OpenClaim := { program := "ytjajigkacccdgaagreat", sum := "c378d2c1b233eea30c293748eb4672e70f343e898a7ad30d7866b8881177593b", func := "pylon/pylonlaw25.ClearOptimality", spec := "clearOptimality", inPlace := ["internal/reflectlite.ValueOf", "internal/reflectlite.Swapper", "(internal/reflectlite.Value).Len"], unfollowed := true, recurses := true, apart := false }
def ClearOptimalitySaid : Prop := clearOptimalityRow.holds Tryz.pinned (OpenSpec.ofChange clearOptimalitySpec)

/-- ITS FALSE NEIGHBOUR: 'it returns false'. Refute it at one input. -/
def clearOptimalityWrong : ChangeSpec := { name := "clearOptimality", fn := fun _ => fun
  | [d1, d2, d3, d4] => { results := [.lit (.bool false)], args := [d1, d2, d3, d4] }
  | _ => none }
def ClearOptimalityWrongFalsely : Prop := clearOptimalityRow.holds Tryz.pinned (OpenSpec.ofChange clearOptimalityWrong)

/-- 'pylonlaw25.ClearQueriesMatch': WHATEVER THE INPUT: true; the input reads as it did. -/
def clearQueriesMatchSpec : ChangeSpec := { name := "clearQueriesMatch", fn := fun _ => fun
  | [d1, d2, d3, d4, d5] => { results := [.lit (.bool true)], args := [d1, d2, d3, d4, d5] }
  | _ => none }
def clearQueriesMatchRow : OpenClaim := { program := "ytjajigkacccdgaagreat", sum := "c378d2c1b233eea30c293748eb4672e70f343e898a7ad30d7866b8881177593b", func := "pylon/pylonlaw25.ClearQueriesMatch", spec := "clearQueriesMatch", inPlace := ["internal/reflectlite.ValueOf", "internal/reflectlite.Swapper", "(internal/reflectlite.Value).Len"], unfollowed := true, recurses := true, apart := false }
def ClearQueriesMatchSaid : Prop := clearQueriesMatchRow.holds Tryz.pinned (OpenSpec.ofChange clearQueriesMatchSpec)

/-- ITS FALSE NEIGHBOUR: 'it returns false'. Refute it at one input. -/
def clearQueriesMatchWrong : ChangeSpec := { name := "clearQueriesMatch", fn := fun _ => fun
  | [d1, d2, d3, d4, d5] => { results := [.lit (.bool false)], args := [d1, d2, d3, d4, d5] }
  | _ => none }
def ClearQueriesMatchWrongFalsely : Prop := clearQueriesMatchRow.holds Tryz.pinned (OpenSpec.ofChange clearQueriesMatchWrong)

/-- 'pylonlaw25.ClearExamples': WHATEVER THE INPUT: true; the input reads as it did. -/
def clearExamplesSpec : ChangeSpec := { name := "clearExamples", fn := fun _ => fun
  | [] => { results := [.lit (.bool true)], args := [] }
  | _ => none }
def clearExamplesRow : OpenClaim := { program := "ytjajigkacccdgaagreat", sum := "c378d2c1b233eea30c293748eb4672e70f343e898a7ad30d7866b8881177593b", func := "pylon/pylonlaw25.ClearExamples", spec := "clearExamples", inPlace := ["internal/reflectlite.ValueOf", "internal/reflectlite.Swapper", "(internal/reflectlite.Value).Len"], unfollowed := true, recurses := true, apart := false }
def ClearExamplesSaid : Prop := clearExamplesRow.holds Tryz.pinned (OpenSpec.ofChange clearExamplesSpec)

/-- ITS FALSE NEIGHBOUR: 'it returns false'. Refute it at one input. -/
def clearExamplesWrong : ChangeSpec := { name := "clearExamples", fn := fun _ => fun
  | [] => { results := [.lit (.bool false)], args := [] }
  | _ => none }
def ClearExamplesWrongFalsely : Prop := clearExamplesRow.holds Tryz.pinned (OpenSpec.ofChange clearExamplesWrong)

/- THE SECOND FORM. 'bulk': how many values and letters a reading holds, each counted each time it is reached (what is shared counts as often as it is met; a slice's spare places count too). A statement '..UptoSaid' is the law's where the arguments, and the package variables that the reading takes, are together of bulk at most 1048576: NARROWER than '..Said'. Prove '..Said' where nothing that the law and all that it calls make is longer than what came in: it says more and counts as full. Else prove '..UptoSaid'. A law counts once. -/
mutual
def uptoBulk {H : Type} : DataW H → Nat
  | .lit (.string bytes) => bytes.length + 1
  | .lit _ => 1
  | .nil => 1
  | .ptr d => uptoBulk d + 1
  | .slice elems spare => uptoBulkAll elems + uptoBulkAll spare + 1
  | .agg parts => uptoBulkAll parts + 1
  | .iface _ d => uptoBulk d + 1
  | .map entries => uptoBulkEntries entries + 1
  | .held _ => 1
def uptoBulkAll {H : Type} : List (DataW H) → Nat
  | [] => 0
  | d :: r => uptoBulk d + uptoBulkAll r
def uptoBulkEntries {H : Type} : List (Lit × DataW H) → Nat
  | [] => 0
  | x :: r => uptoBulkEntry x + uptoBulkEntries r
def uptoBulkEntry {H : Type} : Lit × DataW H → Nat
  | (.string bytes, d) => bytes.length + uptoBulk d + 1
  | (_, d) => uptoBulk d + 1
 end
def uptoSmall : (H : Type) → List (DataW H) → Bool := fun _ ds => decide (uptoBulkAll ds ≤ 1048576)
def OpenSpec.upto (s : _root_.Go.ChangeSpec) : _root_.Go.OpenSpec := { _root_.Go.OpenSpec.ofChange s with cond := some uptoSmall }

/-- 'pylonlaw24.StackMatches', WHERE WHAT IT READS IS OF BULK AT MOST 1048576: true; the input reads as it did. -/
def stackMatchesUptoRow : OpenClaim := { program := "ytjajigkacccdgaagreat", sum := "c378d2c1b233eea30c293748eb4672e70f343e898a7ad30d7866b8881177593b", func := "pylon/pylonlaw24.StackMatches", spec := "stackMatches", inPlace := ["internal/reflectlite.ValueOf", "internal/reflectlite.Swapper", "(internal/reflectlite.Value).Len"], unfollowed := true, recurses := true, apart := false, narrowed := true }
def StackMatchesUptoSaid : Prop := stackMatchesUptoRow.holds Tryz.pinned (OpenSpec.upto stackMatchesSpec)

/-- 'pylonlaw24.StackShareMatches', WHERE WHAT IT READS IS OF BULK AT MOST 1048576: true; the input reads as it did. -/
def stackShareMatchesUptoRow : OpenClaim := { program := "ytjajigkacccdgaagreat", sum := "c378d2c1b233eea30c293748eb4672e70f343e898a7ad30d7866b8881177593b", func := "pylon/pylonlaw24.StackShareMatches", spec := "stackShareMatches", inPlace := ["internal/reflectlite.ValueOf", "internal/reflectlite.Swapper", "(internal/reflectlite.Value).Len"], unfollowed := true, recurses := true, apart := false, narrowed := true }
def StackShareMatchesUptoSaid : Prop := stackShareMatchesUptoRow.holds Tryz.pinned (OpenSpec.upto stackShareMatchesSpec)

/-- 'pylonlaw24.StackExamples', WHERE WHAT IT READS IS OF BULK AT MOST 1048576: true; the input reads as it did. -/
def stackExamplesUptoRow : OpenClaim := { program := "ytjajigkacccdgaagreat", sum := "c378d2c1b233eea30c293748eb4672e70f343e898a7ad30d7866b8881177593b", func := "pylon/pylonlaw24.StackExamples", spec := "stackExamples", inPlace := ["internal/reflectlite.ValueOf", "internal/reflectlite.Swapper", "(internal/reflectlite.Value).Len"], unfollowed := true, recurses := true, apart := false, narrowed := true }
def StackExamplesUptoSaid : Prop := stackExamplesUptoRow.holds Tryz.pinned (OpenSpec.upto stackExamplesSpec)

/-- 'pylonlaw24.StackOptimality', WHERE WHAT IT READS IS OF BULK AT MOST 1048576: true; the input reads as it did. -/
def stackOptimalityUptoRow : OpenClaim := { program := "ytjajigkacccdgaagreat", sum := "c378d2c1b233eea30c293748eb4672e70f343e898a7ad30d7866b8881177593b", func := "pylon/pylonlaw24.StackOptimality", spec := "stackOptimality", inPlace := ["internal/reflectlite.ValueOf", "internal/reflectlite.Swapper", "(internal/reflectlite.Value).Len"], unfollowed := true, recurses := true, apart := false, narrowed := true }
def StackOptimalityUptoSaid : Prop := stackOptimalityUptoRow.holds Tryz.pinned (OpenSpec.upto stackOptimalitySpec)

/-- 'pylonlaw25.ClearMatches', WHERE WHAT IT READS IS OF BULK AT MOST 1048576: true; the input reads as it did. -/
def clearMatchesUptoRow : OpenClaim := { program := "ytjajigkacccdgaagreat", sum := "c378d2c1b233eea30c293748eb4672e70f343e898a7ad30d7866b8881177593b", func := "pylon/pylonlaw25.ClearMatches", spec := "clearMatches", inPlace := ["internal/reflectlite.ValueOf", "internal/reflectlite.Swapper", "(internal/reflectlite.Value).Len"], unfollowed := true, recurses := true, apart := false, narrowed := true }
def ClearMatchesUptoSaid : Prop := clearMatchesUptoRow.holds Tryz.pinned (OpenSpec.upto clearMatchesSpec)

/-- 'pylonlaw25.ClearPriceInterval', WHERE WHAT IT READS IS OF BULK AT MOST 1048576: true; the input reads as it did. -/
def clearPriceIntervalUptoRow : OpenClaim := { program := "ytjajigkacccdgaagreat", sum := "c378d2c1b233eea30c293748eb4672e70f343e898a7ad30d7866b8881177593b", func := "pylon/pylonlaw25.ClearPriceInterval", spec := "clearPriceInterval", inPlace := ["internal/reflectlite.ValueOf", "internal/reflectlite.Swapper", "(internal/reflectlite.Value).Len"], unfollowed := true, recurses := true, apart := false, narrowed := true }
def ClearPriceIntervalUptoSaid : Prop := clearPriceIntervalUptoRow.holds Tryz.pinned (OpenSpec.upto clearPriceIntervalSpec)

/-- 'pylonlaw25.ClearOptimality', WHERE WHAT IT READS IS OF BULK AT MOST 1048576: true; the input reads as it did. -/
def clearOptimalityUptoRow : OpenClaim := { program := "ytjajigkacccdgaagreat", sum := "c378d2c1b233eea30c293748eb4672e70f343e898a7ad30d7866b8881177593b", func := "pylon/pylonlaw25.ClearOptimality", spec := "clearOptimality", inPlace := ["internal/reflectlite.ValueOf", "internal/reflectlite.Swapper", "(internal/reflectlite.Value).Len"], unfollowed := true, recurses := true, apart := false, narrowed := true }
def ClearOptimalityUptoSaid : Prop := clearOptimalityUptoRow.holds Tryz.pinned (OpenSpec.upto clearOptimalitySpec)

/-- 'pylonlaw25.ClearQueriesMatch', WHERE WHAT IT READS IS OF BULK AT MOST 1048576: true; the input reads as it did. -/
def clearQueriesMatchUptoRow : OpenClaim := { program := "ytjajigkacccdgaagreat", sum := "c378d2c1b233eea30c293748eb4672e70f343e898a7ad30d7866b8881177593b", func := "pylon/pylonlaw25.ClearQueriesMatch", spec := "clearQueriesMatch", inPlace := ["internal/reflectlite.ValueOf", "internal/reflectlite.Swapper", "(internal/reflectlite.Value).Len"], unfollowed := true, recurses := true, apart := false, narrowed := true }
def ClearQueriesMatchUptoSaid : Prop := clearQueriesMatchUptoRow.holds Tryz.pinned (OpenSpec.upto clearQueriesMatchSpec)

/-- 'pylonlaw25.ClearExamples', WHERE WHAT IT READS IS OF BULK AT MOST 1048576: true; the input reads as it did. -/
def clearExamplesUptoRow : OpenClaim := { program := "ytjajigkacccdgaagreat", sum := "c378d2c1b233eea30c293748eb4672e70f343e898a7ad30d7866b8881177593b", func := "pylon/pylonlaw25.ClearExamples", spec := "clearExamples", inPlace := ["internal/reflectlite.ValueOf", "internal/reflectlite.Swapper", "(internal/reflectlite.Value).Len"], unfollowed := true, recurses := true, apart := false, narrowed := true }
def ClearExamplesUptoSaid : Prop := clearExamplesUptoRow.holds Tryz.pinned (OpenSpec.upto clearExamplesSpec)

end Rows
end Go.Proofs.YtjajigkacccdgaaGreat
