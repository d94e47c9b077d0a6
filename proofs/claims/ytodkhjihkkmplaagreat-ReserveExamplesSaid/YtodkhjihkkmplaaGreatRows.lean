/-
  No cell of these rows narrows 'for every input' (looked for: loops, veiled, ifaces, maps, wideKeys, modest, calm, conditions, laid).
  DERIVED. THE GIVEN ROWS OF THIS SEAT. 7 by the template 'for every input the law returns true; each argument reads behind the call as it read before'; 0 by the template 'total and deterministic' (their statements: YtodkhjihkkmplaaGreatTotals.lean).
  GIVEN WITH THE SEED: the statements are not yours to turn. If you find one false, say at which input.
  Laid BY PROGRAM, IN A SANDBOX (cutbox-rows.mjs): the forced cells as the released guide's own fill.sh prints them over the translation 9ad9d153ffc3f5c9… (all of the seat's roots in one cut). By AI agents, Wed Nov 11 2026. No macro, syntax, notation, axiom, sorry.
-/
import Derived.Test.YtodkhjihkkmplaaGreatChecked
import GoSem.Claim
import GoSem.ClaimJoined
import GoSem.ClaimMapViews
import Derived.JoinedTies
import Derived.KernelRfl
namespace Go.Proofs.YtodkhjihkkmplaaGreat
/- THE CELL 'sum', in the pinned program and in every row, IS THE sha256 OF THE DUMP (.gsa) THAT YtodkhjihkkmplaaGreatProg.lean LOADS. Nothing in Lean hashes anything: it is a label: what it is worth is what the hold of that sum in a sandbox is worth. -/
noncomputable def Tryz.pinned : Pinned := { name := "ytodkhjihkkmplaagreat", sum := "9ad9d153ffc3f5c991c157376a3f5dee5f2554fc26abac8071dd0ca743f77796", checked := Tryz.checked }
namespace Rows
def none {H : Type} : Left H := { results := [], args := [] }

/-- 'pylonlaw30.ReserveMatches': WHATEVER THE INPUT: true; the input reads as it did. -/
def reserveMatchesSpec : ChangeSpec := { name := "reserveMatches", fn := fun _ => fun
  | [d1, d2, d3, d4] => { results := [.lit (.bool true)], args := [d1, d2, d3, d4] }
  | _ => none }
def reserveMatchesRow : OpenClaim := { program := "ytodkhjihkkmplaagreat", sum := "9ad9d153ffc3f5c991c157376a3f5dee5f2554fc26abac8071dd0ca743f77796", func := "pylon/pylonlaw30.ReserveMatches", spec := "reserveMatches", inPlace := ["internal/reflectlite.ValueOf", "internal/reflectlite.Swapper", "(internal/reflectlite.Value).Len"], unfollowed := true, recurses := true, apart := false }
def ReserveMatchesSaid : Prop := reserveMatchesRow.holds Tryz.pinned (OpenSpec.ofChange reserveMatchesSpec)

/-- ITS FALSE NEIGHBOUR: 'it returns false'. Refute it at one input. -/
def reserveMatchesWrong : ChangeSpec := { name := "reserveMatches", fn := fun _ => fun
  | [d1, d2, d3, d4] => { results := [.lit (.bool false)], args := [d1, d2, d3, d4] }
  | _ => none }
def ReserveMatchesWrongFalsely : Prop := reserveMatchesRow.holds Tryz.pinned (OpenSpec.ofChange reserveMatchesWrong)

/-- 'pylonlaw30.ReservePayMatches': WHATEVER THE INPUT: true; the input reads as it did. -/
def reservePayMatchesSpec : ChangeSpec := { name := "reservePayMatches", fn := fun _ => fun
  | [d1, d2] => { results := [.lit (.bool true)], args := [d1, d2] }
  | _ => none }
def reservePayMatchesRow : OpenClaim := { program := "ytodkhjihkkmplaagreat", sum := "9ad9d153ffc3f5c991c157376a3f5dee5f2554fc26abac8071dd0ca743f77796", func := "pylon/pylonlaw30.ReservePayMatches", spec := "reservePayMatches", inPlace := ["internal/reflectlite.ValueOf", "internal/reflectlite.Swapper", "(internal/reflectlite.Value).Len"], unfollowed := true, recurses := true, apart := false }
def ReservePayMatchesSaid : Prop := reservePayMatchesRow.holds Tryz.pinned (OpenSpec.ofChange reservePayMatchesSpec)

/-- ITS FALSE NEIGHBOUR: 'it returns false'. Refute it at one input. -/
def reservePayMatchesWrong : ChangeSpec := { name := "reservePayMatches", fn := fun _ => fun
  | [d1, d2] => { results := [.lit (.bool false)], args := [d1, d2] }
  | _ => none }
def ReservePayMatchesWrongFalsely : Prop := reservePayMatchesRow.holds Tryz.pinned (OpenSpec.ofChange reservePayMatchesWrong)

/-- 'pylonlaw30.ReserveExamples': WHATEVER THE INPUT: true; the input reads as it did. -/
def reserveExamplesSpec : ChangeSpec := { name := "reserveExamples", fn := fun _ => fun
  | [] => { results := [.lit (.bool true)], args := [] }
  | _ => none }
def reserveExamplesRow : OpenClaim := { program := "ytodkhjihkkmplaagreat", sum := "9ad9d153ffc3f5c991c157376a3f5dee5f2554fc26abac8071dd0ca743f77796", func := "pylon/pylonlaw30.ReserveExamples", spec := "reserveExamples", inPlace := ["internal/reflectlite.ValueOf", "internal/reflectlite.Swapper", "(internal/reflectlite.Value).Len"], unfollowed := true, recurses := true, apart := false }
def ReserveExamplesSaid : Prop := reserveExamplesRow.holds Tryz.pinned (OpenSpec.ofChange reserveExamplesSpec)

/-- ITS FALSE NEIGHBOUR: 'it returns false'. Refute it at one input. -/
def reserveExamplesWrong : ChangeSpec := { name := "reserveExamples", fn := fun _ => fun
  | [] => { results := [.lit (.bool false)], args := [] }
  | _ => none }
def ReserveExamplesWrongFalsely : Prop := reserveExamplesRow.holds Tryz.pinned (OpenSpec.ofChange reserveExamplesWrong)

/-- 'pylonlaw30.ReserveMonotone': WHATEVER THE INPUT: true; the input reads as it did. -/
def reserveMonotoneSpec : ChangeSpec := { name := "reserveMonotone", fn := fun _ => fun
  | [d1, d2, d3, d4, d5] => { results := [.lit (.bool true)], args := [d1, d2, d3, d4, d5] }
  | _ => none }
def reserveMonotoneRow : OpenClaim := { program := "ytodkhjihkkmplaagreat", sum := "9ad9d153ffc3f5c991c157376a3f5dee5f2554fc26abac8071dd0ca743f77796", func := "pylon/pylonlaw30.ReserveMonotone", spec := "reserveMonotone", inPlace := ["internal/reflectlite.ValueOf", "internal/reflectlite.Swapper", "(internal/reflectlite.Value).Len"], unfollowed := true, recurses := true, apart := false }
def ReserveMonotoneSaid : Prop := reserveMonotoneRow.holds Tryz.pinned (OpenSpec.ofChange reserveMonotoneSpec)

/-- ITS FALSE NEIGHBOUR: 'it returns false'. Refute it at one input. -/
def reserveMonotoneWrong : ChangeSpec := { name := "reserveMonotone", fn := fun _ => fun
  | [d1, d2, d3, d4, d5] => { results := [.lit (.bool false)], args := [d1, d2, d3, d4, d5] }
  | _ => none }
def ReserveMonotoneWrongFalsely : Prop := reserveMonotoneRow.holds Tryz.pinned (OpenSpec.ofChange reserveMonotoneWrong)

/-- 'pylonlaw30.ReserveOptimality': WHATEVER THE INPUT: true; the input reads as it did. -/
def reserveOptimalitySpec : ChangeSpec := { name := "reserveOptimality", fn := fun _ => fun
  | [d1, d2, d3, d4, d5] => { results := [.lit (.bool true)], args := [d1, d2, d3, d4, d5] }
  | _ => none }
def reserveOptimalityRow : OpenClaim := { program := "ytodkhjihkkmplaagreat", sum := "9ad9d153ffc3f5c991c157376a3f5dee5f2554fc26abac8071dd0ca743f77796", func := "pylon/pylonlaw30.ReserveOptimality", spec := "reserveOptimality", inPlace := ["internal/reflectlite.ValueOf", "internal/reflectlite.Swapper", "(internal/reflectlite.Value).Len"], unfollowed := true, recurses := true, apart := false }
def ReserveOptimalitySaid : Prop := reserveOptimalityRow.holds Tryz.pinned (OpenSpec.ofChange reserveOptimalitySpec)

/-- ITS FALSE NEIGHBOUR: 'it returns false'. Refute it at one input. -/
def reserveOptimalityWrong : ChangeSpec := { name := "reserveOptimality", fn := fun _ => fun
  | [d1, d2, d3, d4, d5] => { results := [.lit (.bool false)], args := [d1, d2, d3, d4, d5] }
  | _ => none }
def ReserveOptimalityWrongFalsely : Prop := reserveOptimalityRow.holds Tryz.pinned (OpenSpec.ofChange reserveOptimalityWrong)

/-- 'pylonlaw30.ReserveMarginalPrice': WHATEVER THE INPUT: true; the input reads as it did. -/
def reserveMarginalPriceSpec : ChangeSpec := { name := "reserveMarginalPrice", fn := fun _ => fun
  | [d1, d2, d3, d4] => { results := [.lit (.bool true)], args := [d1, d2, d3, d4] }
  | _ => none }
def reserveMarginalPriceRow : OpenClaim := { program := "ytodkhjihkkmplaagreat", sum := "9ad9d153ffc3f5c991c157376a3f5dee5f2554fc26abac8071dd0ca743f77796", func := "pylon/pylonlaw30.ReserveMarginalPrice", spec := "reserveMarginalPrice", inPlace := ["internal/reflectlite.ValueOf", "internal/reflectlite.Swapper", "(internal/reflectlite.Value).Len"], unfollowed := true, recurses := true, apart := false }
def ReserveMarginalPriceSaid : Prop := reserveMarginalPriceRow.holds Tryz.pinned (OpenSpec.ofChange reserveMarginalPriceSpec)

/-- ITS FALSE NEIGHBOUR: 'it returns false'. Refute it at one input. -/
def reserveMarginalPriceWrong : ChangeSpec := { name := "reserveMarginalPrice", fn := fun _ => fun
  | [d1, d2, d3, d4] => { results := [.lit (.bool false)], args := [d1, d2, d3, d4] }
  | _ => none }
def ReserveMarginalPriceWrongFalsely : Prop := reserveMarginalPriceRow.holds Tryz.pinned (OpenSpec.ofChange reserveMarginalPriceWrong)

/-- 'pylonlaw30.ReserveAdditivity': WHATEVER THE INPUT: true; the input reads as it did. -/
def reserveAdditivitySpec : ChangeSpec := { name := "reserveAdditivity", fn := fun _ => fun
  | [d1, d2, d3, d4, d5] => { results := [.lit (.bool true)], args := [d1, d2, d3, d4, d5] }
  | _ => none }
def reserveAdditivityRow : OpenClaim := { program := "ytodkhjihkkmplaagreat", sum := "9ad9d153ffc3f5c991c157376a3f5dee5f2554fc26abac8071dd0ca743f77796", func := "pylon/pylonlaw30.ReserveAdditivity", spec := "reserveAdditivity", inPlace := ["internal/reflectlite.ValueOf", "internal/reflectlite.Swapper", "(internal/reflectlite.Value).Len"], unfollowed := true, recurses := true, apart := false }
def ReserveAdditivitySaid : Prop := reserveAdditivityRow.holds Tryz.pinned (OpenSpec.ofChange reserveAdditivitySpec)

/-- ITS FALSE NEIGHBOUR: 'it returns false'. Refute it at one input. -/
def reserveAdditivityWrong : ChangeSpec := { name := "reserveAdditivity", fn := fun _ => fun
  | [d1, d2, d3, d4, d5] => { results := [.lit (.bool false)], args := [d1, d2, d3, d4, d5] }
  | _ => none }
def ReserveAdditivityWrongFalsely : Prop := reserveAdditivityRow.holds Tryz.pinned (OpenSpec.ofChange reserveAdditivityWrong)

/- THE SECOND FORM. 'bulk': how many values and letters a reading holds, each counted each time it is reached (what is shared counts as often as it is met; a slice's spare places count too). A statement '..UptoSaid' is the law's where the arguments, and the package variables that the reading takes, are together of bulk at most 1048576: NARROWER than '..Said'. Prove '..Said' where nothing that the law and all that it calls make is longer than what came in: it says more and counts as full. Else prove '..UptoSaid'. A law counts once. -/
mutual
def uptoBulk {H : Type} : DataW H → Nat
  | .lit (.string bytes) => bytes.length + 1
  | .lit _ => 1
  | .nil => 1
  | .ptr d => uptoBulk d + 1
  | .slice elems spare => uptoBulkAll elems + uptoBulkAll spare + 1
  | .agg parts => uptoBulkAll parts + 1
  | .iface _ d => uptoBulk d + 1
  | .map entries => uptoBulkEntries entries + 1
  | .held _ => 1
def uptoBulkAll {H : Type} : List (DataW H) → Nat
  | [] => 0
  | d :: r => uptoBulk d + uptoBulkAll r
def uptoBulkEntries {H : Type} : List (Lit × DataW H) → Nat
  | [] => 0
  | x :: r => uptoBulkEntry x + uptoBulkEntries r
def uptoBulkEntry {H : Type} : Lit × DataW H → Nat
  | (.string bytes, d) => bytes.length + uptoBulk d + 1
  | (_, d) => uptoBulk d + 1
 end
def uptoSmall : (H : Type) → List (DataW H) → Bool := fun _ ds => decide (uptoBulkAll ds ≤ 1048576)
def OpenSpec.upto (s : _root_.Go.ChangeSpec) : _root_.Go.OpenSpec := { _root_.Go.OpenSpec.ofChange s with cond := some uptoSmall }

/-- 'pylonlaw30.ReserveMatches', WHERE WHAT IT READS IS OF BULK AT MOST 1048576: true; the input reads as it did. -/
def reserveMatchesUptoRow : OpenClaim := { program := "ytodkhjihkkmplaagreat", sum := "9ad9d153ffc3f5c991c157376a3f5dee5f2554fc26abac8071dd0ca743f77796", func := "pylon/pylonlaw30.ReserveMatches", spec := "reserveMatches", inPlace := ["internal/reflectlite.ValueOf", "internal/reflectlite.Swapper", "(internal/reflectlite.Value).Len"], unfollowed := true, recurses := true, apart := false, narrowed := true }
def ReserveMatchesUptoSaid : Prop := reserveMatchesUptoRow.holds Tryz.pinned (OpenSpec.upto reserveMatchesSpec)

/-- 'pylonlaw30.ReservePayMatches', WHERE WHAT IT READS IS OF BULK AT MOST 1048576: true; the input reads as it did. -/
def reservePayMatchesUptoRow : OpenClaim := { program := "ytodkhjihkkmplaagreat", sum := "9ad9d153ffc3f5c991c157376a3f5dee5f2554fc26abac8071dd0ca743f77796", func := "pylon/pylonlaw30.ReservePayMatches", spec := "reservePayMatches", inPlace := ["internal/reflectlite.ValueOf", "internal/reflectlite.Swapper", "(internal/reflectlite.Value).Len"], unfollowed := true, recurses := true, apart := false, narrowed := true }
def ReservePayMatchesUptoSaid : Prop := reservePayMatchesUptoRow.holds Tryz.pinned (OpenSpec.upto reservePayMatchesSpec)

/-- 'pylonlaw30.ReserveExamples', WHERE WHAT IT READS IS OF BULK AT MOST 1048576: true; the input reads as it did. -/
def reserveExamplesUptoRow : OpenClaim := { program := "ytodkhjihkkmplaagreat", sum := "9ad9d153ffc3f5c991c157376a3f5dee5f2554fc26abac8071dd0ca743f77796", func := "pylon/pylonlaw30.ReserveExamples", spec := "reserveExamples", inPlace := ["internal/reflectlite.ValueOf", "internal/reflectlite.Swapper", "(internal/reflectlite.Value).Len"], unfollowed := true, recurses := true, apart := false, narrowed := true }
def ReserveExamplesUptoSaid : Prop := reserveExamplesUptoRow.holds Tryz.pinned (OpenSpec.upto reserveExamplesSpec)

/-- 'pylonlaw30.ReserveMonotone', WHERE WHAT IT READS IS OF BULK AT MOST 1048576: true; the input reads as it did. -/
def reserveMonotoneUptoRow : OpenClaim := { program := "ytodkhjihkkmplaagreat", sum := "9ad9d153ffc3f5c991c157376a3f5dee5f2554fc26abac8071dd0ca743f77796", func := "pylon/pylonlaw30.ReserveMonotone", spec := "reserveMonotone", inPlace := ["internal/reflectlite.ValueOf", "internal/reflectlite.Swapper", "(internal/reflectlite.Value).Len"], unfollowed := true, recurses := true, apart := false, narrowed := true }
def ReserveMonotoneUptoSaid : Prop := reserveMonotoneUptoRow.holds Tryz.pinned (OpenSpec.upto reserveMonotoneSpec)

/-- 'pylonlaw30.ReserveOptimality', WHERE WHAT IT READS IS OF BULK AT MOST 1048576: true; the input reads as it did. -/
def reserveOptimalityUptoRow : OpenClaim := { program := "ytodkhjihkkmplaagreat", sum := "9ad9d153ffc3f5c991c157376a3f5dee5f2554fc26abac8071dd0ca743f77796", func := "pylon/pylonlaw30.ReserveOptimality", spec := "reserveOptimality", inPlace := ["internal/reflectlite.ValueOf", "internal/reflectlite.Swapper", "(internal/reflectlite.Value).Len"], unfollowed := true, recurses := true, apart := false, narrowed := true }
def ReserveOptimalityUptoSaid : Prop := reserveOptimalityUptoRow.holds Tryz.pinned (OpenSpec.upto reserveOptimalitySpec)

/-- 'pylonlaw30.ReserveMarginalPrice', WHERE WHAT IT READS IS OF BULK AT MOST 1048576: true; the input reads as it did. -/
def reserveMarginalPriceUptoRow : OpenClaim := { program := "ytodkhjihkkmplaagreat", sum := "9ad9d153ffc3f5c991c157376a3f5dee5f2554fc26abac8071dd0ca743f77796", func := "pylon/pylonlaw30.ReserveMarginalPrice", spec := "reserveMarginalPrice", inPlace := ["internal/reflectlite.ValueOf", "internal/reflectlite.Swapper", "(internal/reflectlite.Value).Len"], unfollowed := true, recurses := true, apart := false, narrowed := true }
def ReserveMarginalPriceUptoSaid : Prop := reserveMarginalPriceUptoRow.holds Tryz.pinned (OpenSpec.upto reserveMarginalPriceSpec)

/-- 'pylonlaw30.ReserveAdditivity', WHERE WHAT IT READS IS OF BULK AT MOST 1048576: true; the input reads as it did. -/
def reserveAdditivityUptoRow : OpenClaim := { program := "ytodkhjihkkmplaagreat", sum := "9ad9d153ffc3f5c991c157376a3f5dee5f2554fc26abac8071dd0ca743f77796", func := "pylon/pylonlaw30.ReserveAdditivity", spec := "reserveAdditivity", inPlace := ["internal/reflectlite.ValueOf", "internal/reflectlite.Swapper", "(internal/reflectlite.Value).Len"], unfollowed := true, recurses := true, apart := false, narrowed := true }
def ReserveAdditivityUptoSaid : Prop := reserveAdditivityUptoRow.holds Tryz.pinned (OpenSpec.upto reserveAdditivitySpec)

end Rows
end Go.Proofs.YtodkhjihkkmplaaGreat
