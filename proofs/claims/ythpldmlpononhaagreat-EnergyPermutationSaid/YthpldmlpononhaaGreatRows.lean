/-
  No cell of these rows narrows 'for every input' (looked for: loops, veiled, ifaces, maps, wideKeys, modest, calm, conditions, laid).
  DERIVED. THE GIVEN ROWS OF THIS SEAT. 15 by the template 'for every input the law returns true; each argument reads behind the call as it read before'; 0 by the template 'total and deterministic' (their statements: YthpldmlpononhaaGreatTotals.lean).
  GIVEN WITH THE SEED: the statements are not yours to turn. If you find one false, say at which input.
  Laid BY PROGRAM, IN A SANDBOX (cutbox-rows.mjs): the forced cells as the released guide's own fill.sh prints them over the translation 8e4224b77ebefcbb… (all of the seat's roots in one cut). By AI agents, Wed Nov 11 2026. No macro, syntax, notation, axiom, sorry.
-/
import Derived.Test.YthpldmlpononhaaGreatChecked
import GoSem.Claim
import GoSem.ClaimJoined
import GoSem.ClaimMapViews
import Derived.JoinedTies
import Derived.KernelRfl
namespace Go.Proofs.YthpldmlpononhaaGreat
/- THE CELL 'sum', in the pinned program and in every row, IS THE sha256 OF THE DUMP (.gsa) THAT YthpldmlpononhaaGreatProg.lean LOADS. Nothing in Lean hashes anything: it is a label: what it is worth is what the hold of that sum in a sandbox is worth. -/
noncomputable def Tryz.pinned : Pinned := { name := "ythpldmlpononhaagreat", sum := "8e4224b77ebefcbb055e1e0bcd154d39294e9c4c8042db3bb2e4c9f8f7cc899e", checked := Tryz.checked }
namespace Rows
def none {H : Type} : Left H := { results := [], args := [] }

/-- 'pylonlaw30.ReserveMatches': WHATEVER THE INPUT: true; the input reads as it did. -/
def reserveMatchesSpec : ChangeSpec := { name := "reserveMatches", fn := fun _ => fun
  | [d1, d2, d3, d4] => { results := [.lit (.bool true)], args := [d1, d2, d3, d4] }
  | _ => none }
def reserveMatchesRow : OpenClaim := { program := "ythpldmlpononhaagreat", sum := "8e4224b77ebefcbb055e1e0bcd154d39294e9c4c8042db3bb2e4c9f8f7cc899e", func := "pylon/pylonlaw30.ReserveMatches", spec := "reserveMatches", inPlace := ["internal/reflectlite.ValueOf", "internal/reflectlite.Swapper", "(internal/reflectlite.Value).Len"], unfollowed := true, recurses := true, apart := false }
def ReserveMatchesSaid : Prop := reserveMatchesRow.holds Tryz.pinned (OpenSpec.ofChange reserveMatchesSpec)

/-- ITS FALSE NEIGHBOUR: 'it returns false'. Refute it at one input. -/
def reserveMatchesWrong : ChangeSpec := { name := "reserveMatches", fn := fun _ => fun
  | [d1, d2, d3, d4] => { results := [.lit (.bool false)], args := [d1, d2, d3, d4] }
  | _ => none }
def ReserveMatchesWrongFalsely : Prop := reserveMatchesRow.holds Tryz.pinned (OpenSpec.ofChange reserveMatchesWrong)

/-- 'pylonlaw30.ReservePayMatches': WHATEVER THE INPUT: true; the input reads as it did. -/
def reservePayMatchesSpec : ChangeSpec := { name := "reservePayMatches", fn := fun _ => fun
  | [d1, d2] => { results := [.lit (.bool true)], args := [d1, d2] }
  | _ => none }
def reservePayMatchesRow : OpenClaim := { program := "ythpldmlpononhaagreat", sum := "8e4224b77ebefcbb055e1e0bcd154d39294e9c4c8042db3bb2e4c9f8f7cc899e", func := "pylon/pylonlaw30.ReservePayMatches", spec := "reservePayMatches", inPlace := ["internal/reflectlite.ValueOf", "internal/reflectlite.Swapper", "(internal/reflectlite.Value).Len"], unfollowed := true, recurses := true, apart := false }
def ReservePayMatchesSaid : Prop := reservePayMatchesRow.holds Tryz.pinned (OpenSpec.ofChange reservePayMatchesSpec)

/-- ITS FALSE NEIGHBOUR: 'it returns false'. Refute it at one input. -/
def reservePayMatchesWrong : ChangeSpec := { name := "reservePayMatches", fn := fun _ => fun
  | [d1, d2] => { results := [.lit (.bool false)], args := [d1, d2] }
  | _ => none }
def ReservePayMatchesWrongFalsely : Prop := reservePayMatchesRow.holds Tryz.pinned (OpenSpec.ofChange reservePayMatchesWrong)

/-- 'pylonlaw30.ReserveExamples': WHATEVER THE INPUT: true; the input reads as it did. -/
def reserveExamplesSpec : ChangeSpec := { name := "reserveExamples", fn := fun _ => fun
  | [] => { results := [.lit (.bool true)], args := [] }
  | _ => none }
def reserveExamplesRow : OpenClaim := { program := "ythpldmlpononhaagreat", sum := "8e4224b77ebefcbb055e1e0bcd154d39294e9c4c8042db3bb2e4c9f8f7cc899e", func := "pylon/pylonlaw30.ReserveExamples", spec := "reserveExamples", inPlace := ["internal/reflectlite.ValueOf", "internal/reflectlite.Swapper", "(internal/reflectlite.Value).Len"], unfollowed := true, recurses := true, apart := false }
def ReserveExamplesSaid : Prop := reserveExamplesRow.holds Tryz.pinned (OpenSpec.ofChange reserveExamplesSpec)

/-- ITS FALSE NEIGHBOUR: 'it returns false'. Refute it at one input. -/
def reserveExamplesWrong : ChangeSpec := { name := "reserveExamples", fn := fun _ => fun
  | [] => { results := [.lit (.bool false)], args := [] }
  | _ => none }
def ReserveExamplesWrongFalsely : Prop := reserveExamplesRow.holds Tryz.pinned (OpenSpec.ofChange reserveExamplesWrong)

/-- 'pylonlaw30.ReserveMonotone': WHATEVER THE INPUT: true; the input reads as it did. -/
def reserveMonotoneSpec : ChangeSpec := { name := "reserveMonotone", fn := fun _ => fun
  | [d1, d2, d3, d4, d5] => { results := [.lit (.bool true)], args := [d1, d2, d3, d4, d5] }
  | _ => none }
def reserveMonotoneRow : OpenClaim := { program := "ythpldmlpononhaagreat", sum := "8e4224b77ebefcbb055e1e0bcd154d39294e9c4c8042db3bb2e4c9f8f7cc899e", func := "pylon/pylonlaw30.ReserveMonotone", spec := "reserveMonotone", inPlace := ["internal/reflectlite.ValueOf", "internal/reflectlite.Swapper", "(internal/reflectlite.Value).Len"], unfollowed := true, recurses := true, apart := false }
def ReserveMonotoneSaid : Prop := reserveMonotoneRow.holds Tryz.pinned (OpenSpec.ofChange reserveMonotoneSpec)

/-- ITS FALSE NEIGHBOUR: 'it returns false'. Refute it at one input. -/
def reserveMonotoneWrong : ChangeSpec := { name := "reserveMonotone", fn := fun _ => fun
  | [d1, d2, d3, d4, d5] => { results := [.lit (.bool false)], args := [d1, d2, d3, d4, d5] }
  | _ => none }
def ReserveMonotoneWrongFalsely : Prop := reserveMonotoneRow.holds Tryz.pinned (OpenSpec.ofChange reserveMonotoneWrong)

/-- 'pylonlaw30.ReserveOptimality': WHATEVER THE INPUT: true; the input reads as it did. -/
def reserveOptimalitySpec : ChangeSpec := { name := "reserveOptimality", fn := fun _ => fun
  | [d1, d2, d3, d4, d5] => { results := [.lit (.bool true)], args := [d1, d2, d3, d4, d5] }
  | _ => none }
def reserveOptimalityRow : OpenClaim := { program := "ythpldmlpononhaagreat", sum := "8e4224b77ebefcbb055e1e0bcd154d39294e9c4c8042db3bb2e4c9f8f7cc899e", func := "pylon/pylonlaw30.ReserveOptimality", spec := "reserveOptimality", inPlace := ["internal/reflectlite.ValueOf", "internal/reflectlite.Swapper", "(internal/reflectlite.Value).Len"], unfollowed := true, recurses := true, apart := false }
def ReserveOptimalitySaid : Prop := reserveOptimalityRow.holds Tryz.pinned (OpenSpec.ofChange reserveOptimalitySpec)

/-- ITS FALSE NEIGHBOUR: 'it returns false'. Refute it at one input. -/
def reserveOptimalityWrong : ChangeSpec := { name := "reserveOptimality", fn := fun _ => fun
  | [d1, d2, d3, d4, d5] => { results := [.lit (.bool false)], args := [d1, d2, d3, d4, d5] }
  | _ => none }
def ReserveOptimalityWrongFalsely : Prop := reserveOptimalityRow.holds Tryz.pinned (OpenSpec.ofChange reserveOptimalityWrong)

/-- 'pylonlaw30.ReserveMarginalPrice': WHATEVER THE INPUT: true; the input reads as it did. -/
def reserveMarginalPriceSpec : ChangeSpec := { name := "reserveMarginalPrice", fn := fun _ => fun
  | [d1, d2, d3, d4] => { results := [.lit (.bool true)], args := [d1, d2, d3, d4] }
  | _ => none }
def reserveMarginalPriceRow : OpenClaim := { program := "ythpldmlpononhaagreat", sum := "8e4224b77ebefcbb055e1e0bcd154d39294e9c4c8042db3bb2e4c9f8f7cc899e", func := "pylon/pylonlaw30.ReserveMarginalPrice", spec := "reserveMarginalPrice", inPlace := ["internal/reflectlite.ValueOf", "internal/reflectlite.Swapper", "(internal/reflectlite.Value).Len"], unfollowed := true, recurses := true, apart := false }
def ReserveMarginalPriceSaid : Prop := reserveMarginalPriceRow.holds Tryz.pinned (OpenSpec.ofChange reserveMarginalPriceSpec)

/-- ITS FALSE NEIGHBOUR: 'it returns false'. Refute it at one input. -/
def reserveMarginalPriceWrong : ChangeSpec := { name := "reserveMarginalPrice", fn := fun _ => fun
  | [d1, d2, d3, d4] => { results := [.lit (.bool false)], args := [d1, d2, d3, d4] }
  | _ => none }
def ReserveMarginalPriceWrongFalsely : Prop := reserveMarginalPriceRow.holds Tryz.pinned (OpenSpec.ofChange reserveMarginalPriceWrong)

/-- 'pylonlaw30.ReserveAdditivity': WHATEVER THE INPUT: true; the input reads as it did. -/
def reserveAdditivitySpec : ChangeSpec := { name := "reserveAdditivity", fn := fun _ => fun
  | [d1, d2, d3, d4, d5] => { results := [.lit (.bool true)], args := [d1, d2, d3, d4, d5] }
  | _ => none }
def reserveAdditivityRow : OpenClaim := { program := "ythpldmlpononhaagreat", sum := "8e4224b77ebefcbb055e1e0bcd154d39294e9c4c8042db3bb2e4c9f8f7cc899e", func := "pylon/pylonlaw30.ReserveAdditivity", spec := "reserveAdditivity", inPlace := ["internal/reflectlite.ValueOf", "internal/reflectlite.Swapper", "(internal/reflectlite.Value).Len"], unfollowed := true, recurses := true, apart := false }
def ReserveAdditivitySaid : Prop := reserveAdditivityRow.holds Tryz.pinned (OpenSpec.ofChange reserveAdditivitySpec)

/-- ITS FALSE NEIGHBOUR: 'it returns false'. Refute it at one input. -/
def reserveAdditivityWrong : ChangeSpec := { name := "reserveAdditivity", fn := fun _ => fun
  | [d1, d2, d3, d4, d5] => { results := [.lit (.bool false)], args := [d1, d2, d3, d4, d5] }
  | _ => none }
def ReserveAdditivityWrongFalsely : Prop := reserveAdditivityRow.holds Tryz.pinned (OpenSpec.ofChange reserveAdditivityWrong)

/-- 'pylonlaw28.EnergyMatches': WHATEVER THE INPUT: true; the input reads as it did. -/
def energyMatchesSpec : ChangeSpec := { name := "energyMatches", fn := fun _ => fun
  | [d1, d2] => { results := [.lit (.bool true)], args := [d1, d2] }
  | _ => none }
def energyMatchesRow : OpenClaim := { program := "ythpldmlpononhaagreat", sum := "8e4224b77ebefcbb055e1e0bcd154d39294e9c4c8042db3bb2e4c9f8f7cc899e", func := "pylon/pylonlaw28.EnergyMatches", spec := "energyMatches", inPlace := ["internal/reflectlite.ValueOf", "internal/reflectlite.Swapper", "(internal/reflectlite.Value).Len"], unfollowed := true, recurses := true, apart := false }
def EnergyMatchesSaid : Prop := energyMatchesRow.holds Tryz.pinned (OpenSpec.ofChange energyMatchesSpec)

/-- ITS FALSE NEIGHBOUR: 'it returns false'. Refute it at one input. -/
def energyMatchesWrong : ChangeSpec := { name := "energyMatches", fn := fun _ => fun
  | [d1, d2] => { results := [.lit (.bool false)], args := [d1, d2] }
  | _ => none }
def EnergyMatchesWrongFalsely : Prop := energyMatchesRow.holds Tryz.pinned (OpenSpec.ofChange energyMatchesWrong)

/-- 'pylonlaw28.EnergyAllocationMatches': WHATEVER THE INPUT: true; the input reads as it did. -/
def energyAllocationMatchesSpec : ChangeSpec := { name := "energyAllocationMatches", fn := fun _ => fun
  | [d1, d2, d3] => { results := [.lit (.bool true)], args := [d1, d2, d3] }
  | _ => none }
def energyAllocationMatchesRow : OpenClaim := { program := "ythpldmlpononhaagreat", sum := "8e4224b77ebefcbb055e1e0bcd154d39294e9c4c8042db3bb2e4c9f8f7cc899e", func := "pylon/pylonlaw28.EnergyAllocationMatches", spec := "energyAllocationMatches", inPlace := ["internal/reflectlite.ValueOf", "internal/reflectlite.Swapper", "(internal/reflectlite.Value).Len"], unfollowed := true, recurses := true, apart := false }
def EnergyAllocationMatchesSaid : Prop := energyAllocationMatchesRow.holds Tryz.pinned (OpenSpec.ofChange energyAllocationMatchesSpec)

/-- ITS FALSE NEIGHBOUR: 'it returns false'. Refute it at one input. -/
def energyAllocationMatchesWrong : ChangeSpec := { name := "energyAllocationMatches", fn := fun _ => fun
  | [d1, d2, d3] => { results := [.lit (.bool false)], args := [d1, d2, d3] }
  | _ => none }
def EnergyAllocationMatchesWrongFalsely : Prop := energyAllocationMatchesRow.holds Tryz.pinned (OpenSpec.ofChange energyAllocationMatchesWrong)

/-- 'pylonlaw28.EnergyOptimality': WHATEVER THE INPUT: true; the input reads as it did. -/
def energyOptimalitySpec : ChangeSpec := { name := "energyOptimality", fn := fun _ => fun
  | [d1, d2, d3] => { results := [.lit (.bool true)], args := [d1, d2, d3] }
  | _ => none }
def energyOptimalityRow : OpenClaim := { program := "ythpldmlpononhaagreat", sum := "8e4224b77ebefcbb055e1e0bcd154d39294e9c4c8042db3bb2e4c9f8f7cc899e", func := "pylon/pylonlaw28.EnergyOptimality", spec := "energyOptimality", inPlace := ["internal/reflectlite.ValueOf", "internal/reflectlite.Swapper", "(internal/reflectlite.Value).Len"], unfollowed := true, recurses := true, apart := false }
def EnergyOptimalitySaid : Prop := energyOptimalityRow.holds Tryz.pinned (OpenSpec.ofChange energyOptimalitySpec)

/-- ITS FALSE NEIGHBOUR: 'it returns false'. Refute it at one input. -/
def energyOptimalityWrong : ChangeSpec := { name := "energyOptimality", fn := fun _ => fun
  | [d1, d2, d3] => { results := [.lit (.bool false)], args := [d1, d2, d3] }
  | _ => none }
def EnergyOptimalityWrongFalsely : Prop := energyOptimalityRow.holds Tryz.pinned (OpenSpec.ofChange energyOptimalityWrong)

/-- 'pylonlaw28.EnergyExchange': WHATEVER THE INPUT: true; the input reads as it did. -/
def energyExchangeSpec : ChangeSpec := { name := "energyExchange", fn := fun _ => fun
  | [d1, d2, d3, d4, d5] => { results := [.lit (.bool true)], args := [d1, d2, d3, d4, d5] }
  | _ => none }
def energyExchangeRow : OpenClaim := { program := "ythpldmlpononhaagreat", sum := "8e4224b77ebefcbb055e1e0bcd154d39294e9c4c8042db3bb2e4c9f8f7cc899e", func := "pylon/pylonlaw28.EnergyExchange", spec := "energyExchange", inPlace := ["internal/reflectlite.ValueOf", "internal/reflectlite.Swapper", "(internal/reflectlite.Value).Len"], unfollowed := true, recurses := true, apart := false }
def EnergyExchangeSaid : Prop := energyExchangeRow.holds Tryz.pinned (OpenSpec.ofChange energyExchangeSpec)

/-- ITS FALSE NEIGHBOUR: 'it returns false'. Refute it at one input. -/
def energyExchangeWrong : ChangeSpec := { name := "energyExchange", fn := fun _ => fun
  | [d1, d2, d3, d4, d5] => { results := [.lit (.bool false)], args := [d1, d2, d3, d4, d5] }
  | _ => none }
def EnergyExchangeWrongFalsely : Prop := energyExchangeRow.holds Tryz.pinned (OpenSpec.ofChange energyExchangeWrong)

/-- 'pylonlaw28.EnergyConvexity': WHATEVER THE INPUT: true; the input reads as it did. -/
def energyConvexitySpec : ChangeSpec := { name := "energyConvexity", fn := fun _ => fun
  | [d1, d2, d3] => { results := [.lit (.bool true)], args := [d1, d2, d3] }
  | _ => none }
def energyConvexityRow : OpenClaim := { program := "ythpldmlpononhaagreat", sum := "8e4224b77ebefcbb055e1e0bcd154d39294e9c4c8042db3bb2e4c9f8f7cc899e", func := "pylon/pylonlaw28.EnergyConvexity", spec := "energyConvexity", inPlace := ["internal/reflectlite.ValueOf", "internal/reflectlite.Swapper", "(internal/reflectlite.Value).Len"], unfollowed := true, recurses := true, apart := false }
def EnergyConvexitySaid : Prop := energyConvexityRow.holds Tryz.pinned (OpenSpec.ofChange energyConvexitySpec)

/-- ITS FALSE NEIGHBOUR: 'it returns false'. Refute it at one input. -/
def energyConvexityWrong : ChangeSpec := { name := "energyConvexity", fn := fun _ => fun
  | [d1, d2, d3] => { results := [.lit (.bool false)], args := [d1, d2, d3] }
  | _ => none }
def EnergyConvexityWrongFalsely : Prop := energyConvexityRow.holds Tryz.pinned (OpenSpec.ofChange energyConvexityWrong)

/-- 'pylonlaw28.EnergyUnitsOff': WHATEVER THE INPUT: true; the input reads as it did. -/
def energyUnitsOffSpec : ChangeSpec := { name := "energyUnitsOff", fn := fun _ => fun
  | [d1, d2, d3, d4, d5] => { results := [.lit (.bool true)], args := [d1, d2, d3, d4, d5] }
  | _ => none }
def energyUnitsOffRow : OpenClaim := { program := "ythpldmlpononhaagreat", sum := "8e4224b77ebefcbb055e1e0bcd154d39294e9c4c8042db3bb2e4c9f8f7cc899e", func := "pylon/pylonlaw28.EnergyUnitsOff", spec := "energyUnitsOff", inPlace := ["internal/reflectlite.ValueOf", "internal/reflectlite.Swapper", "(internal/reflectlite.Value).Len"], unfollowed := true, recurses := true, apart := false }
def EnergyUnitsOffSaid : Prop := energyUnitsOffRow.holds Tryz.pinned (OpenSpec.ofChange energyUnitsOffSpec)

/-- ITS FALSE NEIGHBOUR: 'it returns false'. Refute it at one input. -/
def energyUnitsOffWrong : ChangeSpec := { name := "energyUnitsOff", fn := fun _ => fun
  | [d1, d2, d3, d4, d5] => { results := [.lit (.bool false)], args := [d1, d2, d3, d4, d5] }
  | _ => none }
def EnergyUnitsOffWrongFalsely : Prop := energyUnitsOffRow.holds Tryz.pinned (OpenSpec.ofChange energyUnitsOffWrong)

/-- 'pylonlaw28.EnergyPermutation': WHATEVER THE INPUT: true; the input reads as it did. -/
def energyPermutationSpec : ChangeSpec := { name := "energyPermutation", fn := fun _ => fun
  | [d1, d2, d3, d4, d5] => { results := [.lit (.bool true)], args := [d1, d2, d3, d4, d5] }
  | _ => none }
def energyPermutationRow : OpenClaim := { program := "ythpldmlpononhaagreat", sum := "8e4224b77ebefcbb055e1e0bcd154d39294e9c4c8042db3bb2e4c9f8f7cc899e", func := "pylon/pylonlaw28.EnergyPermutation", spec := "energyPermutation", inPlace := ["internal/reflectlite.ValueOf", "internal/reflectlite.Swapper", "(internal/reflectlite.Value).Len"], unfollowed := true, recurses := true, apart := false }
def EnergyPermutationSaid : Prop := energyPermutationRow.holds Tryz.pinned (OpenSpec.ofChange energyPermutationSpec)

/-- ITS FALSE NEIGHBOUR: 'it returns false'. Refute it at one input. -/
def energyPermutationWrong : ChangeSpec := { name := "energyPermutation", fn := fun _ => fun
  | [d1, d2, d3, d4, d5] => { results := [.lit (.bool false)], args := [d1, d2, d3, d4, d5] }
  | _ => none }
def EnergyPermutationWrongFalsely : Prop := energyPermutationRow.holds Tryz.pinned (OpenSpec.ofChange energyPermutationWrong)

/-- 'pylonlaw28.EnergySingleUnit': WHATEVER THE INPUT: true; the input reads as it did. -/
def energySingleUnitSpec : ChangeSpec := { name := "energySingleUnit", fn := fun _ => fun
  | [d1, d2] => { results := [.lit (.bool true)], args := [d1, d2] }
  | _ => none }
def energySingleUnitRow : OpenClaim := { program := "ythpldmlpononhaagreat", sum := "8e4224b77ebefcbb055e1e0bcd154d39294e9c4c8042db3bb2e4c9f8f7cc899e", func := "pylon/pylonlaw28.EnergySingleUnit", spec := "energySingleUnit", inPlace := ["internal/reflectlite.ValueOf", "internal/reflectlite.Swapper", "(internal/reflectlite.Value).Len"], unfollowed := true, recurses := true, apart := false }
def EnergySingleUnitSaid : Prop := energySingleUnitRow.holds Tryz.pinned (OpenSpec.ofChange energySingleUnitSpec)

/-- ITS FALSE NEIGHBOUR: 'it returns false'. Refute it at one input. -/
def energySingleUnitWrong : ChangeSpec := { name := "energySingleUnit", fn := fun _ => fun
  | [d1, d2] => { results := [.lit (.bool false)], args := [d1, d2] }
  | _ => none }
def EnergySingleUnitWrongFalsely : Prop := energySingleUnitRow.holds Tryz.pinned (OpenSpec.ofChange energySingleUnitWrong)

/- THE SECOND FORM. 'bulk': how many values and letters a reading holds, each counted each time it is reached (what is shared counts as often as it is met; a slice's spare places count too). A statement '..UptoSaid' is the law's where the arguments, and the package variables that the reading takes, are together of bulk at most 1048576: NARROWER than '..Said'. Prove '..Said' where nothing that the law and all that it calls make is longer than what came in: it says more and counts as full. Else prove '..UptoSaid'. A law counts once. -/
mutual
def uptoBulk {H : Type} : DataW H → Nat
  | .lit (.string bytes) => bytes.length + 1
  | .lit _ => 1
  | .nil => 1
  | .ptr d => uptoBulk d + 1
  | .slice elems spare => uptoBulkAll elems + uptoBulkAll spare + 1
  | .agg parts => uptoBulkAll parts + 1
  | .iface _ d => uptoBulk d + 1
  | .map entries => uptoBulkEntries entries + 1
  | .held _ => 1
def uptoBulkAll {H : Type} : List (DataW H) → Nat
  | [] => 0
  | d :: r => uptoBulk d + uptoBulkAll r
def uptoBulkEntries {H : Type} : List (Lit × DataW H) → Nat
  | [] => 0
  | x :: r => uptoBulkEntry x + uptoBulkEntries r
def uptoBulkEntry {H : Type} : Lit × DataW H → Nat
  | (.string bytes, d) => bytes.length + uptoBulk d + 1
  | (_, d) => uptoBulk d + 1
 end
def uptoSmall : (H : Type) → List (DataW H) → Bool := fun _ ds => decide (uptoBulkAll ds ≤ 1048576)
def OpenSpec.upto (s : _root_.Go.ChangeSpec) : _root_.Go.OpenSpec := { _root_.Go.OpenSpec.ofChange s with cond := some uptoSmall }

/-- 'pylonlaw30.ReserveMatches', WHERE WHAT IT READS IS OF BULK AT MOST 1048576: true; the input reads as it did. -/
def reserveMatchesUptoRow : OpenClaim := { program := "ythpldmlpononhaagreat", sum := "8e4224b77ebefcbb055e1e0bcd154d39294e9c4c8042db3bb2e4c9f8f7cc899e", func := "pylon/pylonlaw30.ReserveMatches", spec := "reserveMatches", inPlace := ["internal/reflectlite.ValueOf", "internal/reflectlite.Swapper", "(internal/reflectlite.Value).Len"], unfollowed := true, recurses := true, apart := false, narrowed := true }
def ReserveMatchesUptoSaid : Prop := reserveMatchesUptoRow.holds Tryz.pinned (OpenSpec.upto reserveMatchesSpec)

/-- 'pylonlaw30.ReservePayMatches', WHERE WHAT IT READS IS OF BULK AT MOST 1048576: true; the input reads as it did. -/
def reservePayMatchesUptoRow : OpenClaim := { program := "ythpldmlpononhaagreat", sum := "8e4224b77ebefcbb055e1e0bcd154d39294e9c4c8042db3bb2e4c9f8f7cc899e", func := "pylon/pylonlaw30.ReservePayMatches", spec := "reservePayMatches", inPlace := ["internal/reflectlite.ValueOf", "internal/reflectlite.Swapper", "(internal/reflectlite.Value).Len"], unfollowed := true, recurses := true, apart := false, narrowed := true }
def ReservePayMatchesUptoSaid : Prop := reservePayMatchesUptoRow.holds Tryz.pinned (OpenSpec.upto reservePayMatchesSpec)

/-- 'pylonlaw30.ReserveExamples', WHERE WHAT IT READS IS OF BULK AT MOST 1048576: true; the input reads as it did. -/
def reserveExamplesUptoRow : OpenClaim := { program := "ythpldmlpononhaagreat", sum := "8e4224b77ebefcbb055e1e0bcd154d39294e9c4c8042db3bb2e4c9f8f7cc899e", func := "pylon/pylonlaw30.ReserveExamples", spec := "reserveExamples", inPlace := ["internal/reflectlite.ValueOf", "internal/reflectlite.Swapper", "(internal/reflectlite.Value).Len"], unfollowed := true, recurses := true, apart := false, narrowed := true }
def ReserveExamplesUptoSaid : Prop := reserveExamplesUptoRow.holds Tryz.pinned (OpenSpec.upto reserveExamplesSpec)

/-- 'pylonlaw30.ReserveMonotone', WHERE WHAT IT READS IS OF BULK AT MOST 1048576: true; the input reads as it did. -/
def reserveMonotoneUptoRow : OpenClaim := { program := "ythpldmlpononhaagreat", sum := "8e4224b77ebefcbb055e1e0bcd154d39294e9c4c8042db3bb2e4c9f8f7cc899e", func := "pylon/pylonlaw30.ReserveMonotone", spec := "reserveMonotone", inPlace := ["internal/reflectlite.ValueOf", "internal/reflectlite.Swapper", "(internal/reflectlite.Value).Len"], unfollowed := true, recurses := true, apart := false, narrowed := true }
def ReserveMonotoneUptoSaid : Prop := reserveMonotoneUptoRow.holds Tryz.pinned (OpenSpec.upto reserveMonotoneSpec)

/-- 'pylonlaw30.ReserveOptimality', WHERE WHAT IT READS IS OF BULK AT MOST 1048576: true; the input reads as it did. -/
def reserveOptimalityUptoRow : OpenClaim := { program := "ythpldmlpononhaagreat", sum := "8e4224b77ebefcbb055e1e0bcd154d39294e9c4c8042db3bb2e4c9f8f7cc899e", func := "pylon/pylonlaw30.ReserveOptimality", spec := "reserveOptimality", inPlace := ["internal/reflectlite.ValueOf", "internal/reflectlite.Swapper", "(internal/reflectlite.Value).Len"], unfollowed := true, recurses := true, apart := false, narrowed := true }
def ReserveOptimalityUptoSaid : Prop := reserveOptimalityUptoRow.holds Tryz.pinned (OpenSpec.upto reserveOptimalitySpec)

/-- 'pylonlaw30.ReserveMarginalPrice', WHERE WHAT IT READS IS OF BULK AT MOST 1048576: true; the input reads as it did. -/
def reserveMarginalPriceUptoRow : OpenClaim := { program := "ythpldmlpononhaagreat", sum := "8e4224b77ebefcbb055e1e0bcd154d39294e9c4c8042db3bb2e4c9f8f7cc899e", func := "pylon/pylonlaw30.ReserveMarginalPrice", spec := "reserveMarginalPrice", inPlace := ["internal/reflectlite.ValueOf", "internal/reflectlite.Swapper", "(internal/reflectlite.Value).Len"], unfollowed := true, recurses := true, apart := false, narrowed := true }
def ReserveMarginalPriceUptoSaid : Prop := reserveMarginalPriceUptoRow.holds Tryz.pinned (OpenSpec.upto reserveMarginalPriceSpec)

/-- 'pylonlaw30.ReserveAdditivity', WHERE WHAT IT READS IS OF BULK AT MOST 1048576: true; the input reads as it did. -/
def reserveAdditivityUptoRow : OpenClaim := { program := "ythpldmlpononhaagreat", sum := "8e4224b77ebefcbb055e1e0bcd154d39294e9c4c8042db3bb2e4c9f8f7cc899e", func := "pylon/pylonlaw30.ReserveAdditivity", spec := "reserveAdditivity", inPlace := ["internal/reflectlite.ValueOf", "internal/reflectlite.Swapper", "(internal/reflectlite.Value).Len"], unfollowed := true, recurses := true, apart := false, narrowed := true }
def ReserveAdditivityUptoSaid : Prop := reserveAdditivityUptoRow.holds Tryz.pinned (OpenSpec.upto reserveAdditivitySpec)

/-- 'pylonlaw28.EnergyMatches', WHERE WHAT IT READS IS OF BULK AT MOST 1048576: true; the input reads as it did. -/
def energyMatchesUptoRow : OpenClaim := { program := "ythpldmlpononhaagreat", sum := "8e4224b77ebefcbb055e1e0bcd154d39294e9c4c8042db3bb2e4c9f8f7cc899e", func := "pylon/pylonlaw28.EnergyMatches", spec := "energyMatches", inPlace := ["internal/reflectlite.ValueOf", "internal/reflectlite.Swapper", "(internal/reflectlite.Value).Len"], unfollowed := true, recurses := true, apart := false, narrowed := true }
def EnergyMatchesUptoSaid : Prop := energyMatchesUptoRow.holds Tryz.pinned (OpenSpec.upto energyMatchesSpec)

/-- 'pylonlaw28.EnergyAllocationMatches', WHERE WHAT IT READS IS OF BULK AT MOST 1048576: true; the input reads as it did. -/
def energyAllocationMatchesUptoRow : OpenClaim := { program := "ythpldmlpononhaagreat", sum := "8e4224b77ebefcbb055e1e0bcd154d39294e9c4c8042db3bb2e4c9f8f7cc899e", func := "pylon/pylonlaw28.EnergyAllocationMatches", spec := "energyAllocationMatches", inPlace := ["internal/reflectlite.ValueOf", "internal/reflectlite.Swapper", "(internal/reflectlite.Value).Len"], unfollowed := true, recurses := true, apart := false, narrowed := true }
def EnergyAllocationMatchesUptoSaid : Prop := energyAllocationMatchesUptoRow.holds Tryz.pinned (OpenSpec.upto energyAllocationMatchesSpec)

/-- 'pylonlaw28.EnergyOptimality', WHERE WHAT IT READS IS OF BULK AT MOST 1048576: true; the input reads as it did. -/
def energyOptimalityUptoRow : OpenClaim := { program := "ythpldmlpononhaagreat", sum := "8e4224b77ebefcbb055e1e0bcd154d39294e9c4c8042db3bb2e4c9f8f7cc899e", func := "pylon/pylonlaw28.EnergyOptimality", spec := "energyOptimality", inPlace := ["internal/reflectlite.ValueOf", "internal/reflectlite.Swapper", "(internal/reflectlite.Value).Len"], unfollowed := true, recurses := true, apart := false, narrowed := true }
def EnergyOptimalityUptoSaid : Prop := energyOptimalityUptoRow.holds Tryz.pinned (OpenSpec.upto energyOptimalitySpec)

/-- 'pylonlaw28.EnergyExchange', WHERE WHAT IT READS IS OF BULK AT MOST 1048576: true; the input reads as it did. -/
def energyExchangeUptoRow : OpenClaim := { program := "ythpldmlpononhaagreat", sum := "8e4224b77ebefcbb055e1e0bcd154d39294e9c4c8042db3bb2e4c9f8f7cc899e", func := "pylon/pylonlaw28.EnergyExchange", spec := "energyExchange", inPlace := ["internal/reflectlite.ValueOf", "internal/reflectlite.Swapper", "(internal/reflectlite.Value).Len"], unfollowed := true, recurses := true, apart := false, narrowed := true }
def EnergyExchangeUptoSaid : Prop := energyExchangeUptoRow.holds Tryz.pinned (OpenSpec.upto energyExchangeSpec)

/-- 'pylonlaw28.EnergyConvexity', WHERE WHAT IT READS IS OF BULK AT MOST 1048576: true; the input reads as it did. -/
def energyConvexityUptoRow : OpenClaim := { program := "ythpldmlpononhaagreat", sum := "8e4224b77ebefcbb055e1e0bcd154d39294e9c4c8042db3bb2e4c9f8f7cc899e", func := "pylon/pylonlaw28.EnergyConvexity", spec := "energyConvexity", inPlace := ["internal/reflectlite.ValueOf", "internal/reflectlite.Swapper", "(internal/reflectlite.Value).Len"], unfollowed := true, recurses := true, apart := false, narrowed := true }
def EnergyConvexityUptoSaid : Prop := energyConvexityUptoRow.holds Tryz.pinned (OpenSpec.upto energyConvexitySpec)

/-- 'pylonlaw28.EnergyUnitsOff', WHERE WHAT IT READS IS OF BULK AT MOST 1048576: true; the input reads as it did. -/
def energyUnitsOffUptoRow : OpenClaim := { program := "ythpldmlpononhaagreat", sum := "8e4224b77ebefcbb055e1e0bcd154d39294e9c4c8042db3bb2e4c9f8f7cc899e", func := "pylon/pylonlaw28.EnergyUnitsOff", spec := "energyUnitsOff", inPlace := ["internal/reflectlite.ValueOf", "internal/reflectlite.Swapper", "(internal/reflectlite.Value).Len"], unfollowed := true, recurses := true, apart := false, narrowed := true }
def EnergyUnitsOffUptoSaid : Prop := energyUnitsOffUptoRow.holds Tryz.pinned (OpenSpec.upto energyUnitsOffSpec)

/-- 'pylonlaw28.EnergyPermutation', WHERE WHAT IT READS IS OF BULK AT MOST 1048576: true; the input reads as it did. -/
def energyPermutationUptoRow : OpenClaim := { program := "ythpldmlpononhaagreat", sum := "8e4224b77ebefcbb055e1e0bcd154d39294e9c4c8042db3bb2e4c9f8f7cc899e", func := "pylon/pylonlaw28.EnergyPermutation", spec := "energyPermutation", inPlace := ["internal/reflectlite.ValueOf", "internal/reflectlite.Swapper", "(internal/reflectlite.Value).Len"], unfollowed := true, recurses := true, apart := false, narrowed := true }
def EnergyPermutationUptoSaid : Prop := energyPermutationUptoRow.holds Tryz.pinned (OpenSpec.upto energyPermutationSpec)

/-- 'pylonlaw28.EnergySingleUnit', WHERE WHAT IT READS IS OF BULK AT MOST 1048576: true; the input reads as it did. -/
def energySingleUnitUptoRow : OpenClaim := { program := "ythpldmlpononhaagreat", sum := "8e4224b77ebefcbb055e1e0bcd154d39294e9c4c8042db3bb2e4c9f8f7cc899e", func := "pylon/pylonlaw28.EnergySingleUnit", spec := "energySingleUnit", inPlace := ["internal/reflectlite.ValueOf", "internal/reflectlite.Swapper", "(internal/reflectlite.Value).Len"], unfollowed := true, recurses := true, apart := false, narrowed := true }
def EnergySingleUnitUptoSaid : Prop := energySingleUnitUptoRow.holds Tryz.pinned (OpenSpec.upto energySingleUnitSpec)

end Rows
end Go.Proofs.YthpldmlpononhaaGreat
