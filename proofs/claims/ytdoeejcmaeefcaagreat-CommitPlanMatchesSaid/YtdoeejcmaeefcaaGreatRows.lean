/-
  No cell of these rows narrows 'for every input' (looked for: loops, veiled, ifaces, maps, wideKeys, modest, calm, conditions, laid).
  DERIVED. THE GIVEN ROWS OF THIS SEAT. 7 by the template 'for every input the law returns true; each argument reads behind the call as it read before'; 0 by the template 'total and deterministic' (their statements: YtdoeejcmaeefcaaGreatTotals.lean).
  GIVEN WITH THE SEED: the statements are not yours to turn. If you find one false, say at which input.
  Laid BY PROGRAM, IN A SANDBOX (cutbox-rows.mjs): the forced cells as the released guide's own fill.sh prints them over the translation a98782586a4c9be6… (all of the seat's roots in one cut). By AI agents, Wed Nov 11 2026. No macro, syntax, notation, axiom, sorry.
-/
import Derived.Test.YtdoeejcmaeefcaaGreatChecked
import GoSem.Claim
import GoSem.ClaimJoined
import GoSem.ClaimMapViews
import Derived.JoinedTies
import Derived.KernelRfl
namespace Go.Proofs.YtdoeejcmaeefcaaGreat
/- THE CELL 'sum', in the pinned program and in every row, IS THE sha256 OF THE DUMP (.gsa) THAT YtdoeejcmaeefcaaGreatProg.lean LOADS. Nothing in Lean hashes anything: it is a label: what it is worth is what the hold of that sum in a sandbox is worth. -/
noncomputable def Tryz.pinned : Pinned := { name := "ytdoeejcmaeefcaagreat", sum := "a98782586a4c9be6786dcc94f75c264672770e42044916952ebc8c06a8e79cec", checked := Tryz.checked }
namespace Rows
def none {H : Type} : Left H := { results := [], args := [] }

/-- 'pylonlaw29.CommitCostMatches': WHATEVER THE INPUT: true; the input reads as it did. -/
def commitCostMatchesSpec : ChangeSpec := { name := "commitCostMatches", fn := fun _ => fun
  | [d1, d2, d3] => { results := [.lit (.bool true)], args := [d1, d2, d3] }
  | _ => none }
def commitCostMatchesRow : OpenClaim := { program := "ytdoeejcmaeefcaagreat", sum := "a98782586a4c9be6786dcc94f75c264672770e42044916952ebc8c06a8e79cec", func := "pylon/pylonlaw29.CommitCostMatches", spec := "commitCostMatches", inPlace := ["internal/reflectlite.ValueOf", "internal/reflectlite.Swapper", "(internal/reflectlite.Value).Len"], unfollowed := true, recurses := true, plainKeys := false, apart := false }
def CommitCostMatchesSaid : Prop := commitCostMatchesRow.holds Tryz.pinned (OpenSpec.ofChange commitCostMatchesSpec)

/-- ITS FALSE NEIGHBOUR: 'it returns false'. Refute it at one input. -/
def commitCostMatchesWrong : ChangeSpec := { name := "commitCostMatches", fn := fun _ => fun
  | [d1, d2, d3] => { results := [.lit (.bool false)], args := [d1, d2, d3] }
  | _ => none }
def CommitCostMatchesWrongFalsely : Prop := commitCostMatchesRow.holds Tryz.pinned (OpenSpec.ofChange commitCostMatchesWrong)

/-- 'pylonlaw29.CommitPlanMatches': WHATEVER THE INPUT: true; the input reads as it did. -/
def commitPlanMatchesSpec : ChangeSpec := { name := "commitPlanMatches", fn := fun _ => fun
  | [d1, d2] => { results := [.lit (.bool true)], args := [d1, d2] }
  | _ => none }
def commitPlanMatchesRow : OpenClaim := { program := "ytdoeejcmaeefcaagreat", sum := "a98782586a4c9be6786dcc94f75c264672770e42044916952ebc8c06a8e79cec", func := "pylon/pylonlaw29.CommitPlanMatches", spec := "commitPlanMatches", inPlace := ["internal/reflectlite.ValueOf", "internal/reflectlite.Swapper", "(internal/reflectlite.Value).Len"], unfollowed := true, recurses := true, plainKeys := false, apart := false }
def CommitPlanMatchesSaid : Prop := commitPlanMatchesRow.holds Tryz.pinned (OpenSpec.ofChange commitPlanMatchesSpec)

/-- ITS FALSE NEIGHBOUR: 'it returns false'. Refute it at one input. -/
def commitPlanMatchesWrong : ChangeSpec := { name := "commitPlanMatches", fn := fun _ => fun
  | [d1, d2] => { results := [.lit (.bool false)], args := [d1, d2] }
  | _ => none }
def CommitPlanMatchesWrongFalsely : Prop := commitPlanMatchesRow.holds Tryz.pinned (OpenSpec.ofChange commitPlanMatchesWrong)

/-- 'pylonlaw29.CommitOptimality': WHATEVER THE INPUT: true; the input reads as it did. -/
def commitOptimalitySpec : ChangeSpec := { name := "commitOptimality", fn := fun _ => fun
  | [d1, d2, d3] => { results := [.lit (.bool true)], args := [d1, d2, d3] }
  | _ => none }
def commitOptimalityRow : OpenClaim := { program := "ytdoeejcmaeefcaagreat", sum := "a98782586a4c9be6786dcc94f75c264672770e42044916952ebc8c06a8e79cec", func := "pylon/pylonlaw29.CommitOptimality", spec := "commitOptimality", inPlace := ["internal/reflectlite.ValueOf", "internal/reflectlite.Swapper", "(internal/reflectlite.Value).Len"], unfollowed := true, recurses := true, plainKeys := false, apart := false }
def CommitOptimalitySaid : Prop := commitOptimalityRow.holds Tryz.pinned (OpenSpec.ofChange commitOptimalitySpec)

/-- ITS FALSE NEIGHBOUR: 'it returns false'. Refute it at one input. -/
def commitOptimalityWrong : ChangeSpec := { name := "commitOptimality", fn := fun _ => fun
  | [d1, d2, d3] => { results := [.lit (.bool false)], args := [d1, d2, d3] }
  | _ => none }
def CommitOptimalityWrongFalsely : Prop := commitOptimalityRow.holds Tryz.pinned (OpenSpec.ofChange commitOptimalityWrong)

/-- 'pylonlaw29.CommitDynamicProgramming': WHATEVER THE INPUT: true; the input reads as it did. -/
def commitDynamicProgrammingSpec : ChangeSpec := { name := "commitDynamicProgramming", fn := fun _ => fun
  | [d1, d2, d3] => { results := [.lit (.bool true)], args := [d1, d2, d3] }
  | _ => none }
def commitDynamicProgrammingRow : OpenClaim := { program := "ytdoeejcmaeefcaagreat", sum := "a98782586a4c9be6786dcc94f75c264672770e42044916952ebc8c06a8e79cec", func := "pylon/pylonlaw29.CommitDynamicProgramming", spec := "commitDynamicProgramming", inPlace := ["internal/reflectlite.ValueOf", "internal/reflectlite.Swapper", "(internal/reflectlite.Value).Len"], unfollowed := true, recurses := true, plainKeys := false, apart := false }
def CommitDynamicProgrammingSaid : Prop := commitDynamicProgrammingRow.holds Tryz.pinned (OpenSpec.ofChange commitDynamicProgrammingSpec)

/-- ITS FALSE NEIGHBOUR: 'it returns false'. Refute it at one input. -/
def commitDynamicProgrammingWrong : ChangeSpec := { name := "commitDynamicProgramming", fn := fun _ => fun
  | [d1, d2, d3] => { results := [.lit (.bool false)], args := [d1, d2, d3] }
  | _ => none }
def CommitDynamicProgrammingWrongFalsely : Prop := commitDynamicProgrammingRow.holds Tryz.pinned (OpenSpec.ofChange commitDynamicProgrammingWrong)

/-- 'pylonlaw29.CommitReserveRequirement': WHATEVER THE INPUT: true; the input reads as it did. -/
def commitReserveRequirementSpec : ChangeSpec := { name := "commitReserveRequirement", fn := fun _ => fun
  | [d1, d2, d3, d4] => { results := [.lit (.bool true)], args := [d1, d2, d3, d4] }
  | _ => none }
def commitReserveRequirementRow : OpenClaim := { program := "ytdoeejcmaeefcaagreat", sum := "a98782586a4c9be6786dcc94f75c264672770e42044916952ebc8c06a8e79cec", func := "pylon/pylonlaw29.CommitReserveRequirement", spec := "commitReserveRequirement", inPlace := ["internal/reflectlite.ValueOf", "internal/reflectlite.Swapper", "(internal/reflectlite.Value).Len"], unfollowed := true, recurses := true, plainKeys := false, apart := false }
def CommitReserveRequirementSaid : Prop := commitReserveRequirementRow.holds Tryz.pinned (OpenSpec.ofChange commitReserveRequirementSpec)

/-- ITS FALSE NEIGHBOUR: 'it returns false'. Refute it at one input. -/
def commitReserveRequirementWrong : ChangeSpec := { name := "commitReserveRequirement", fn := fun _ => fun
  | [d1, d2, d3, d4] => { results := [.lit (.bool false)], args := [d1, d2, d3, d4] }
  | _ => none }
def CommitReserveRequirementWrongFalsely : Prop := commitReserveRequirementRow.holds Tryz.pinned (OpenSpec.ofChange commitReserveRequirementWrong)

/-- 'pylonlaw29.CommitAdditionalUnit': WHATEVER THE INPUT: true; the input reads as it did. -/
def commitAdditionalUnitSpec : ChangeSpec := { name := "commitAdditionalUnit", fn := fun _ => fun
  | [d1, d2, d3] => { results := [.lit (.bool true)], args := [d1, d2, d3] }
  | _ => none }
def commitAdditionalUnitRow : OpenClaim := { program := "ytdoeejcmaeefcaagreat", sum := "a98782586a4c9be6786dcc94f75c264672770e42044916952ebc8c06a8e79cec", func := "pylon/pylonlaw29.CommitAdditionalUnit", spec := "commitAdditionalUnit", inPlace := ["internal/reflectlite.ValueOf", "internal/reflectlite.Swapper", "(internal/reflectlite.Value).Len"], unfollowed := true, recurses := true, plainKeys := false, apart := false }
def CommitAdditionalUnitSaid : Prop := commitAdditionalUnitRow.holds Tryz.pinned (OpenSpec.ofChange commitAdditionalUnitSpec)

/-- ITS FALSE NEIGHBOUR: 'it returns false'. Refute it at one input. -/
def commitAdditionalUnitWrong : ChangeSpec := { name := "commitAdditionalUnit", fn := fun _ => fun
  | [d1, d2, d3] => { results := [.lit (.bool false)], args := [d1, d2, d3] }
  | _ => none }
def CommitAdditionalUnitWrongFalsely : Prop := commitAdditionalUnitRow.holds Tryz.pinned (OpenSpec.ofChange commitAdditionalUnitWrong)

/-- 'pylonlaw29.CommitIrrelevantFields': WHATEVER THE INPUT: true; the input reads as it did. -/
def commitIrrelevantFieldsSpec : ChangeSpec := { name := "commitIrrelevantFields", fn := fun _ => fun
  | [d1, d2, d3, d4, d5] => { results := [.lit (.bool true)], args := [d1, d2, d3, d4, d5] }
  | _ => none }
def commitIrrelevantFieldsRow : OpenClaim := { program := "ytdoeejcmaeefcaagreat", sum := "a98782586a4c9be6786dcc94f75c264672770e42044916952ebc8c06a8e79cec", func := "pylon/pylonlaw29.CommitIrrelevantFields", spec := "commitIrrelevantFields", inPlace := ["internal/reflectlite.ValueOf", "internal/reflectlite.Swapper", "(internal/reflectlite.Value).Len"], unfollowed := true, recurses := true, plainKeys := false, apart := false }
def CommitIrrelevantFieldsSaid : Prop := commitIrrelevantFieldsRow.holds Tryz.pinned (OpenSpec.ofChange commitIrrelevantFieldsSpec)

/-- ITS FALSE NEIGHBOUR: 'it returns false'. Refute it at one input. -/
def commitIrrelevantFieldsWrong : ChangeSpec := { name := "commitIrrelevantFields", fn := fun _ => fun
  | [d1, d2, d3, d4, d5] => { results := [.lit (.bool false)], args := [d1, d2, d3, d4, d5] }
  | _ => none }
def CommitIrrelevantFieldsWrongFalsely : Prop := commitIrrelevantFieldsRow.holds Tryz.pinned (OpenSpec.ofChange commitIrrelevantFieldsWrong)

/- THE SECOND FORM. 'bulk': how many values and letters a reading holds, each counted each time it is reached (what is shared counts as often as it is met; a slice's spare places count too). A statement '..UptoSaid' is the law's where the arguments, and the package variables that the reading takes, are together of bulk at most 1048576: NARROWER than '..Said'. Prove '..Said' where nothing that the law and all that it calls make is longer than what came in: it says more and counts as full. Else prove '..UptoSaid'. A law counts once. -/
mutual
def uptoBulk {H : Type} : DataW H → Nat
  | .lit (.string bytes) => bytes.length + 1
  | .lit _ => 1
  | .nil => 1
  | .ptr d => uptoBulk d + 1
  | .slice elems spare => uptoBulkAll elems + uptoBulkAll spare + 1
  | .agg parts => uptoBulkAll parts + 1
  | .iface _ d => uptoBulk d + 1
  | .map entries => uptoBulkEntries entries + 1
  | .held _ => 1
def uptoBulkAll {H : Type} : List (DataW H) → Nat
  | [] => 0
  | d :: r => uptoBulk d + uptoBulkAll r
def uptoBulkEntries {H : Type} : List (Lit × DataW H) → Nat
  | [] => 0
  | x :: r => uptoBulkEntry x + uptoBulkEntries r
def uptoBulkEntry {H : Type} : Lit × DataW H → Nat
  | (.string bytes, d) => bytes.length + uptoBulk d + 1
  | (_, d) => uptoBulk d + 1
 end
def uptoSmall : (H : Type) → List (DataW H) → Bool := fun _ ds => decide (uptoBulkAll ds ≤ 1048576)
def OpenSpec.upto (s : _root_.Go.ChangeSpec) : _root_.Go.OpenSpec := { _root_.Go.OpenSpec.ofChange s with cond := some uptoSmall }

/-- 'pylonlaw29.CommitCostMatches', WHERE WHAT IT READS IS OF BULK AT MOST 1048576: true; the input reads as it did. -/
def commitCostMatchesUptoRow : OpenClaim := { program := "ytdoeejcmaeefcaagreat", sum := "a98782586a4c9be6786dcc94f75c264672770e42044916952ebc8c06a8e79cec", func := "pylon/pylonlaw29.CommitCostMatches", spec := "commitCostMatches", inPlace := ["internal/reflectlite.ValueOf", "internal/reflectlite.Swapper", "(internal/reflectlite.Value).Len"], unfollowed := true, recurses := true, plainKeys := false, apart := false, narrowed := true }
def CommitCostMatchesUptoSaid : Prop := commitCostMatchesUptoRow.holds Tryz.pinned (OpenSpec.upto commitCostMatchesSpec)

/-- 'pylonlaw29.CommitPlanMatches', WHERE WHAT IT READS IS OF BULK AT MOST 1048576: true; the input reads as it did. -/
def commitPlanMatchesUptoRow : OpenClaim := { program := "ytdoeejcmaeefcaagreat", sum := "a98782586a4c9be6786dcc94f75c264672770e42044916952ebc8c06a8e79cec", func := "pylon/pylonlaw29.CommitPlanMatches", spec := "commitPlanMatches", inPlace := ["internal/reflectlite.ValueOf", "internal/reflectlite.Swapper", "(internal/reflectlite.Value).Len"], unfollowed := true, recurses := true, plainKeys := false, apart := false, narrowed := true }
def CommitPlanMatchesUptoSaid : Prop := commitPlanMatchesUptoRow.holds Tryz.pinned (OpenSpec.upto commitPlanMatchesSpec)

/-- 'pylonlaw29.CommitOptimality', WHERE WHAT IT READS IS OF BULK AT MOST 1048576: true; the input reads as it did. -/
def commitOptimalityUptoRow : OpenClaim := { program := "ytdoeejcmaeefcaagreat", sum := "a98782586a4c9be6786dcc94f75c264672770e42044916952ebc8c06a8e79cec", func := "pylon/pylonlaw29.CommitOptimality", spec := "commitOptimality", inPlace := ["internal/reflectlite.ValueOf", "internal/reflectlite.Swapper", "(internal/reflectlite.Value).Len"], unfollowed := true, recurses := true, plainKeys := false, apart := false, narrowed := true }
def CommitOptimalityUptoSaid : Prop := commitOptimalityUptoRow.holds Tryz.pinned (OpenSpec.upto commitOptimalitySpec)

/-- 'pylonlaw29.CommitDynamicProgramming', WHERE WHAT IT READS IS OF BULK AT MOST 1048576: true; the input reads as it did. -/
def commitDynamicProgrammingUptoRow : OpenClaim := { program := "ytdoeejcmaeefcaagreat", sum := "a98782586a4c9be6786dcc94f75c264672770e42044916952ebc8c06a8e79cec", func := "pylon/pylonlaw29.CommitDynamicProgramming", spec := "commitDynamicProgramming", inPlace := ["internal/reflectlite.ValueOf", "internal/reflectlite.Swapper", "(internal/reflectlite.Value).Len"], unfollowed := true, recurses := true, plainKeys := false, apart := false, narrowed := true }
def CommitDynamicProgrammingUptoSaid : Prop := commitDynamicProgrammingUptoRow.holds Tryz.pinned (OpenSpec.upto commitDynamicProgrammingSpec)

/-- 'pylonlaw29.CommitReserveRequirement', WHERE WHAT IT READS IS OF BULK AT MOST 1048576: true; the input reads as it did. -/
def commitReserveRequirementUptoRow : OpenClaim := { program := "ytdoeejcmaeefcaagreat", sum := "a98782586a4c9be6786dcc94f75c264672770e42044916952ebc8c06a8e79cec", func := "pylon/pylonlaw29.CommitReserveRequirement", spec := "commitReserveRequirement", inPlace := ["internal/reflectlite.ValueOf", "internal/reflectlite.Swapper", "(internal/reflectlite.Value).Len"], unfollowed := true, recurses := true, plainKeys := false, apart := false, narrowed := true }
def CommitReserveRequirementUptoSaid : Prop := commitReserveRequirementUptoRow.holds Tryz.pinned (OpenSpec.upto commitReserveRequirementSpec)

/-- 'pylonlaw29.CommitAdditionalUnit', WHERE WHAT IT READS IS OF BULK AT MOST 1048576: true; the input reads as it did. -/
def commitAdditionalUnitUptoRow : OpenClaim := { program := "ytdoeejcmaeefcaagreat", sum := "a98782586a4c9be6786dcc94f75c264672770e42044916952ebc8c06a8e79cec", func := "pylon/pylonlaw29.CommitAdditionalUnit", spec := "commitAdditionalUnit", inPlace := ["internal/reflectlite.ValueOf", "internal/reflectlite.Swapper", "(internal/reflectlite.Value).Len"], unfollowed := true, recurses := true, plainKeys := false, apart := false, narrowed := true }
def CommitAdditionalUnitUptoSaid : Prop := commitAdditionalUnitUptoRow.holds Tryz.pinned (OpenSpec.upto commitAdditionalUnitSpec)

/-- 'pylonlaw29.CommitIrrelevantFields', WHERE WHAT IT READS IS OF BULK AT MOST 1048576: true; the input reads as it did. -/
def commitIrrelevantFieldsUptoRow : OpenClaim := { program := "ytdoeejcmaeefcaagreat", sum := "a98782586a4c9be6786dcc94f75c264672770e42044916952ebc8c06a8e79cec", func := "pylon/pylonlaw29.CommitIrrelevantFields", spec := "commitIrrelevantFields", inPlace := ["internal/reflectlite.ValueOf", "internal/reflectlite.Swapper", "(internal/reflectlite.Value).Len"], unfollowed := true, recurses := true, plainKeys := false, apart := false, narrowed := true }
def CommitIrrelevantFieldsUptoSaid : Prop := commitIrrelevantFieldsUptoRow.holds Tryz.pinned (OpenSpec.upto commitIrrelevantFieldsSpec)

end Rows
end Go.Proofs.YtdoeejcmaeefcaaGreat
