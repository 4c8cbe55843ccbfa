/-
  No cell of these rows narrows 'for every input' (looked for: loops, veiled, ifaces, maps, wideKeys, modest, calm, conditions, laid).
  DERIVED. THE GIVEN ROWS OF THIS SEAT. 12 by the template 'for every input the law returns true; each argument reads behind the call as it read before'; 0 by the template 'total and deterministic' (their statements: YtiimiogpiflkdaaTotals.lean).
  GIVEN WITH THE SEED: the statements are not yours to turn. If you find one false, say at which input.
  Laid BY PROGRAM, IN A SANDBOX (cutbox-rows.mjs): the forced cells as the released guide's own fill.sh prints them over the translation 7ed075344c1938bd… (all of the seat's roots in one cut). By AI agents, Wed Nov 11 2026. No macro, syntax, notation, axiom, sorry.
-/
import Derived.Test.YtiimiogpiflkdaaChecked
import GoSem.Claim
import GoSem.ClaimJoined
import GoSem.ClaimMapViews
import Derived.JoinedTies
import Derived.KernelRfl
namespace Go.Proofs.Ytiimiogpiflkdaa
/- THE CELL 'sum', in the pinned program and in every row, IS THE sha256 OF THE DUMP (.gsa) THAT YtiimiogpiflkdaaProg.lean LOADS. Nothing in Lean hashes anything: it is a label: what it is worth is what the hold of that sum in a sandbox is worth. -/
noncomputable def Try.pinned : Pinned := { name := "ytiimiogpiflkdaa", sum := "7ed075344c1938bd8c39d7d0c3149b76e60a9b83047cda96970df656f1b6dc4c", checked := Try.checked }
namespace Rows
def none {H : Type} : Left H := { results := [], args := [] }

/-- 'laws.FnExactFindTeam': WHATEVER THE INPUT: true; the input reads as it did. -/
def fnExactFindTeamSpec : ChangeSpec := { name := "fnExactFindTeam", fn := fun _ => fun
  | [d1, d2] => { results := [.lit (.bool true)], args := [d1, d2] }
  | _ => none }
def fnExactFindTeamRow : OpenClaim := { program := "ytiimiogpiflkdaa", sum := "7ed075344c1938bd8c39d7d0c3149b76e60a9b83047cda96970df656f1b6dc4c", func := "loop.example/g03009/laws.FnExactFindTeam", spec := "fnExactFindTeam", unfollowed := true, recurses := true, apart := false }
def FnExactFindTeamSaid : Prop := fnExactFindTeamRow.holds Try.pinned (OpenSpec.ofChange fnExactFindTeamSpec)

/-- ITS FALSE NEIGHBOUR: 'it returns false'. Refute it at one input. -/
def fnExactFindTeamWrong : ChangeSpec := { name := "fnExactFindTeam", fn := fun _ => fun
  | [d1, d2] => { results := [.lit (.bool false)], args := [d1, d2] }
  | _ => none }
def FnExactFindTeamWrongFalsely : Prop := fnExactFindTeamRow.holds Try.pinned (OpenSpec.ofChange fnExactFindTeamWrong)

/-- 'laws.FnExactAreTeams': WHATEVER THE INPUT: true; the input reads as it did. -/
def fnExactAreTeamsSpec : ChangeSpec := { name := "fnExactAreTeams", fn := fun _ => fun
  | [d] => { results := [.lit (.bool true)], args := [d] }
  | _ => none }
def fnExactAreTeamsRow : OpenClaim := { program := "ytiimiogpiflkdaa", sum := "7ed075344c1938bd8c39d7d0c3149b76e60a9b83047cda96970df656f1b6dc4c", func := "loop.example/g03009/laws.FnExactAreTeams", spec := "fnExactAreTeams", unfollowed := true, recurses := true, apart := false }
def FnExactAreTeamsSaid : Prop := fnExactAreTeamsRow.holds Try.pinned (OpenSpec.ofChange fnExactAreTeamsSpec)

/-- ITS FALSE NEIGHBOUR: 'it returns false'. Refute it at one input. -/
def fnExactAreTeamsWrong : ChangeSpec := { name := "fnExactAreTeams", fn := fun _ => fun
  | [d] => { results := [.lit (.bool false)], args := [d] }
  | _ => none }
def FnExactAreTeamsWrongFalsely : Prop := fnExactAreTeamsRow.holds Try.pinned (OpenSpec.ofChange fnExactAreTeamsWrong)

/-- 'laws.FnExactHaveMet': WHATEVER THE INPUT: true; the input reads as it did. -/
def fnExactHaveMetSpec : ChangeSpec := { name := "fnExactHaveMet", fn := fun _ => fun
  | [d1, d2, d3] => { results := [.lit (.bool true)], args := [d1, d2, d3] }
  | _ => none }
def fnExactHaveMetRow : OpenClaim := { program := "ytiimiogpiflkdaa", sum := "7ed075344c1938bd8c39d7d0c3149b76e60a9b83047cda96970df656f1b6dc4c", func := "loop.example/g03009/laws.FnExactHaveMet", spec := "fnExactHaveMet", unfollowed := true, recurses := true, apart := false }
def FnExactHaveMetSaid : Prop := fnExactHaveMetRow.holds Try.pinned (OpenSpec.ofChange fnExactHaveMetSpec)

/-- ITS FALSE NEIGHBOUR: 'it returns false'. Refute it at one input. -/
def fnExactHaveMetWrong : ChangeSpec := { name := "fnExactHaveMet", fn := fun _ => fun
  | [d1, d2, d3] => { results := [.lit (.bool false)], args := [d1, d2, d3] }
  | _ => none }
def FnExactHaveMetWrongFalsely : Prop := fnExactHaveMetRow.holds Try.pinned (OpenSpec.ofChange fnExactHaveMetWrong)

/-- 'laws.FnExactTotalWins': WHATEVER THE INPUT: true; the input reads as it did. -/
def fnExactTotalWinsSpec : ChangeSpec := { name := "fnExactTotalWins", fn := fun _ => fun
  | [d] => { results := [.lit (.bool true)], args := [d] }
  | _ => none }
def fnExactTotalWinsRow : OpenClaim := { program := "ytiimiogpiflkdaa", sum := "7ed075344c1938bd8c39d7d0c3149b76e60a9b83047cda96970df656f1b6dc4c", func := "loop.example/g03009/laws.FnExactTotalWins", spec := "fnExactTotalWins", unfollowed := true, recurses := true, apart := false }
def FnExactTotalWinsSaid : Prop := fnExactTotalWinsRow.holds Try.pinned (OpenSpec.ofChange fnExactTotalWinsSpec)

/-- ITS FALSE NEIGHBOUR: 'it returns false'. Refute it at one input. -/
def fnExactTotalWinsWrong : ChangeSpec := { name := "fnExactTotalWins", fn := fun _ => fun
  | [d] => { results := [.lit (.bool false)], args := [d] }
  | _ => none }
def FnExactTotalWinsWrongFalsely : Prop := fnExactTotalWinsRow.holds Try.pinned (OpenSpec.ofChange fnExactTotalWinsWrong)

/-- 'laws.FnExactMayMeet': WHATEVER THE INPUT: true; the input reads as it did. -/
def fnExactMayMeetSpec : ChangeSpec := { name := "fnExactMayMeet", fn := fun _ => fun
  | [d1, d2, d3] => { results := [.lit (.bool true)], args := [d1, d2, d3] }
  | _ => none }
def fnExactMayMeetRow : OpenClaim := { program := "ytiimiogpiflkdaa", sum := "7ed075344c1938bd8c39d7d0c3149b76e60a9b83047cda96970df656f1b6dc4c", func := "loop.example/g03009/laws.FnExactMayMeet", spec := "fnExactMayMeet", unfollowed := true, recurses := true, apart := false }
def FnExactMayMeetSaid : Prop := fnExactMayMeetRow.holds Try.pinned (OpenSpec.ofChange fnExactMayMeetSpec)

/-- ITS FALSE NEIGHBOUR: 'it returns false'. Refute it at one input. -/
def fnExactMayMeetWrong : ChangeSpec := { name := "fnExactMayMeet", fn := fun _ => fun
  | [d1, d2, d3] => { results := [.lit (.bool false)], args := [d1, d2, d3] }
  | _ => none }
def FnExactMayMeetWrongFalsely : Prop := fnExactMayMeetRow.holds Try.pinned (OpenSpec.ofChange fnExactMayMeetWrong)

/-- 'laws.FnExactSideGap': WHATEVER THE INPUT: true; the input reads as it did. -/
def fnExactSideGapSpec : ChangeSpec := { name := "fnExactSideGap", fn := fun _ => fun
  | [d1, d2] => { results := [.lit (.bool true)], args := [d1, d2] }
  | _ => none }
def fnExactSideGapRow : OpenClaim := { program := "ytiimiogpiflkdaa", sum := "7ed075344c1938bd8c39d7d0c3149b76e60a9b83047cda96970df656f1b6dc4c", func := "loop.example/g03009/laws.FnExactSideGap", spec := "fnExactSideGap", unfollowed := true, recurses := true, apart := false }
def FnExactSideGapSaid : Prop := fnExactSideGapRow.holds Try.pinned (OpenSpec.ofChange fnExactSideGapSpec)

/-- ITS FALSE NEIGHBOUR: 'it returns false'. Refute it at one input. -/
def fnExactSideGapWrong : ChangeSpec := { name := "fnExactSideGap", fn := fun _ => fun
  | [d1, d2] => { results := [.lit (.bool false)], args := [d1, d2] }
  | _ => none }
def FnExactSideGapWrongFalsely : Prop := fnExactSideGapRow.holds Try.pinned (OpenSpec.ofChange fnExactSideGapWrong)

/-- 'laws.FnExactStanding': WHATEVER THE INPUT: true; the input reads as it did. -/
def fnExactStandingSpec : ChangeSpec := { name := "fnExactStanding", fn := fun _ => fun
  | [d] => { results := [.lit (.bool true)], args := [d] }
  | _ => none }
def fnExactStandingRow : OpenClaim := { program := "ytiimiogpiflkdaa", sum := "7ed075344c1938bd8c39d7d0c3149b76e60a9b83047cda96970df656f1b6dc4c", func := "loop.example/g03009/laws.FnExactStanding", spec := "fnExactStanding", unfollowed := true, recurses := true, apart := false }
def FnExactStandingSaid : Prop := fnExactStandingRow.holds Try.pinned (OpenSpec.ofChange fnExactStandingSpec)

/-- ITS FALSE NEIGHBOUR: 'it returns false'. Refute it at one input. -/
def fnExactStandingWrong : ChangeSpec := { name := "fnExactStanding", fn := fun _ => fun
  | [d] => { results := [.lit (.bool false)], args := [d] }
  | _ => none }
def FnExactStandingWrongFalsely : Prop := fnExactStandingRow.holds Try.pinned (OpenSpec.ofChange fnExactStandingWrong)

/-- 'laws.FnExactSideFor': WHATEVER THE INPUT: true; the input reads as it did. -/
def fnExactSideForSpec : ChangeSpec := { name := "fnExactSideFor", fn := fun _ => fun
  | [d1, d2, d3] => { results := [.lit (.bool true)], args := [d1, d2, d3] }
  | _ => none }
def fnExactSideForRow : OpenClaim := { program := "ytiimiogpiflkdaa", sum := "7ed075344c1938bd8c39d7d0c3149b76e60a9b83047cda96970df656f1b6dc4c", func := "loop.example/g03009/laws.FnExactSideFor", spec := "fnExactSideFor", unfollowed := true, recurses := true, apart := false }
def FnExactSideForSaid : Prop := fnExactSideForRow.holds Try.pinned (OpenSpec.ofChange fnExactSideForSpec)

/-- ITS FALSE NEIGHBOUR: 'it returns false'. Refute it at one input. -/
def fnExactSideForWrong : ChangeSpec := { name := "fnExactSideFor", fn := fun _ => fun
  | [d1, d2, d3] => { results := [.lit (.bool false)], args := [d1, d2, d3] }
  | _ => none }
def FnExactSideForWrongFalsely : Prop := fnExactSideForRow.holds Try.pinned (OpenSpec.ofChange fnExactSideForWrong)

/-- 'laws.FnExactAddResult': WHATEVER THE INPUT: true; the input reads as it did. -/
def fnExactAddResultSpec : ChangeSpec := { name := "fnExactAddResult", fn := fun _ => fun
  | [d1, d2, d3, d4, d5, d6] => { results := [.lit (.bool true)], args := [d1, d2, d3, d4, d5, d6] }
  | _ => none }
def fnExactAddResultRow : OpenClaim := { program := "ytiimiogpiflkdaa", sum := "7ed075344c1938bd8c39d7d0c3149b76e60a9b83047cda96970df656f1b6dc4c", func := "loop.example/g03009/laws.FnExactAddResult", spec := "fnExactAddResult", unfollowed := true, recurses := true, apart := false }
def FnExactAddResultSaid : Prop := fnExactAddResultRow.holds Try.pinned (OpenSpec.ofChange fnExactAddResultSpec)

/-- ITS FALSE NEIGHBOUR: 'it returns false'. Refute it at one input. -/
def fnExactAddResultWrong : ChangeSpec := { name := "fnExactAddResult", fn := fun _ => fun
  | [d1, d2, d3, d4, d5, d6] => { results := [.lit (.bool false)], args := [d1, d2, d3, d4, d5, d6] }
  | _ => none }
def FnExactAddResultWrongFalsely : Prop := fnExactAddResultRow.holds Try.pinned (OpenSpec.ofChange fnExactAddResultWrong)

/-- 'laws.FnExactIsRound': WHATEVER THE INPUT: true; the input reads as it did. -/
def fnExactIsRoundSpec : ChangeSpec := { name := "fnExactIsRound", fn := fun _ => fun
  | [d1, d2] => { results := [.lit (.bool true)], args := [d1, d2] }
  | _ => none }
def fnExactIsRoundRow : OpenClaim := { program := "ytiimiogpiflkdaa", sum := "7ed075344c1938bd8c39d7d0c3149b76e60a9b83047cda96970df656f1b6dc4c", func := "loop.example/g03009/laws.FnExactIsRound", spec := "fnExactIsRound", unfollowed := true, recurses := true, apart := false }
def FnExactIsRoundSaid : Prop := fnExactIsRoundRow.holds Try.pinned (OpenSpec.ofChange fnExactIsRoundSpec)

/-- ITS FALSE NEIGHBOUR: 'it returns false'. Refute it at one input. -/
def fnExactIsRoundWrong : ChangeSpec := { name := "fnExactIsRound", fn := fun _ => fun
  | [d1, d2] => { results := [.lit (.bool false)], args := [d1, d2] }
  | _ => none }
def FnExactIsRoundWrongFalsely : Prop := fnExactIsRoundRow.holds Try.pinned (OpenSpec.ofChange fnExactIsRoundWrong)

/-- 'laws.FnExactPairRound': WHATEVER THE INPUT: true; the input reads as it did. -/
def fnExactPairRoundSpec : ChangeSpec := { name := "fnExactPairRound", fn := fun _ => fun
  | [d] => { results := [.lit (.bool true)], args := [d] }
  | _ => none }
def fnExactPairRoundRow : OpenClaim := { program := "ytiimiogpiflkdaa", sum := "7ed075344c1938bd8c39d7d0c3149b76e60a9b83047cda96970df656f1b6dc4c", func := "loop.example/g03009/laws.FnExactPairRound", spec := "fnExactPairRound", unfollowed := true, recurses := true, apart := false }
def FnExactPairRoundSaid : Prop := fnExactPairRoundRow.holds Try.pinned (OpenSpec.ofChange fnExactPairRoundSpec)

/-- ITS FALSE NEIGHBOUR: 'it returns false'. Refute it at one input. -/
def fnExactPairRoundWrong : ChangeSpec := { name := "fnExactPairRound", fn := fun _ => fun
  | [d] => { results := [.lit (.bool false)], args := [d] }
  | _ => none }
def FnExactPairRoundWrongFalsely : Prop := fnExactPairRoundRow.holds Try.pinned (OpenSpec.ofChange fnExactPairRoundWrong)

/-- 'laws.FnTeams': WHATEVER THE INPUT: true; the input reads as it did. -/
def fnTeamsSpec : ChangeSpec := { name := "fnTeams", fn := fun _ => fun
  | [d] => { results := [.lit (.bool true)], args := [d] }
  | _ => none }
def fnTeamsRow : OpenClaim := { program := "ytiimiogpiflkdaa", sum := "7ed075344c1938bd8c39d7d0c3149b76e60a9b83047cda96970df656f1b6dc4c", func := "loop.example/g03009/laws.FnTeams", spec := "fnTeams", unfollowed := true, recurses := true, apart := false }
def FnTeamsSaid : Prop := fnTeamsRow.holds Try.pinned (OpenSpec.ofChange fnTeamsSpec)

/-- ITS FALSE NEIGHBOUR: 'it returns false'. Refute it at one input. -/
def fnTeamsWrong : ChangeSpec := { name := "fnTeams", fn := fun _ => fun
  | [d] => { results := [.lit (.bool false)], args := [d] }
  | _ => none }
def FnTeamsWrongFalsely : Prop := fnTeamsRow.holds Try.pinned (OpenSpec.ofChange fnTeamsWrong)

/- THE SECOND FORM. 'bulk': how many values and letters a reading holds, each counted each time it is reached (what is shared counts as often as it is met; a slice's spare places count too). A statement '..UptoSaid' is the law's where the arguments, and the package variables that the reading takes, are together of bulk at most 1048576: NARROWER than '..Said'. Prove '..Said' where nothing that the law and all that it calls make is longer than what came in: it says more and counts as full. Else prove '..UptoSaid'. A law counts once. -/
mutual
def uptoBulk {H : Type} : DataW H → Nat
  | .lit (.string bytes) => bytes.length + 1
  | .lit _ => 1
  | .nil => 1
  | .ptr d => uptoBulk d + 1
  | .slice elems spare => uptoBulkAll elems + uptoBulkAll spare + 1
  | .agg parts => uptoBulkAll parts + 1
  | .iface _ d => uptoBulk d + 1
  | .map entries => uptoBulkEntries entries + 1
  | .held _ => 1
def uptoBulkAll {H : Type} : List (DataW H) → Nat
  | [] => 0
  | d :: r => uptoBulk d + uptoBulkAll r
def uptoBulkEntries {H : Type} : List (Lit × DataW H) → Nat
  | [] => 0
  | x :: r => uptoBulkEntry x + uptoBulkEntries r
def uptoBulkEntry {H : Type} : Lit × DataW H → Nat
  | (.string bytes, d) => bytes.length + uptoBulk d + 1
  | (_, d) => uptoBulk d + 1
 end
def uptoSmall : (H : Type) → List (DataW H) → Bool := fun _ ds => decide (uptoBulkAll ds ≤ 1048576)
def OpenSpec.upto (s : _root_.Go.ChangeSpec) : _root_.Go.OpenSpec := { _root_.Go.OpenSpec.ofChange s with cond := some uptoSmall }

/-- 'laws.FnExactFindTeam', WHERE WHAT IT READS IS OF BULK AT MOST 1048576: true; the input reads as it did. -/
def fnExactFindTeamUptoRow : OpenClaim := { program := "ytiimiogpiflkdaa", sum := "7ed075344c1938bd8c39d7d0c3149b76e60a9b83047cda96970df656f1b6dc4c", func := "loop.example/g03009/laws.FnExactFindTeam", spec := "fnExactFindTeam", unfollowed := true, recurses := true, apart := false, narrowed := true }
def FnExactFindTeamUptoSaid : Prop := fnExactFindTeamUptoRow.holds Try.pinned (OpenSpec.upto fnExactFindTeamSpec)

/-- 'laws.FnExactAreTeams', WHERE WHAT IT READS IS OF BULK AT MOST 1048576: true; the input reads as it did. -/
def fnExactAreTeamsUptoRow : OpenClaim := { program := "ytiimiogpiflkdaa", sum := "7ed075344c1938bd8c39d7d0c3149b76e60a9b83047cda96970df656f1b6dc4c", func := "loop.example/g03009/laws.FnExactAreTeams", spec := "fnExactAreTeams", unfollowed := true, recurses := true, apart := false, narrowed := true }
def FnExactAreTeamsUptoSaid : Prop := fnExactAreTeamsUptoRow.holds Try.pinned (OpenSpec.upto fnExactAreTeamsSpec)

/-- 'laws.FnExactHaveMet', WHERE WHAT IT READS IS OF BULK AT MOST 1048576: true; the input reads as it did. -/
def fnExactHaveMetUptoRow : OpenClaim := { program := "ytiimiogpiflkdaa", sum := "7ed075344c1938bd8c39d7d0c3149b76e60a9b83047cda96970df656f1b6dc4c", func := "loop.example/g03009/laws.FnExactHaveMet", spec := "fnExactHaveMet", unfollowed := true, recurses := true, apart := false, narrowed := true }
def FnExactHaveMetUptoSaid : Prop := fnExactHaveMetUptoRow.holds Try.pinned (OpenSpec.upto fnExactHaveMetSpec)

/-- 'laws.FnExactTotalWins', WHERE WHAT IT READS IS OF BULK AT MOST 1048576: true; the input reads as it did. -/
def fnExactTotalWinsUptoRow : OpenClaim := { program := "ytiimiogpiflkdaa", sum := "7ed075344c1938bd8c39d7d0c3149b76e60a9b83047cda96970df656f1b6dc4c", func := "loop.example/g03009/laws.FnExactTotalWins", spec := "fnExactTotalWins", unfollowed := true, recurses := true, apart := false, narrowed := true }
def FnExactTotalWinsUptoSaid : Prop := fnExactTotalWinsUptoRow.holds Try.pinned (OpenSpec.upto fnExactTotalWinsSpec)

/-- 'laws.FnExactMayMeet', WHERE WHAT IT READS IS OF BULK AT MOST 1048576: true; the input reads as it did. -/
def fnExactMayMeetUptoRow : OpenClaim := { program := "ytiimiogpiflkdaa", sum := "7ed075344c1938bd8c39d7d0c3149b76e60a9b83047cda96970df656f1b6dc4c", func := "loop.example/g03009/laws.FnExactMayMeet", spec := "fnExactMayMeet", unfollowed := true, recurses := true, apart := false, narrowed := true }
def FnExactMayMeetUptoSaid : Prop := fnExactMayMeetUptoRow.holds Try.pinned (OpenSpec.upto fnExactMayMeetSpec)

/-- 'laws.FnExactSideGap', WHERE WHAT IT READS IS OF BULK AT MOST 1048576: true; the input reads as it did. -/
def fnExactSideGapUptoRow : OpenClaim := { program := "ytiimiogpiflkdaa", sum := "7ed075344c1938bd8c39d7d0c3149b76e60a9b83047cda96970df656f1b6dc4c", func := "loop.example/g03009/laws.FnExactSideGap", spec := "fnExactSideGap", unfollowed := true, recurses := true, apart := false, narrowed := true }
def FnExactSideGapUptoSaid : Prop := fnExactSideGapUptoRow.holds Try.pinned (OpenSpec.upto fnExactSideGapSpec)

/-- 'laws.FnExactStanding', WHERE WHAT IT READS IS OF BULK AT MOST 1048576: true; the input reads as it did. -/
def fnExactStandingUptoRow : OpenClaim := { program := "ytiimiogpiflkdaa", sum := "7ed075344c1938bd8c39d7d0c3149b76e60a9b83047cda96970df656f1b6dc4c", func := "loop.example/g03009/laws.FnExactStanding", spec := "fnExactStanding", unfollowed := true, recurses := true, apart := false, narrowed := true }
def FnExactStandingUptoSaid : Prop := fnExactStandingUptoRow.holds Try.pinned (OpenSpec.upto fnExactStandingSpec)

/-- 'laws.FnExactSideFor', WHERE WHAT IT READS IS OF BULK AT MOST 1048576: true; the input reads as it did. -/
def fnExactSideForUptoRow : OpenClaim := { program := "ytiimiogpiflkdaa", sum := "7ed075344c1938bd8c39d7d0c3149b76e60a9b83047cda96970df656f1b6dc4c", func := "loop.example/g03009/laws.FnExactSideFor", spec := "fnExactSideFor", unfollowed := true, recurses := true, apart := false, narrowed := true }
def FnExactSideForUptoSaid : Prop := fnExactSideForUptoRow.holds Try.pinned (OpenSpec.upto fnExactSideForSpec)

/-- 'laws.FnExactAddResult', WHERE WHAT IT READS IS OF BULK AT MOST 1048576: true; the input reads as it did. -/
def fnExactAddResultUptoRow : OpenClaim := { program := "ytiimiogpiflkdaa", sum := "7ed075344c1938bd8c39d7d0c3149b76e60a9b83047cda96970df656f1b6dc4c", func := "loop.example/g03009/laws.FnExactAddResult", spec := "fnExactAddResult", unfollowed := true, recurses := true, apart := false, narrowed := true }
def FnExactAddResultUptoSaid : Prop := fnExactAddResultUptoRow.holds Try.pinned (OpenSpec.upto fnExactAddResultSpec)

/-- 'laws.FnExactIsRound', WHERE WHAT IT READS IS OF BULK AT MOST 1048576: true; the input reads as it did. -/
def fnExactIsRoundUptoRow : OpenClaim := { program := "ytiimiogpiflkdaa", sum := "7ed075344c1938bd8c39d7d0c3149b76e60a9b83047cda96970df656f1b6dc4c", func := "loop.example/g03009/laws.FnExactIsRound", spec := "fnExactIsRound", unfollowed := true, recurses := true, apart := false, narrowed := true }
def FnExactIsRoundUptoSaid : Prop := fnExactIsRoundUptoRow.holds Try.pinned (OpenSpec.upto fnExactIsRoundSpec)

/-- 'laws.FnExactPairRound', WHERE WHAT IT READS IS OF BULK AT MOST 1048576: true; the input reads as it did. -/
def fnExactPairRoundUptoRow : OpenClaim := { program := "ytiimiogpiflkdaa", sum := "7ed075344c1938bd8c39d7d0c3149b76e60a9b83047cda96970df656f1b6dc4c", func := "loop.example/g03009/laws.FnExactPairRound", spec := "fnExactPairRound", unfollowed := true, recurses := true, apart := false, narrowed := true }
def FnExactPairRoundUptoSaid : Prop := fnExactPairRoundUptoRow.holds Try.pinned (OpenSpec.upto fnExactPairRoundSpec)

/-- 'laws.FnTeams', WHERE WHAT IT READS IS OF BULK AT MOST 1048576: true; the input reads as it did. -/
def fnTeamsUptoRow : OpenClaim := { program := "ytiimiogpiflkdaa", sum := "7ed075344c1938bd8c39d7d0c3149b76e60a9b83047cda96970df656f1b6dc4c", func := "loop.example/g03009/laws.FnTeams", spec := "fnTeams", unfollowed := true, recurses := true, apart := false, narrowed := true }
def FnTeamsUptoSaid : Prop := fnTeamsUptoRow.holds Try.pinned (OpenSpec.upto fnTeamsSpec)

end Rows
end Go.Proofs.Ytiimiogpiflkdaa
