/-
  No cell of these rows narrows 'for every input' (looked for: loops, veiled, ifaces, maps, wideKeys, modest, calm, conditions, laid).
  DERIVED. THE GIVEN ROWS OF THIS SEAT. 12 by the template 'for every input the law returns true; each argument reads behind the call as it read before'; 0 by the template 'total and deterministic' (their statements: YtcffappipgapbaaTotals.lean).
  GIVEN WITH THE SEED: the statements are not yours to turn. If you find one false, say at which input.
  Laid BY PROGRAM, IN A SANDBOX (cutbox-rows.mjs): the forced cells as the released guide's own fill.sh prints them over the translation b83b3f4961483a25… (all of the seat's roots in one cut). By AI agents, Wed Nov 11 2026. No macro, syntax, notation, axiom, sorry.
-/
import Derived.Test.YtcffappipgapbaaChecked
import GoSem.Claim
import GoSem.ClaimJoined
import GoSem.ClaimMapViews
import Derived.JoinedTies
import Derived.KernelRfl
namespace Go.Proofs.Ytcffappipgapbaa
/- THE CELL 'sum', in the pinned program and in every row, IS THE sha256 OF THE DUMP (.gsa) THAT YtcffappipgapbaaProg.lean LOADS. Nothing in Lean hashes anything: it is a label: what it is worth is what the hold of that sum in a sandbox is worth. -/
noncomputable def Try.pinned : Pinned := { name := "ytcffappipgapbaa", sum := "b83b3f4961483a25a2b1e9811024d63ab6720ddce7940acffb9640d9a257203f", checked := Try.checked }
namespace Rows
def none {H : Type} : Left H := { results := [], args := [] }

/-- 'laws.FnExactPrefer': WHATEVER THE INPUT: true; the input reads as it did. -/
def fnExactPreferSpec : ChangeSpec := { name := "fnExactPrefer", fn := fun _ => fun
  | [d1, d2, d3] => { results := [.lit (.bool true)], args := [d1, d2, d3] }
  | _ => none }
def fnExactPreferRow : OpenClaim := { program := "ytcffappipgapbaa", sum := "b83b3f4961483a25a2b1e9811024d63ab6720ddce7940acffb9640d9a257203f", func := "loop.example/g03009/laws.FnExactPrefer", spec := "fnExactPrefer", apart := false }
def FnExactPreferSaid : Prop := fnExactPreferRow.holds Try.pinned (OpenSpec.ofChange fnExactPreferSpec)

/-- ITS FALSE NEIGHBOUR: 'it returns false'. Refute it at one input. -/
def fnExactPreferWrong : ChangeSpec := { name := "fnExactPrefer", fn := fun _ => fun
  | [d1, d2, d3] => { results := [.lit (.bool false)], args := [d1, d2, d3] }
  | _ => none }
def FnExactPreferWrongFalsely : Prop := fnExactPreferRow.holds Try.pinned (OpenSpec.ofChange fnExactPreferWrong)

/-- 'laws.FnExactMeetIn': WHATEVER THE INPUT: true; the input reads as it did. -/
def fnExactMeetInSpec : ChangeSpec := { name := "fnExactMeetIn", fn := fun _ => fun
  | [d1, d2, d3] => { results := [.lit (.bool true)], args := [d1, d2, d3] }
  | _ => none }
def fnExactMeetInRow : OpenClaim := { program := "ytcffappipgapbaa", sum := "b83b3f4961483a25a2b1e9811024d63ab6720ddce7940acffb9640d9a257203f", func := "loop.example/g03009/laws.FnExactMeetIn", spec := "fnExactMeetIn", recurses := true, apart := false }
def FnExactMeetInSaid : Prop := fnExactMeetInRow.holds Try.pinned (OpenSpec.ofChange fnExactMeetInSpec)

/-- ITS FALSE NEIGHBOUR: 'it returns false'. Refute it at one input. -/
def fnExactMeetInWrong : ChangeSpec := { name := "fnExactMeetIn", fn := fun _ => fun
  | [d1, d2, d3] => { results := [.lit (.bool false)], args := [d1, d2, d3] }
  | _ => none }
def FnExactMeetInWrongFalsely : Prop := fnExactMeetInRow.holds Try.pinned (OpenSpec.ofChange fnExactMeetInWrong)

/-- 'laws.FnExactSumFor': WHATEVER THE INPUT: true; the input reads as it did. -/
def fnExactSumForSpec : ChangeSpec := { name := "fnExactSumFor", fn := fun _ => fun
  | [d1, d2] => { results := [.lit (.bool true)], args := [d1, d2] }
  | _ => none }
def fnExactSumForRow : OpenClaim := { program := "ytcffappipgapbaa", sum := "b83b3f4961483a25a2b1e9811024d63ab6720ddce7940acffb9640d9a257203f", func := "loop.example/g03009/laws.FnExactSumFor", spec := "fnExactSumFor", apart := false }
def FnExactSumForSaid : Prop := fnExactSumForRow.holds Try.pinned (OpenSpec.ofChange fnExactSumForSpec)

/-- ITS FALSE NEIGHBOUR: 'it returns false'. Refute it at one input. -/
def fnExactSumForWrong : ChangeSpec := { name := "fnExactSumFor", fn := fun _ => fun
  | [d1, d2] => { results := [.lit (.bool false)], args := [d1, d2] }
  | _ => none }
def FnExactSumForWrongFalsely : Prop := fnExactSumForRow.holds Try.pinned (OpenSpec.ofChange fnExactSumForWrong)

/-- 'laws.FnExactRightOfReply': WHATEVER THE INPUT: true; the input reads as it did. -/
def fnExactRightOfReplySpec : ChangeSpec := { name := "fnExactRightOfReply", fn := fun _ => fun
  | [d1, d2] => { results := [.lit (.bool true)], args := [d1, d2] }
  | _ => none }
def fnExactRightOfReplyRow : OpenClaim := { program := "ytcffappipgapbaa", sum := "b83b3f4961483a25a2b1e9811024d63ab6720ddce7940acffb9640d9a257203f", func := "loop.example/g03009/laws.FnExactRightOfReply", spec := "fnExactRightOfReply", apart := false }
def FnExactRightOfReplySaid : Prop := fnExactRightOfReplyRow.holds Try.pinned (OpenSpec.ofChange fnExactRightOfReplySpec)

/-- ITS FALSE NEIGHBOUR: 'it returns false'. Refute it at one input. -/
def fnExactRightOfReplyWrong : ChangeSpec := { name := "fnExactRightOfReply", fn := fun _ => fun
  | [d1, d2] => { results := [.lit (.bool false)], args := [d1, d2] }
  | _ => none }
def FnExactRightOfReplyWrongFalsely : Prop := fnExactRightOfReplyRow.holds Try.pinned (OpenSpec.ofChange fnExactRightOfReplyWrong)

/-- 'laws.FnExactVotesFor': WHATEVER THE INPUT: true; the input reads as it did. -/
def fnExactVotesForSpec : ChangeSpec := { name := "fnExactVotesFor", fn := fun _ => fun
  | [d1, d2] => { results := [.lit (.bool true)], args := [d1, d2] }
  | _ => none }
def fnExactVotesForRow : OpenClaim := { program := "ytcffappipgapbaa", sum := "b83b3f4961483a25a2b1e9811024d63ab6720ddce7940acffb9640d9a257203f", func := "loop.example/g03009/laws.FnExactVotesFor", spec := "fnExactVotesFor", apart := false }
def FnExactVotesForSaid : Prop := fnExactVotesForRow.holds Try.pinned (OpenSpec.ofChange fnExactVotesForSpec)

/-- ITS FALSE NEIGHBOUR: 'it returns false'. Refute it at one input. -/
def fnExactVotesForWrong : ChangeSpec := { name := "fnExactVotesFor", fn := fun _ => fun
  | [d1, d2] => { results := [.lit (.bool false)], args := [d1, d2] }
  | _ => none }
def FnExactVotesForWrongFalsely : Prop := fnExactVotesForRow.holds Try.pinned (OpenSpec.ofChange fnExactVotesForWrong)

/-- 'laws.FnExactIsSplit': WHATEVER THE INPUT: true; the input reads as it did. -/
def fnExactIsSplitSpec : ChangeSpec := { name := "fnExactIsSplit", fn := fun _ => fun
  | [d] => { results := [.lit (.bool true)], args := [d] }
  | _ => none }
def fnExactIsSplitRow : OpenClaim := { program := "ytcffappipgapbaa", sum := "b83b3f4961483a25a2b1e9811024d63ab6720ddce7940acffb9640d9a257203f", func := "loop.example/g03009/laws.FnExactIsSplit", spec := "fnExactIsSplit", apart := false }
def FnExactIsSplitSaid : Prop := fnExactIsSplitRow.holds Try.pinned (OpenSpec.ofChange fnExactIsSplitSpec)

/-- ITS FALSE NEIGHBOUR: 'it returns false'. Refute it at one input. -/
def fnExactIsSplitWrong : ChangeSpec := { name := "fnExactIsSplit", fn := fun _ => fun
  | [d] => { results := [.lit (.bool false)], args := [d] }
  | _ => none }
def FnExactIsSplitWrongFalsely : Prop := fnExactIsSplitRow.holds Try.pinned (OpenSpec.ofChange fnExactIsSplitWrong)

/-- 'laws.FnExactAreRankings': WHATEVER THE INPUT: true; the input reads as it did. -/
def fnExactAreRankingsSpec : ChangeSpec := { name := "fnExactAreRankings", fn := fun _ => fun
  | [d1, d2] => { results := [.lit (.bool true)], args := [d1, d2] }
  | _ => none }
def fnExactAreRankingsRow : OpenClaim := { program := "ytcffappipgapbaa", sum := "b83b3f4961483a25a2b1e9811024d63ab6720ddce7940acffb9640d9a257203f", func := "loop.example/g03009/laws.FnExactAreRankings", spec := "fnExactAreRankings", apart := false }
def FnExactAreRankingsSaid : Prop := fnExactAreRankingsRow.holds Try.pinned (OpenSpec.ofChange fnExactAreRankingsSpec)

/-- ITS FALSE NEIGHBOUR: 'it returns false'. Refute it at one input. -/
def fnExactAreRankingsWrong : ChangeSpec := { name := "fnExactAreRankings", fn := fun _ => fun
  | [d1, d2] => { results := [.lit (.bool false)], args := [d1, d2] }
  | _ => none }
def FnExactAreRankingsWrongFalsely : Prop := fnExactAreRankingsRow.holds Try.pinned (OpenSpec.ofChange fnExactAreRankingsWrong)

/-- 'laws.FnExactHallWinner': WHATEVER THE INPUT: true; the input reads as it did. -/
def fnExactHallWinnerSpec : ChangeSpec := { name := "fnExactHallWinner", fn := fun _ => fun
  | [d] => { results := [.lit (.bool true)], args := [d] }
  | _ => none }
def fnExactHallWinnerRow : OpenClaim := { program := "ytcffappipgapbaa", sum := "b83b3f4961483a25a2b1e9811024d63ab6720ddce7940acffb9640d9a257203f", func := "loop.example/g03009/laws.FnExactHallWinner", spec := "fnExactHallWinner", apart := false }
def FnExactHallWinnerSaid : Prop := fnExactHallWinnerRow.holds Try.pinned (OpenSpec.ofChange fnExactHallWinnerSpec)

/-- ITS FALSE NEIGHBOUR: 'it returns false'. Refute it at one input. -/
def fnExactHallWinnerWrong : ChangeSpec := { name := "fnExactHallWinner", fn := fun _ => fun
  | [d] => { results := [.lit (.bool false)], args := [d] }
  | _ => none }
def FnExactHallWinnerWrongFalsely : Prop := fnExactHallWinnerRow.holds Try.pinned (OpenSpec.ofChange fnExactHallWinnerWrong)

/-- 'laws.FnExactDecision': WHATEVER THE INPUT: true; the input reads as it did. -/
def fnExactDecisionSpec : ChangeSpec := { name := "fnExactDecision", fn := fun _ => fun
  | [d] => { results := [.lit (.bool true)], args := [d] }
  | _ => none }
def fnExactDecisionRow : OpenClaim := { program := "ytcffappipgapbaa", sum := "b83b3f4961483a25a2b1e9811024d63ab6720ddce7940acffb9640d9a257203f", func := "loop.example/g03009/laws.FnExactDecision", spec := "fnExactDecision", apart := false }
def FnExactDecisionSaid : Prop := fnExactDecisionRow.holds Try.pinned (OpenSpec.ofChange fnExactDecisionSpec)

/-- ITS FALSE NEIGHBOUR: 'it returns false'. Refute it at one input. -/
def fnExactDecisionWrong : ChangeSpec := { name := "fnExactDecision", fn := fun _ => fun
  | [d] => { results := [.lit (.bool false)], args := [d] }
  | _ => none }
def FnExactDecisionWrongFalsely : Prop := fnExactDecisionRow.holds Try.pinned (OpenSpec.ofChange fnExactDecisionWrong)

/-- 'laws.FnExactPlacePoints': WHATEVER THE INPUT: true; the input reads as it did. -/
def fnExactPlacePointsSpec : ChangeSpec := { name := "fnExactPlacePoints", fn := fun _ => fun
  | [d1, d2] => { results := [.lit (.bool true)], args := [d1, d2] }
  | _ => none }
def fnExactPlacePointsRow : OpenClaim := { program := "ytcffappipgapbaa", sum := "b83b3f4961483a25a2b1e9811024d63ab6720ddce7940acffb9640d9a257203f", func := "loop.example/g03009/laws.FnExactPlacePoints", spec := "fnExactPlacePoints", apart := false }
def FnExactPlacePointsSaid : Prop := fnExactPlacePointsRow.holds Try.pinned (OpenSpec.ofChange fnExactPlacePointsSpec)

/-- ITS FALSE NEIGHBOUR: 'it returns false'. Refute it at one input. -/
def fnExactPlacePointsWrong : ChangeSpec := { name := "fnExactPlacePoints", fn := fun _ => fun
  | [d1, d2] => { results := [.lit (.bool false)], args := [d1, d2] }
  | _ => none }
def FnExactPlacePointsWrongFalsely : Prop := fnExactPlacePointsRow.holds Try.pinned (OpenSpec.ofChange fnExactPlacePointsWrong)

/-- 'laws.FnExactPairWinner': WHATEVER THE INPUT: true; the input reads as it did. -/
def fnExactPairWinnerSpec : ChangeSpec := { name := "fnExactPairWinner", fn := fun _ => fun
  | [d1, d2] => { results := [.lit (.bool true)], args := [d1, d2] }
  | _ => none }
def fnExactPairWinnerRow : OpenClaim := { program := "ytcffappipgapbaa", sum := "b83b3f4961483a25a2b1e9811024d63ab6720ddce7940acffb9640d9a257203f", func := "loop.example/g03009/laws.FnExactPairWinner", spec := "fnExactPairWinner", apart := false }
def FnExactPairWinnerSaid : Prop := fnExactPairWinnerRow.holds Try.pinned (OpenSpec.ofChange fnExactPairWinnerSpec)

/-- ITS FALSE NEIGHBOUR: 'it returns false'. Refute it at one input. -/
def fnExactPairWinnerWrong : ChangeSpec := { name := "fnExactPairWinner", fn := fun _ => fun
  | [d1, d2] => { results := [.lit (.bool false)], args := [d1, d2] }
  | _ => none }
def FnExactPairWinnerWrongFalsely : Prop := fnExactPairWinnerRow.holds Try.pinned (OpenSpec.ofChange fnExactPairWinnerWrong)

/-- 'laws.FnHalls': WHATEVER THE INPUT: true; the input reads as it did. -/
def fnHallsSpec : ChangeSpec := { name := "fnHalls", fn := fun _ => fun
  | [d] => { results := [.lit (.bool true)], args := [d] }
  | _ => none }
def fnHallsRow : OpenClaim := { program := "ytcffappipgapbaa", sum := "b83b3f4961483a25a2b1e9811024d63ab6720ddce7940acffb9640d9a257203f", func := "loop.example/g03009/laws.FnHalls", spec := "fnHalls", apart := false }
def FnHallsSaid : Prop := fnHallsRow.holds Try.pinned (OpenSpec.ofChange fnHallsSpec)

/-- ITS FALSE NEIGHBOUR: 'it returns false'. Refute it at one input. -/
def fnHallsWrong : ChangeSpec := { name := "fnHalls", fn := fun _ => fun
  | [d] => { results := [.lit (.bool false)], args := [d] }
  | _ => none }
def FnHallsWrongFalsely : Prop := fnHallsRow.holds Try.pinned (OpenSpec.ofChange fnHallsWrong)

/- THE SECOND FORM. 'bulk': how many values and letters a reading holds, each counted each time it is reached (what is shared counts as often as it is met; a slice's spare places count too). A statement '..UptoSaid' is the law's where the arguments, and the package variables that the reading takes, are together of bulk at most 1048576: NARROWER than '..Said'. Prove '..Said' where nothing that the law and all that it calls make is longer than what came in: it says more and counts as full. Else prove '..UptoSaid'. A law counts once. -/
mutual
def uptoBulk {H : Type} : DataW H → Nat
  | .lit (.string bytes) => bytes.length + 1
  | .lit _ => 1
  | .nil => 1
  | .ptr d => uptoBulk d + 1
  | .slice elems spare => uptoBulkAll elems + uptoBulkAll spare + 1
  | .agg parts => uptoBulkAll parts + 1
  | .iface _ d => uptoBulk d + 1
  | .map entries => uptoBulkEntries entries + 1
  | .held _ => 1
def uptoBulkAll {H : Type} : List (DataW H) → Nat
  | [] => 0
  | d :: r => uptoBulk d + uptoBulkAll r
def uptoBulkEntries {H : Type} : List (Lit × DataW H) → Nat
  | [] => 0
  | x :: r => uptoBulkEntry x + uptoBulkEntries r
def uptoBulkEntry {H : Type} : Lit × DataW H → Nat
  | (.string bytes, d) => bytes.length + uptoBulk d + 1
  | (_, d) => uptoBulk d + 1
 end
def uptoSmall : (H : Type) → List (DataW H) → Bool := fun _ ds => decide (uptoBulkAll ds ≤ 1048576)
def OpenSpec.upto (s : _root_.Go.ChangeSpec) : _root_.Go.OpenSpec := { _root_.Go.OpenSpec.ofChange s with cond := some uptoSmall }

/-- 'laws.FnExactPrefer', WHERE WHAT IT READS IS OF BULK AT MOST 1048576: true; the input reads as it did. -/
def fnExactPreferUptoRow : OpenClaim := { program := "ytcffappipgapbaa", sum := "b83b3f4961483a25a2b1e9811024d63ab6720ddce7940acffb9640d9a257203f", func := "loop.example/g03009/laws.FnExactPrefer", spec := "fnExactPrefer", apart := false, narrowed := true }
def FnExactPreferUptoSaid : Prop := fnExactPreferUptoRow.holds Try.pinned (OpenSpec.upto fnExactPreferSpec)

/-- 'laws.FnExactMeetIn', WHERE WHAT IT READS IS OF BULK AT MOST 1048576: true; the input reads as it did. -/
def fnExactMeetInUptoRow : OpenClaim := { program := "ytcffappipgapbaa", sum := "b83b3f4961483a25a2b1e9811024d63ab6720ddce7940acffb9640d9a257203f", func := "loop.example/g03009/laws.FnExactMeetIn", spec := "fnExactMeetIn", recurses := true, apart := false, narrowed := true }
def FnExactMeetInUptoSaid : Prop := fnExactMeetInUptoRow.holds Try.pinned (OpenSpec.upto fnExactMeetInSpec)

/-- 'laws.FnExactSumFor', WHERE WHAT IT READS IS OF BULK AT MOST 1048576: true; the input reads as it did. -/
def fnExactSumForUptoRow : OpenClaim := { program := "ytcffappipgapbaa", sum := "b83b3f4961483a25a2b1e9811024d63ab6720ddce7940acffb9640d9a257203f", func := "loop.example/g03009/laws.FnExactSumFor", spec := "fnExactSumFor", apart := false, narrowed := true }
def FnExactSumForUptoSaid : Prop := fnExactSumForUptoRow.holds Try.pinned (OpenSpec.upto fnExactSumForSpec)

/-- 'laws.FnExactRightOfReply', WHERE WHAT IT READS IS OF BULK AT MOST 1048576: true; the input reads as it did. -/
def fnExactRightOfReplyUptoRow : OpenClaim := { program := "ytcffappipgapbaa", sum := "b83b3f4961483a25a2b1e9811024d63ab6720ddce7940acffb9640d9a257203f", func := "loop.example/g03009/laws.FnExactRightOfReply", spec := "fnExactRightOfReply", apart := false, narrowed := true }
def FnExactRightOfReplyUptoSaid : Prop := fnExactRightOfReplyUptoRow.holds Try.pinned (OpenSpec.upto fnExactRightOfReplySpec)

/-- 'laws.FnExactVotesFor', WHERE WHAT IT READS IS OF BULK AT MOST 1048576: true; the input reads as it did. -/
def fnExactVotesForUptoRow : OpenClaim := { program := "ytcffappipgapbaa", sum := "b83b3f4961483a25a2b1e9811024d63ab6720ddce7940acffb9640d9a257203f", func := "loop.example/g03009/laws.FnExactVotesFor", spec := "fnExactVotesFor", apart := false, narrowed := true }
def FnExactVotesForUptoSaid : Prop := fnExactVotesForUptoRow.holds Try.pinned (OpenSpec.upto fnExactVotesForSpec)

/-- 'laws.FnExactIsSplit', WHERE WHAT IT READS IS OF BULK AT MOST 1048576: true; the input reads as it did. -/
def fnExactIsSplitUptoRow : OpenClaim := { program := "ytcffappipgapbaa", sum := "b83b3f4961483a25a2b1e9811024d63ab6720ddce7940acffb9640d9a257203f", func := "loop.example/g03009/laws.FnExactIsSplit", spec := "fnExactIsSplit", apart := false, narrowed := true }
def FnExactIsSplitUptoSaid : Prop := fnExactIsSplitUptoRow.holds Try.pinned (OpenSpec.upto fnExactIsSplitSpec)

/-- 'laws.FnExactAreRankings', WHERE WHAT IT READS IS OF BULK AT MOST 1048576: true; the input reads as it did. -/
def fnExactAreRankingsUptoRow : OpenClaim := { program := "ytcffappipgapbaa", sum := "b83b3f4961483a25a2b1e9811024d63ab6720ddce7940acffb9640d9a257203f", func := "loop.example/g03009/laws.FnExactAreRankings", spec := "fnExactAreRankings", apart := false, narrowed := true }
def FnExactAreRankingsUptoSaid : Prop := fnExactAreRankingsUptoRow.holds Try.pinned (OpenSpec.upto fnExactAreRankingsSpec)

/-- 'laws.FnExactHallWinner', WHERE WHAT IT READS IS OF BULK AT MOST 1048576: true; the input reads as it did. -/
def fnExactHallWinnerUptoRow : OpenClaim := { program := "ytcffappipgapbaa", sum := "b83b3f4961483a25a2b1e9811024d63ab6720ddce7940acffb9640d9a257203f", func := "loop.example/g03009/laws.FnExactHallWinner", spec := "fnExactHallWinner", apart := false, narrowed := true }
def FnExactHallWinnerUptoSaid : Prop := fnExactHallWinnerUptoRow.holds Try.pinned (OpenSpec.upto fnExactHallWinnerSpec)

/-- 'laws.FnExactDecision', WHERE WHAT IT READS IS OF BULK AT MOST 1048576: true; the input reads as it did. -/
def fnExactDecisionUptoRow : OpenClaim := { program := "ytcffappipgapbaa", sum := "b83b3f4961483a25a2b1e9811024d63ab6720ddce7940acffb9640d9a257203f", func := "loop.example/g03009/laws.FnExactDecision", spec := "fnExactDecision", apart := false, narrowed := true }
def FnExactDecisionUptoSaid : Prop := fnExactDecisionUptoRow.holds Try.pinned (OpenSpec.upto fnExactDecisionSpec)

/-- 'laws.FnExactPlacePoints', WHERE WHAT IT READS IS OF BULK AT MOST 1048576: true; the input reads as it did. -/
def fnExactPlacePointsUptoRow : OpenClaim := { program := "ytcffappipgapbaa", sum := "b83b3f4961483a25a2b1e9811024d63ab6720ddce7940acffb9640d9a257203f", func := "loop.example/g03009/laws.FnExactPlacePoints", spec := "fnExactPlacePoints", apart := false, narrowed := true }
def FnExactPlacePointsUptoSaid : Prop := fnExactPlacePointsUptoRow.holds Try.pinned (OpenSpec.upto fnExactPlacePointsSpec)

/-- 'laws.FnExactPairWinner', WHERE WHAT IT READS IS OF BULK AT MOST 1048576: true; the input reads as it did. -/
def fnExactPairWinnerUptoRow : OpenClaim := { program := "ytcffappipgapbaa", sum := "b83b3f4961483a25a2b1e9811024d63ab6720ddce7940acffb9640d9a257203f", func := "loop.example/g03009/laws.FnExactPairWinner", spec := "fnExactPairWinner", apart := false, narrowed := true }
def FnExactPairWinnerUptoSaid : Prop := fnExactPairWinnerUptoRow.holds Try.pinned (OpenSpec.upto fnExactPairWinnerSpec)

/-- 'laws.FnHalls', WHERE WHAT IT READS IS OF BULK AT MOST 1048576: true; the input reads as it did. -/
def fnHallsUptoRow : OpenClaim := { program := "ytcffappipgapbaa", sum := "b83b3f4961483a25a2b1e9811024d63ab6720ddce7940acffb9640d9a257203f", func := "loop.example/g03009/laws.FnHalls", spec := "fnHalls", apart := false, narrowed := true }
def FnHallsUptoSaid : Prop := fnHallsUptoRow.holds Try.pinned (OpenSpec.upto fnHallsSpec)

end Rows
end Go.Proofs.Ytcffappipgapbaa
