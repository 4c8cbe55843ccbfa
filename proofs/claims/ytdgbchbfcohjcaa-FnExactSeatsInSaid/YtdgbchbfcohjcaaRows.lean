/-
  No cell of these rows narrows 'for every input' (looked for: loops, veiled, ifaces, maps, wideKeys, modest, calm, conditions, laid).
  DERIVED. THE GIVEN ROWS OF THIS SEAT. 12 by the template 'for every input the law returns true; each argument reads behind the call as it read before'; 0 by the template 'total and deterministic' (their statements: YtdgbchbfcohjcaaTotals.lean).
  GIVEN WITH THE SEED: the statements are not yours to turn. If you find one false, say at which input.
  Laid BY PROGRAM, IN A SANDBOX (cutbox-rows.mjs): the forced cells as the released guide's own fill.sh prints them over the translation 7bed48f14f11358e… (all of the seat's roots in one cut). By AI agents, Wed Nov 11 2026. No macro, syntax, notation, axiom, sorry.
-/
import Derived.Test.YtdgbchbfcohjcaaChecked
import GoSem.Claim
import GoSem.ClaimJoined
import GoSem.ClaimMapViews
import Derived.JoinedTies
import Derived.KernelRfl
namespace Go.Proofs.Ytdgbchbfcohjcaa
/- THE CELL 'sum', in the pinned program and in every row, IS THE sha256 OF THE DUMP (.gsa) THAT YtdgbchbfcohjcaaProg.lean LOADS. Nothing in Lean hashes anything: it is a label: what it is worth is what the hold of that sum in a sandbox is worth. -/
noncomputable def Try.pinned : Pinned := { name := "ytdgbchbfcohjcaa", sum := "7bed48f14f11358eab7577acad50465625d227d81e77f309133a2893aa907299", checked := Try.checked }
namespace Rows
def none {H : Type} : Left H := { results := [], args := [] }

/-- 'laws.FnExactIsBallot': WHATEVER THE INPUT: true; the input reads as it did. -/
def fnExactIsBallotSpec : ChangeSpec := { name := "fnExactIsBallot", fn := fun _ => fun
  | [d] => { results := [.lit (.bool true)], args := [d] }
  | _ => none }
def fnExactIsBallotRow : OpenClaim := { program := "ytdgbchbfcohjcaa", sum := "7bed48f14f11358eab7577acad50465625d227d81e77f309133a2893aa907299", func := "loop.example/g03009/laws.FnExactIsBallot", spec := "fnExactIsBallot", apart := false }
def FnExactIsBallotSaid : Prop := fnExactIsBallotRow.holds Try.pinned (OpenSpec.ofChange fnExactIsBallotSpec)

/-- ITS FALSE NEIGHBOUR: 'it returns false'. Refute it at one input. -/
def fnExactIsBallotWrong : ChangeSpec := { name := "fnExactIsBallot", fn := fun _ => fun
  | [d] => { results := [.lit (.bool false)], args := [d] }
  | _ => none }
def FnExactIsBallotWrongFalsely : Prop := fnExactIsBallotRow.holds Try.pinned (OpenSpec.ofChange fnExactIsBallotWrong)

/-- 'laws.FnExactRoundsOf': WHATEVER THE INPUT: true; the input reads as it did. -/
def fnExactRoundsOfSpec : ChangeSpec := { name := "fnExactRoundsOf", fn := fun _ => fun
  | [d] => { results := [.lit (.bool true)], args := [d] }
  | _ => none }
def fnExactRoundsOfRow : OpenClaim := { program := "ytdgbchbfcohjcaa", sum := "7bed48f14f11358eab7577acad50465625d227d81e77f309133a2893aa907299", func := "loop.example/g03009/laws.FnExactRoundsOf", spec := "fnExactRoundsOf", apart := false }
def FnExactRoundsOfSaid : Prop := fnExactRoundsOfRow.holds Try.pinned (OpenSpec.ofChange fnExactRoundsOfSpec)

/-- ITS FALSE NEIGHBOUR: 'it returns false'. Refute it at one input. -/
def fnExactRoundsOfWrong : ChangeSpec := { name := "fnExactRoundsOf", fn := fun _ => fun
  | [d] => { results := [.lit (.bool false)], args := [d] }
  | _ => none }
def FnExactRoundsOfWrongFalsely : Prop := fnExactRoundsOfRow.holds Try.pinned (OpenSpec.ofChange fnExactRoundsOfWrong)

/-- 'laws.FnExactMoved': WHATEVER THE INPUT: true; the input reads as it did. -/
def fnExactMovedSpec : ChangeSpec := { name := "fnExactMoved", fn := fun _ => fun
  | [d1, d2, d3] => { results := [.lit (.bool true)], args := [d1, d2, d3] }
  | _ => none }
def fnExactMovedRow : OpenClaim := { program := "ytdgbchbfcohjcaa", sum := "7bed48f14f11358eab7577acad50465625d227d81e77f309133a2893aa907299", func := "loop.example/g03009/laws.FnExactMoved", spec := "fnExactMoved", apart := false }
def FnExactMovedSaid : Prop := fnExactMovedRow.holds Try.pinned (OpenSpec.ofChange fnExactMovedSpec)

/-- ITS FALSE NEIGHBOUR: 'it returns false'. Refute it at one input. -/
def fnExactMovedWrong : ChangeSpec := { name := "fnExactMoved", fn := fun _ => fun
  | [d1, d2, d3] => { results := [.lit (.bool false)], args := [d1, d2, d3] }
  | _ => none }
def FnExactMovedWrongFalsely : Prop := fnExactMovedRow.holds Try.pinned (OpenSpec.ofChange fnExactMovedWrong)

/-- 'laws.FnExactUnmoved': WHATEVER THE INPUT: true; the input reads as it did. -/
def fnExactUnmovedSpec : ChangeSpec := { name := "fnExactUnmoved", fn := fun _ => fun
  | [d] => { results := [.lit (.bool true)], args := [d] }
  | _ => none }
def fnExactUnmovedRow : OpenClaim := { program := "ytdgbchbfcohjcaa", sum := "7bed48f14f11358eab7577acad50465625d227d81e77f309133a2893aa907299", func := "loop.example/g03009/laws.FnExactUnmoved", spec := "fnExactUnmoved", apart := false }
def FnExactUnmovedSaid : Prop := fnExactUnmovedRow.holds Try.pinned (OpenSpec.ofChange fnExactUnmovedSpec)

/-- ITS FALSE NEIGHBOUR: 'it returns false'. Refute it at one input. -/
def fnExactUnmovedWrong : ChangeSpec := { name := "fnExactUnmoved", fn := fun _ => fun
  | [d] => { results := [.lit (.bool false)], args := [d] }
  | _ => none }
def FnExactUnmovedWrongFalsely : Prop := fnExactUnmovedRow.holds Try.pinned (OpenSpec.ofChange fnExactUnmovedWrong)

/-- 'laws.FnExactAreHearers': WHATEVER THE INPUT: true; the input reads as it did. -/
def fnExactAreHearersSpec : ChangeSpec := { name := "fnExactAreHearers", fn := fun _ => fun
  | [d] => { results := [.lit (.bool true)], args := [d] }
  | _ => none }
def fnExactAreHearersRow : OpenClaim := { program := "ytdgbchbfcohjcaa", sum := "7bed48f14f11358eab7577acad50465625d227d81e77f309133a2893aa907299", func := "loop.example/g03009/laws.FnExactAreHearers", spec := "fnExactAreHearers", apart := false }
def FnExactAreHearersSaid : Prop := fnExactAreHearersRow.holds Try.pinned (OpenSpec.ofChange fnExactAreHearersSpec)

/-- ITS FALSE NEIGHBOUR: 'it returns false'. Refute it at one input. -/
def fnExactAreHearersWrong : ChangeSpec := { name := "fnExactAreHearers", fn := fun _ => fun
  | [d] => { results := [.lit (.bool false)], args := [d] }
  | _ => none }
def FnExactAreHearersWrongFalsely : Prop := fnExactAreHearersRow.holds Try.pinned (OpenSpec.ofChange fnExactAreHearersWrong)

/-- 'laws.FnExactAreRooms': WHATEVER THE INPUT: true; the input reads as it did. -/
def fnExactAreRoomsSpec : ChangeSpec := { name := "fnExactAreRooms", fn := fun _ => fun
  | [d] => { results := [.lit (.bool true)], args := [d] }
  | _ => none }
def fnExactAreRoomsRow : OpenClaim := { program := "ytdgbchbfcohjcaa", sum := "7bed48f14f11358eab7577acad50465625d227d81e77f309133a2893aa907299", func := "loop.example/g03009/laws.FnExactAreRooms", spec := "fnExactAreRooms", apart := false }
def FnExactAreRoomsSaid : Prop := fnExactAreRoomsRow.holds Try.pinned (OpenSpec.ofChange fnExactAreRoomsSpec)

/-- ITS FALSE NEIGHBOUR: 'it returns false'. Refute it at one input. -/
def fnExactAreRoomsWrong : ChangeSpec := { name := "fnExactAreRooms", fn := fun _ => fun
  | [d] => { results := [.lit (.bool false)], args := [d] }
  | _ => none }
def FnExactAreRoomsWrongFalsely : Prop := fnExactAreRoomsRow.holds Try.pinned (OpenSpec.ofChange fnExactAreRoomsWrong)

/-- 'laws.FnExactIsRanking': WHATEVER THE INPUT: true; the input reads as it did. -/
def fnExactIsRankingSpec : ChangeSpec := { name := "fnExactIsRanking", fn := fun _ => fun
  | [d1, d2] => { results := [.lit (.bool true)], args := [d1, d2] }
  | _ => none }
def fnExactIsRankingRow : OpenClaim := { program := "ytdgbchbfcohjcaa", sum := "7bed48f14f11358eab7577acad50465625d227d81e77f309133a2893aa907299", func := "loop.example/g03009/laws.FnExactIsRanking", spec := "fnExactIsRanking", apart := false }
def FnExactIsRankingSaid : Prop := fnExactIsRankingRow.holds Try.pinned (OpenSpec.ofChange fnExactIsRankingSpec)

/-- ITS FALSE NEIGHBOUR: 'it returns false'. Refute it at one input. -/
def fnExactIsRankingWrong : ChangeSpec := { name := "fnExactIsRanking", fn := fun _ => fun
  | [d1, d2] => { results := [.lit (.bool false)], args := [d1, d2] }
  | _ => none }
def FnExactIsRankingWrongFalsely : Prop := fnExactIsRankingRow.holds Try.pinned (OpenSpec.ofChange fnExactIsRankingWrong)

/-- 'laws.FnExactIsFairOrder': WHATEVER THE INPUT: true; the input reads as it did. -/
def fnExactIsFairOrderSpec : ChangeSpec := { name := "fnExactIsFairOrder", fn := fun _ => fun
  | [d1, d2] => { results := [.lit (.bool true)], args := [d1, d2] }
  | _ => none }
def fnExactIsFairOrderRow : OpenClaim := { program := "ytdgbchbfcohjcaa", sum := "7bed48f14f11358eab7577acad50465625d227d81e77f309133a2893aa907299", func := "loop.example/g03009/laws.FnExactIsFairOrder", spec := "fnExactIsFairOrder", apart := false }
def FnExactIsFairOrderSaid : Prop := fnExactIsFairOrderRow.holds Try.pinned (OpenSpec.ofChange fnExactIsFairOrderSpec)

/-- ITS FALSE NEIGHBOUR: 'it returns false'. Refute it at one input. -/
def fnExactIsFairOrderWrong : ChangeSpec := { name := "fnExactIsFairOrder", fn := fun _ => fun
  | [d1, d2] => { results := [.lit (.bool false)], args := [d1, d2] }
  | _ => none }
def FnExactIsFairOrderWrongFalsely : Prop := fnExactIsFairOrderRow.holds Try.pinned (OpenSpec.ofChange fnExactIsFairOrderWrong)

/-- 'laws.FnExactSeedOrder': WHATEVER THE INPUT: true; the input reads as it did. -/
def fnExactSeedOrderSpec : ChangeSpec := { name := "fnExactSeedOrder", fn := fun _ => fun
  | [d] => { results := [.lit (.bool true)], args := [d] }
  | _ => none }
def fnExactSeedOrderRow : OpenClaim := { program := "ytdgbchbfcohjcaa", sum := "7bed48f14f11358eab7577acad50465625d227d81e77f309133a2893aa907299", func := "loop.example/g03009/laws.FnExactSeedOrder", spec := "fnExactSeedOrder", recurses := true, apart := false }
def FnExactSeedOrderSaid : Prop := fnExactSeedOrderRow.holds Try.pinned (OpenSpec.ofChange fnExactSeedOrderSpec)

/-- ITS FALSE NEIGHBOUR: 'it returns false'. Refute it at one input. -/
def fnExactSeedOrderWrong : ChangeSpec := { name := "fnExactSeedOrder", fn := fun _ => fun
  | [d] => { results := [.lit (.bool false)], args := [d] }
  | _ => none }
def FnExactSeedOrderWrongFalsely : Prop := fnExactSeedOrderRow.holds Try.pinned (OpenSpec.ofChange fnExactSeedOrderWrong)

/-- 'laws.FnExactAreBallots': WHATEVER THE INPUT: true; the input reads as it did. -/
def fnExactAreBallotsSpec : ChangeSpec := { name := "fnExactAreBallots", fn := fun _ => fun
  | [d] => { results := [.lit (.bool true)], args := [d] }
  | _ => none }
def fnExactAreBallotsRow : OpenClaim := { program := "ytdgbchbfcohjcaa", sum := "7bed48f14f11358eab7577acad50465625d227d81e77f309133a2893aa907299", func := "loop.example/g03009/laws.FnExactAreBallots", spec := "fnExactAreBallots", apart := false }
def FnExactAreBallotsSaid : Prop := fnExactAreBallotsRow.holds Try.pinned (OpenSpec.ofChange fnExactAreBallotsSpec)

/-- ITS FALSE NEIGHBOUR: 'it returns false'. Refute it at one input. -/
def fnExactAreBallotsWrong : ChangeSpec := { name := "fnExactAreBallots", fn := fun _ => fun
  | [d] => { results := [.lit (.bool false)], args := [d] }
  | _ => none }
def FnExactAreBallotsWrongFalsely : Prop := fnExactAreBallotsRow.holds Try.pinned (OpenSpec.ofChange fnExactAreBallotsWrong)

/-- 'laws.FnExactGain': WHATEVER THE INPUT: true; the input reads as it did. -/
def fnExactGainSpec : ChangeSpec := { name := "fnExactGain", fn := fun _ => fun
  | [d1, d2] => { results := [.lit (.bool true)], args := [d1, d2] }
  | _ => none }
def fnExactGainRow : OpenClaim := { program := "ytdgbchbfcohjcaa", sum := "7bed48f14f11358eab7577acad50465625d227d81e77f309133a2893aa907299", func := "loop.example/g03009/laws.FnExactGain", spec := "fnExactGain", apart := false }
def FnExactGainSaid : Prop := fnExactGainRow.holds Try.pinned (OpenSpec.ofChange fnExactGainSpec)

/-- ITS FALSE NEIGHBOUR: 'it returns false'. Refute it at one input. -/
def fnExactGainWrong : ChangeSpec := { name := "fnExactGain", fn := fun _ => fun
  | [d1, d2] => { results := [.lit (.bool false)], args := [d1, d2] }
  | _ => none }
def FnExactGainWrongFalsely : Prop := fnExactGainRow.holds Try.pinned (OpenSpec.ofChange fnExactGainWrong)

/-- 'laws.FnExactSeatsIn': WHATEVER THE INPUT: true; the input reads as it did. -/
def fnExactSeatsInSpec : ChangeSpec := { name := "fnExactSeatsIn", fn := fun _ => fun
  | [d] => { results := [.lit (.bool true)], args := [d] }
  | _ => none }
def fnExactSeatsInRow : OpenClaim := { program := "ytdgbchbfcohjcaa", sum := "7bed48f14f11358eab7577acad50465625d227d81e77f309133a2893aa907299", func := "loop.example/g03009/laws.FnExactSeatsIn", spec := "fnExactSeatsIn", apart := false }
def FnExactSeatsInSaid : Prop := fnExactSeatsInRow.holds Try.pinned (OpenSpec.ofChange fnExactSeatsInSpec)

/-- ITS FALSE NEIGHBOUR: 'it returns false'. Refute it at one input. -/
def fnExactSeatsInWrong : ChangeSpec := { name := "fnExactSeatsIn", fn := fun _ => fun
  | [d] => { results := [.lit (.bool false)], args := [d] }
  | _ => none }
def FnExactSeatsInWrongFalsely : Prop := fnExactSeatsInRow.holds Try.pinned (OpenSpec.ofChange fnExactSeatsInWrong)

/- THE SECOND FORM. 'bulk': how many values and letters a reading holds, each counted each time it is reached (what is shared counts as often as it is met; a slice's spare places count too). A statement '..UptoSaid' is the law's where the arguments, and the package variables that the reading takes, are together of bulk at most 1048576: NARROWER than '..Said'. Prove '..Said' where nothing that the law and all that it calls make is longer than what came in: it says more and counts as full. Else prove '..UptoSaid'. A law counts once. -/
mutual
def uptoBulk {H : Type} : DataW H → Nat
  | .lit (.string bytes) => bytes.length + 1
  | .lit _ => 1
  | .nil => 1
  | .ptr d => uptoBulk d + 1
  | .slice elems spare => uptoBulkAll elems + uptoBulkAll spare + 1
  | .agg parts => uptoBulkAll parts + 1
  | .iface _ d => uptoBulk d + 1
  | .map entries => uptoBulkEntries entries + 1
  | .held _ => 1
def uptoBulkAll {H : Type} : List (DataW H) → Nat
  | [] => 0
  | d :: r => uptoBulk d + uptoBulkAll r
def uptoBulkEntries {H : Type} : List (Lit × DataW H) → Nat
  | [] => 0
  | x :: r => uptoBulkEntry x + uptoBulkEntries r
def uptoBulkEntry {H : Type} : Lit × DataW H → Nat
  | (.string bytes, d) => bytes.length + uptoBulk d + 1
  | (_, d) => uptoBulk d + 1
 end
def uptoSmall : (H : Type) → List (DataW H) → Bool := fun _ ds => decide (uptoBulkAll ds ≤ 1048576)
def OpenSpec.upto (s : _root_.Go.ChangeSpec) : _root_.Go.OpenSpec := { _root_.Go.OpenSpec.ofChange s with cond := some uptoSmall }

/-- 'laws.FnExactIsBallot', WHERE WHAT IT READS IS OF BULK AT MOST 1048576: true; the input reads as it did. -/
def fnExactIsBallotUptoRow : OpenClaim := { program := "ytdgbchbfcohjcaa", sum := "7bed48f14f11358eab7577acad50465625d227d81e77f309133a2893aa907299", func := "loop.example/g03009/laws.FnExactIsBallot", spec := "fnExactIsBallot", apart := false, narrowed := true }
def FnExactIsBallotUptoSaid : Prop := fnExactIsBallotUptoRow.holds Try.pinned (OpenSpec.upto fnExactIsBallotSpec)

/-- 'laws.FnExactRoundsOf', WHERE WHAT IT READS IS OF BULK AT MOST 1048576: true; the input reads as it did. -/
def fnExactRoundsOfUptoRow : OpenClaim := { program := "ytdgbchbfcohjcaa", sum := "7bed48f14f11358eab7577acad50465625d227d81e77f309133a2893aa907299", func := "loop.example/g03009/laws.FnExactRoundsOf", spec := "fnExactRoundsOf", apart := false, narrowed := true }
def FnExactRoundsOfUptoSaid : Prop := fnExactRoundsOfUptoRow.holds Try.pinned (OpenSpec.upto fnExactRoundsOfSpec)

/-- 'laws.FnExactMoved', WHERE WHAT IT READS IS OF BULK AT MOST 1048576: true; the input reads as it did. -/
def fnExactMovedUptoRow : OpenClaim := { program := "ytdgbchbfcohjcaa", sum := "7bed48f14f11358eab7577acad50465625d227d81e77f309133a2893aa907299", func := "loop.example/g03009/laws.FnExactMoved", spec := "fnExactMoved", apart := false, narrowed := true }
def FnExactMovedUptoSaid : Prop := fnExactMovedUptoRow.holds Try.pinned (OpenSpec.upto fnExactMovedSpec)

/-- 'laws.FnExactUnmoved', WHERE WHAT IT READS IS OF BULK AT MOST 1048576: true; the input reads as it did. -/
def fnExactUnmovedUptoRow : OpenClaim := { program := "ytdgbchbfcohjcaa", sum := "7bed48f14f11358eab7577acad50465625d227d81e77f309133a2893aa907299", func := "loop.example/g03009/laws.FnExactUnmoved", spec := "fnExactUnmoved", apart := false, narrowed := true }
def FnExactUnmovedUptoSaid : Prop := fnExactUnmovedUptoRow.holds Try.pinned (OpenSpec.upto fnExactUnmovedSpec)

/-- 'laws.FnExactAreHearers', WHERE WHAT IT READS IS OF BULK AT MOST 1048576: true; the input reads as it did. -/
def fnExactAreHearersUptoRow : OpenClaim := { program := "ytdgbchbfcohjcaa", sum := "7bed48f14f11358eab7577acad50465625d227d81e77f309133a2893aa907299", func := "loop.example/g03009/laws.FnExactAreHearers", spec := "fnExactAreHearers", apart := false, narrowed := true }
def FnExactAreHearersUptoSaid : Prop := fnExactAreHearersUptoRow.holds Try.pinned (OpenSpec.upto fnExactAreHearersSpec)

/-- 'laws.FnExactAreRooms', WHERE WHAT IT READS IS OF BULK AT MOST 1048576: true; the input reads as it did. -/
def fnExactAreRoomsUptoRow : OpenClaim := { program := "ytdgbchbfcohjcaa", sum := "7bed48f14f11358eab7577acad50465625d227d81e77f309133a2893aa907299", func := "loop.example/g03009/laws.FnExactAreRooms", spec := "fnExactAreRooms", apart := false, narrowed := true }
def FnExactAreRoomsUptoSaid : Prop := fnExactAreRoomsUptoRow.holds Try.pinned (OpenSpec.upto fnExactAreRoomsSpec)

/-- 'laws.FnExactIsRanking', WHERE WHAT IT READS IS OF BULK AT MOST 1048576: true; the input reads as it did. -/
def fnExactIsRankingUptoRow : OpenClaim := { program := "ytdgbchbfcohjcaa", sum := "7bed48f14f11358eab7577acad50465625d227d81e77f309133a2893aa907299", func := "loop.example/g03009/laws.FnExactIsRanking", spec := "fnExactIsRanking", apart := false, narrowed := true }
def FnExactIsRankingUptoSaid : Prop := fnExactIsRankingUptoRow.holds Try.pinned (OpenSpec.upto fnExactIsRankingSpec)

/-- 'laws.FnExactIsFairOrder', WHERE WHAT IT READS IS OF BULK AT MOST 1048576: true; the input reads as it did. -/
def fnExactIsFairOrderUptoRow : OpenClaim := { program := "ytdgbchbfcohjcaa", sum := "7bed48f14f11358eab7577acad50465625d227d81e77f309133a2893aa907299", func := "loop.example/g03009/laws.FnExactIsFairOrder", spec := "fnExactIsFairOrder", apart := false, narrowed := true }
def FnExactIsFairOrderUptoSaid : Prop := fnExactIsFairOrderUptoRow.holds Try.pinned (OpenSpec.upto fnExactIsFairOrderSpec)

/-- 'laws.FnExactSeedOrder', WHERE WHAT IT READS IS OF BULK AT MOST 1048576: true; the input reads as it did. -/
def fnExactSeedOrderUptoRow : OpenClaim := { program := "ytdgbchbfcohjcaa", sum := "7bed48f14f11358eab7577acad50465625d227d81e77f309133a2893aa907299", func := "loop.example/g03009/laws.FnExactSeedOrder", spec := "fnExactSeedOrder", recurses := true, apart := false, narrowed := true }
def FnExactSeedOrderUptoSaid : Prop := fnExactSeedOrderUptoRow.holds Try.pinned (OpenSpec.upto fnExactSeedOrderSpec)

/-- 'laws.FnExactAreBallots', WHERE WHAT IT READS IS OF BULK AT MOST 1048576: true; the input reads as it did. -/
def fnExactAreBallotsUptoRow : OpenClaim := { program := "ytdgbchbfcohjcaa", sum := "7bed48f14f11358eab7577acad50465625d227d81e77f309133a2893aa907299", func := "loop.example/g03009/laws.FnExactAreBallots", spec := "fnExactAreBallots", apart := false, narrowed := true }
def FnExactAreBallotsUptoSaid : Prop := fnExactAreBallotsUptoRow.holds Try.pinned (OpenSpec.upto fnExactAreBallotsSpec)

/-- 'laws.FnExactGain', WHERE WHAT IT READS IS OF BULK AT MOST 1048576: true; the input reads as it did. -/
def fnExactGainUptoRow : OpenClaim := { program := "ytdgbchbfcohjcaa", sum := "7bed48f14f11358eab7577acad50465625d227d81e77f309133a2893aa907299", func := "loop.example/g03009/laws.FnExactGain", spec := "fnExactGain", apart := false, narrowed := true }
def FnExactGainUptoSaid : Prop := fnExactGainUptoRow.holds Try.pinned (OpenSpec.upto fnExactGainSpec)

/-- 'laws.FnExactSeatsIn', WHERE WHAT IT READS IS OF BULK AT MOST 1048576: true; the input reads as it did. -/
def fnExactSeatsInUptoRow : OpenClaim := { program := "ytdgbchbfcohjcaa", sum := "7bed48f14f11358eab7577acad50465625d227d81e77f309133a2893aa907299", func := "loop.example/g03009/laws.FnExactSeatsIn", spec := "fnExactSeatsIn", apart := false, narrowed := true }
def FnExactSeatsInUptoSaid : Prop := fnExactSeatsInUptoRow.holds Try.pinned (OpenSpec.upto fnExactSeatsInSpec)

end Rows
end Go.Proofs.Ytdgbchbfcohjcaa
