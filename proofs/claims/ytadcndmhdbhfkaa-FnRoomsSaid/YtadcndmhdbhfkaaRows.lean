/-
  No cell of these rows narrows 'for every input' (looked for: loops, veiled, ifaces, maps, wideKeys, modest, calm, conditions, laid).
  DERIVED. THE GIVEN ROWS OF THIS SEAT. 9 by the template 'for every input the law returns true; each argument reads behind the call as it read before'; 0 by the template 'total and deterministic' (their statements: YtadcndmhdbhfkaaTotals.lean).
  GIVEN WITH THE SEED: the statements are not yours to turn. If you find one false, say at which input.
  Laid BY PROGRAM, IN A SANDBOX (cutbox-rows.mjs): the forced cells as the released guide's own fill.sh prints them over the translation 7fbe044e9cc48e7b… (all of the seat's roots in one cut). By AI agents, Wed Nov 11 2026. No macro, syntax, notation, axiom, sorry.
-/
import Derived.Test.YtadcndmhdbhfkaaChecked
import GoSem.Claim
import GoSem.ClaimJoined
import GoSem.ClaimMapViews
import Derived.JoinedTies
import Derived.KernelRfl
namespace Go.Proofs.Ytadcndmhdbhfkaa
/- THE CELL 'sum', in the pinned program and in every row, IS THE sha256 OF THE DUMP (.gsa) THAT YtadcndmhdbhfkaaProg.lean LOADS. Nothing in Lean hashes anything: it is a label: what it is worth is what the hold of that sum in a sandbox is worth. -/
noncomputable def Try.pinned : Pinned := { name := "ytadcndmhdbhfkaa", sum := "7fbe044e9cc48e7be1e9ad5de3ff7ebc9df567071bc79d2d563488ff415fe09d", checked := Try.checked }
namespace Rows
def none {H : Type} : Left H := { results := [], args := [] }

/-- 'laws.FnExactTurnedAway': WHATEVER THE INPUT: true; the input reads as it did. -/
def fnExactTurnedAwaySpec : ChangeSpec := { name := "fnExactTurnedAway", fn := fun _ => fun
  | [d1, d2, d3] => { results := [.lit (.bool true)], args := [d1, d2, d3] }
  | _ => none }
def fnExactTurnedAwayRow : OpenClaim := { program := "ytadcndmhdbhfkaa", sum := "7fbe044e9cc48e7be1e9ad5de3ff7ebc9df567071bc79d2d563488ff415fe09d", func := "loop.example/g03009/laws.FnExactTurnedAway", spec := "fnExactTurnedAway", unfollowed := true, recurses := true, apart := false }
def FnExactTurnedAwaySaid : Prop := fnExactTurnedAwayRow.holds Try.pinned (OpenSpec.ofChange fnExactTurnedAwaySpec)

/-- ITS FALSE NEIGHBOUR: 'it returns false'. Refute it at one input. -/
def fnExactTurnedAwayWrong : ChangeSpec := { name := "fnExactTurnedAway", fn := fun _ => fun
  | [d1, d2, d3] => { results := [.lit (.bool false)], args := [d1, d2, d3] }
  | _ => none }
def FnExactTurnedAwayWrongFalsely : Prop := fnExactTurnedAwayRow.holds Try.pinned (OpenSpec.ofChange fnExactTurnedAwayWrong)

/-- 'laws.FnExactLargestRoom': WHATEVER THE INPUT: true; the input reads as it did. -/
def fnExactLargestRoomSpec : ChangeSpec := { name := "fnExactLargestRoom", fn := fun _ => fun
  | [d] => { results := [.lit (.bool true)], args := [d] }
  | _ => none }
def fnExactLargestRoomRow : OpenClaim := { program := "ytadcndmhdbhfkaa", sum := "7fbe044e9cc48e7be1e9ad5de3ff7ebc9df567071bc79d2d563488ff415fe09d", func := "loop.example/g03009/laws.FnExactLargestRoom", spec := "fnExactLargestRoom", unfollowed := true, recurses := true, apart := false }
def FnExactLargestRoomSaid : Prop := fnExactLargestRoomRow.holds Try.pinned (OpenSpec.ofChange fnExactLargestRoomSpec)

/-- ITS FALSE NEIGHBOUR: 'it returns false'. Refute it at one input. -/
def fnExactLargestRoomWrong : ChangeSpec := { name := "fnExactLargestRoom", fn := fun _ => fun
  | [d] => { results := [.lit (.bool false)], args := [d] }
  | _ => none }
def FnExactLargestRoomWrongFalsely : Prop := fnExactLargestRoomRow.holds Try.pinned (OpenSpec.ofChange fnExactLargestRoomWrong)

/-- 'laws.FnExactAssignRooms': WHATEVER THE INPUT: true; the input reads as it did. -/
def fnExactAssignRoomsSpec : ChangeSpec := { name := "fnExactAssignRooms", fn := fun _ => fun
  | [d1, d2] => { results := [.lit (.bool true)], args := [d1, d2] }
  | _ => none }
def fnExactAssignRoomsRow : OpenClaim := { program := "ytadcndmhdbhfkaa", sum := "7fbe044e9cc48e7be1e9ad5de3ff7ebc9df567071bc79d2d563488ff415fe09d", func := "loop.example/g03009/laws.FnExactAssignRooms", spec := "fnExactAssignRooms", unfollowed := true, recurses := true, apart := false }
def FnExactAssignRoomsSaid : Prop := fnExactAssignRoomsRow.holds Try.pinned (OpenSpec.ofChange fnExactAssignRoomsSpec)

/-- ITS FALSE NEIGHBOUR: 'it returns false'. Refute it at one input. -/
def fnExactAssignRoomsWrong : ChangeSpec := { name := "fnExactAssignRooms", fn := fun _ => fun
  | [d1, d2] => { results := [.lit (.bool false)], args := [d1, d2] }
  | _ => none }
def FnExactAssignRoomsWrongFalsely : Prop := fnExactAssignRoomsRow.holds Try.pinned (OpenSpec.ofChange fnExactAssignRoomsWrong)

/-- 'laws.FnRooms': WHATEVER THE INPUT: true; the input reads as it did. -/
def fnRoomsSpec : ChangeSpec := { name := "fnRooms", fn := fun _ => fun
  | [d] => { results := [.lit (.bool true)], args := [d] }
  | _ => none }
def fnRoomsRow : OpenClaim := { program := "ytadcndmhdbhfkaa", sum := "7fbe044e9cc48e7be1e9ad5de3ff7ebc9df567071bc79d2d563488ff415fe09d", func := "loop.example/g03009/laws.FnRooms", spec := "fnRooms", unfollowed := true, recurses := true, apart := false }
def FnRoomsSaid : Prop := fnRoomsRow.holds Try.pinned (OpenSpec.ofChange fnRoomsSpec)

/-- ITS FALSE NEIGHBOUR: 'it returns false'. Refute it at one input. -/
def fnRoomsWrong : ChangeSpec := { name := "fnRooms", fn := fun _ => fun
  | [d] => { results := [.lit (.bool false)], args := [d] }
  | _ => none }
def FnRoomsWrongFalsely : Prop := fnRoomsRow.holds Try.pinned (OpenSpec.ofChange fnRoomsWrong)

/-- 'laws.FnExactRunOff': WHATEVER THE INPUT: true; the input reads as it did. -/
def fnExactRunOffSpec : ChangeSpec := { name := "fnExactRunOff", fn := fun _ => fun
  | [d1, d2] => { results := [.lit (.bool true)], args := [d1, d2] }
  | _ => none }
def fnExactRunOffRow : OpenClaim := { program := "ytadcndmhdbhfkaa", sum := "7fbe044e9cc48e7be1e9ad5de3ff7ebc9df567071bc79d2d563488ff415fe09d", func := "loop.example/g03009/laws.FnExactRunOff", spec := "fnExactRunOff", unfollowed := true, recurses := true, apart := false }
def FnExactRunOffSaid : Prop := fnExactRunOffRow.holds Try.pinned (OpenSpec.ofChange fnExactRunOffSpec)

/-- ITS FALSE NEIGHBOUR: 'it returns false'. Refute it at one input. -/
def fnExactRunOffWrong : ChangeSpec := { name := "fnExactRunOff", fn := fun _ => fun
  | [d1, d2] => { results := [.lit (.bool false)], args := [d1, d2] }
  | _ => none }
def FnExactRunOffWrongFalsely : Prop := fnExactRunOffRow.holds Try.pinned (OpenSpec.ofChange fnExactRunOffWrong)

/-- 'laws.FnExactTurnOrder': WHATEVER THE INPUT: true; the input reads as it did. -/
def fnExactTurnOrderSpec : ChangeSpec := { name := "fnExactTurnOrder", fn := fun _ => fun
  | [d1, d2] => { results := [.lit (.bool true)], args := [d1, d2] }
  | _ => none }
def fnExactTurnOrderRow : OpenClaim := { program := "ytadcndmhdbhfkaa", sum := "7fbe044e9cc48e7be1e9ad5de3ff7ebc9df567071bc79d2d563488ff415fe09d", func := "loop.example/g03009/laws.FnExactTurnOrder", spec := "fnExactTurnOrder", recurses := true, apart := false }
def FnExactTurnOrderSaid : Prop := fnExactTurnOrderRow.holds Try.pinned (OpenSpec.ofChange fnExactTurnOrderSpec)

/-- ITS FALSE NEIGHBOUR: 'it returns false'. Refute it at one input. -/
def fnExactTurnOrderWrong : ChangeSpec := { name := "fnExactTurnOrder", fn := fun _ => fun
  | [d1, d2] => { results := [.lit (.bool false)], args := [d1, d2] }
  | _ => none }
def FnExactTurnOrderWrongFalsely : Prop := fnExactTurnOrderRow.holds Try.pinned (OpenSpec.ofChange fnExactTurnOrderWrong)

/-- 'laws.FnOrders': WHATEVER THE INPUT: true; the input reads as it did. -/
def fnOrdersSpec : ChangeSpec := { name := "fnOrders", fn := fun _ => fun
  | [d] => { results := [.lit (.bool true)], args := [d] }
  | _ => none }
def fnOrdersRow : OpenClaim := { program := "ytadcndmhdbhfkaa", sum := "7fbe044e9cc48e7be1e9ad5de3ff7ebc9df567071bc79d2d563488ff415fe09d", func := "loop.example/g03009/laws.FnOrders", spec := "fnOrders", recurses := true, apart := false }
def FnOrdersSaid : Prop := fnOrdersRow.holds Try.pinned (OpenSpec.ofChange fnOrdersSpec)

/-- ITS FALSE NEIGHBOUR: 'it returns false'. Refute it at one input. -/
def fnOrdersWrong : ChangeSpec := { name := "fnOrders", fn := fun _ => fun
  | [d] => { results := [.lit (.bool false)], args := [d] }
  | _ => none }
def FnOrdersWrongFalsely : Prop := fnOrdersRow.holds Try.pinned (OpenSpec.ofChange fnOrdersWrong)

/-- 'laws.FnBallots': WHATEVER THE INPUT: true; the input reads as it did. -/
def fnBallotsSpec : ChangeSpec := { name := "fnBallots", fn := fun _ => fun
  | [d] => { results := [.lit (.bool true)], args := [d] }
  | _ => none }
def fnBallotsRow : OpenClaim := { program := "ytadcndmhdbhfkaa", sum := "7fbe044e9cc48e7be1e9ad5de3ff7ebc9df567071bc79d2d563488ff415fe09d", func := "loop.example/g03009/laws.FnBallots", spec := "fnBallots", apart := false }
def FnBallotsSaid : Prop := fnBallotsRow.holds Try.pinned (OpenSpec.ofChange fnBallotsSpec)

/-- ITS FALSE NEIGHBOUR: 'it returns false'. Refute it at one input. -/
def fnBallotsWrong : ChangeSpec := { name := "fnBallots", fn := fun _ => fun
  | [d] => { results := [.lit (.bool false)], args := [d] }
  | _ => none }
def FnBallotsWrongFalsely : Prop := fnBallotsRow.holds Try.pinned (OpenSpec.ofChange fnBallotsWrong)

/-- 'laws.FnRankings': WHATEVER THE INPUT: true; the input reads as it did. -/
def fnRankingsSpec : ChangeSpec := { name := "fnRankings", fn := fun _ => fun
  | [d] => { results := [.lit (.bool true)], args := [d] }
  | _ => none }
def fnRankingsRow : OpenClaim := { program := "ytadcndmhdbhfkaa", sum := "7fbe044e9cc48e7be1e9ad5de3ff7ebc9df567071bc79d2d563488ff415fe09d", func := "loop.example/g03009/laws.FnRankings", spec := "fnRankings", unfollowed := true, recurses := true, apart := false }
def FnRankingsSaid : Prop := fnRankingsRow.holds Try.pinned (OpenSpec.ofChange fnRankingsSpec)

/-- ITS FALSE NEIGHBOUR: 'it returns false'. Refute it at one input. -/
def fnRankingsWrong : ChangeSpec := { name := "fnRankings", fn := fun _ => fun
  | [d] => { results := [.lit (.bool false)], args := [d] }
  | _ => none }
def FnRankingsWrongFalsely : Prop := fnRankingsRow.holds Try.pinned (OpenSpec.ofChange fnRankingsWrong)

/- THE SECOND FORM. 'bulk': how many values and letters a reading holds, each counted each time it is reached (what is shared counts as often as it is met; a slice's spare places count too). A statement '..UptoSaid' is the law's where the arguments, and the package variables that the reading takes, are together of bulk at most 1048576: NARROWER than '..Said'. Prove '..Said' where nothing that the law and all that it calls make is longer than what came in: it says more and counts as full. Else prove '..UptoSaid'. A law counts once. -/
mutual
def uptoBulk {H : Type} : DataW H → Nat
  | .lit (.string bytes) => bytes.length + 1
  | .lit _ => 1
  | .nil => 1
  | .ptr d => uptoBulk d + 1
  | .slice elems spare => uptoBulkAll elems + uptoBulkAll spare + 1
  | .agg parts => uptoBulkAll parts + 1
  | .iface _ d => uptoBulk d + 1
  | .map entries => uptoBulkEntries entries + 1
  | .held _ => 1
def uptoBulkAll {H : Type} : List (DataW H) → Nat
  | [] => 0
  | d :: r => uptoBulk d + uptoBulkAll r
def uptoBulkEntries {H : Type} : List (Lit × DataW H) → Nat
  | [] => 0
  | x :: r => uptoBulkEntry x + uptoBulkEntries r
def uptoBulkEntry {H : Type} : Lit × DataW H → Nat
  | (.string bytes, d) => bytes.length + uptoBulk d + 1
  | (_, d) => uptoBulk d + 1
 end
def uptoSmall : (H : Type) → List (DataW H) → Bool := fun _ ds => decide (uptoBulkAll ds ≤ 1048576)
def OpenSpec.upto (s : _root_.Go.ChangeSpec) : _root_.Go.OpenSpec := { _root_.Go.OpenSpec.ofChange s with cond := some uptoSmall }

/-- 'laws.FnExactTurnedAway', WHERE WHAT IT READS IS OF BULK AT MOST 1048576: true; the input reads as it did. -/
def fnExactTurnedAwayUptoRow : OpenClaim := { program := "ytadcndmhdbhfkaa", sum := "7fbe044e9cc48e7be1e9ad5de3ff7ebc9df567071bc79d2d563488ff415fe09d", func := "loop.example/g03009/laws.FnExactTurnedAway", spec := "fnExactTurnedAway", unfollowed := true, recurses := true, apart := false, narrowed := true }
def FnExactTurnedAwayUptoSaid : Prop := fnExactTurnedAwayUptoRow.holds Try.pinned (OpenSpec.upto fnExactTurnedAwaySpec)

/-- 'laws.FnExactLargestRoom', WHERE WHAT IT READS IS OF BULK AT MOST 1048576: true; the input reads as it did. -/
def fnExactLargestRoomUptoRow : OpenClaim := { program := "ytadcndmhdbhfkaa", sum := "7fbe044e9cc48e7be1e9ad5de3ff7ebc9df567071bc79d2d563488ff415fe09d", func := "loop.example/g03009/laws.FnExactLargestRoom", spec := "fnExactLargestRoom", unfollowed := true, recurses := true, apart := false, narrowed := true }
def FnExactLargestRoomUptoSaid : Prop := fnExactLargestRoomUptoRow.holds Try.pinned (OpenSpec.upto fnExactLargestRoomSpec)

/-- 'laws.FnExactAssignRooms', WHERE WHAT IT READS IS OF BULK AT MOST 1048576: true; the input reads as it did. -/
def fnExactAssignRoomsUptoRow : OpenClaim := { program := "ytadcndmhdbhfkaa", sum := "7fbe044e9cc48e7be1e9ad5de3ff7ebc9df567071bc79d2d563488ff415fe09d", func := "loop.example/g03009/laws.FnExactAssignRooms", spec := "fnExactAssignRooms", unfollowed := true, recurses := true, apart := false, narrowed := true }
def FnExactAssignRoomsUptoSaid : Prop := fnExactAssignRoomsUptoRow.holds Try.pinned (OpenSpec.upto fnExactAssignRoomsSpec)

/-- 'laws.FnRooms', WHERE WHAT IT READS IS OF BULK AT MOST 1048576: true; the input reads as it did. -/
def fnRoomsUptoRow : OpenClaim := { program := "ytadcndmhdbhfkaa", sum := "7fbe044e9cc48e7be1e9ad5de3ff7ebc9df567071bc79d2d563488ff415fe09d", func := "loop.example/g03009/laws.FnRooms", spec := "fnRooms", unfollowed := true, recurses := true, apart := false, narrowed := true }
def FnRoomsUptoSaid : Prop := fnRoomsUptoRow.holds Try.pinned (OpenSpec.upto fnRoomsSpec)

/-- 'laws.FnExactRunOff', WHERE WHAT IT READS IS OF BULK AT MOST 1048576: true; the input reads as it did. -/
def fnExactRunOffUptoRow : OpenClaim := { program := "ytadcndmhdbhfkaa", sum := "7fbe044e9cc48e7be1e9ad5de3ff7ebc9df567071bc79d2d563488ff415fe09d", func := "loop.example/g03009/laws.FnExactRunOff", spec := "fnExactRunOff", unfollowed := true, recurses := true, apart := false, narrowed := true }
def FnExactRunOffUptoSaid : Prop := fnExactRunOffUptoRow.holds Try.pinned (OpenSpec.upto fnExactRunOffSpec)

/-- 'laws.FnExactTurnOrder', WHERE WHAT IT READS IS OF BULK AT MOST 1048576: true; the input reads as it did. -/
def fnExactTurnOrderUptoRow : OpenClaim := { program := "ytadcndmhdbhfkaa", sum := "7fbe044e9cc48e7be1e9ad5de3ff7ebc9df567071bc79d2d563488ff415fe09d", func := "loop.example/g03009/laws.FnExactTurnOrder", spec := "fnExactTurnOrder", recurses := true, apart := false, narrowed := true }
def FnExactTurnOrderUptoSaid : Prop := fnExactTurnOrderUptoRow.holds Try.pinned (OpenSpec.upto fnExactTurnOrderSpec)

/-- 'laws.FnOrders', WHERE WHAT IT READS IS OF BULK AT MOST 1048576: true; the input reads as it did. -/
def fnOrdersUptoRow : OpenClaim := { program := "ytadcndmhdbhfkaa", sum := "7fbe044e9cc48e7be1e9ad5de3ff7ebc9df567071bc79d2d563488ff415fe09d", func := "loop.example/g03009/laws.FnOrders", spec := "fnOrders", recurses := true, apart := false, narrowed := true }
def FnOrdersUptoSaid : Prop := fnOrdersUptoRow.holds Try.pinned (OpenSpec.upto fnOrdersSpec)

/-- 'laws.FnBallots', WHERE WHAT IT READS IS OF BULK AT MOST 1048576: true; the input reads as it did. -/
def fnBallotsUptoRow : OpenClaim := { program := "ytadcndmhdbhfkaa", sum := "7fbe044e9cc48e7be1e9ad5de3ff7ebc9df567071bc79d2d563488ff415fe09d", func := "loop.example/g03009/laws.FnBallots", spec := "fnBallots", apart := false, narrowed := true }
def FnBallotsUptoSaid : Prop := fnBallotsUptoRow.holds Try.pinned (OpenSpec.upto fnBallotsSpec)

/-- 'laws.FnRankings', WHERE WHAT IT READS IS OF BULK AT MOST 1048576: true; the input reads as it did. -/
def fnRankingsUptoRow : OpenClaim := { program := "ytadcndmhdbhfkaa", sum := "7fbe044e9cc48e7be1e9ad5de3ff7ebc9df567071bc79d2d563488ff415fe09d", func := "loop.example/g03009/laws.FnRankings", spec := "fnRankings", unfollowed := true, recurses := true, apart := false, narrowed := true }
def FnRankingsUptoSaid : Prop := fnRankingsUptoRow.holds Try.pinned (OpenSpec.upto fnRankingsSpec)

end Rows
end Go.Proofs.Ytadcndmhdbhfkaa
