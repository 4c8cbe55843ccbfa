/-
  No cell of these rows narrows 'for every input' (looked for: loops, veiled, ifaces, maps, wideKeys, modest, calm, conditions, laid).
  DERIVED. THE GIVEN ROWS OF THIS SEAT. 7 by the template 'for every input the law returns true; each argument reads behind the call as it read before'; 0 by the template 'total and deterministic' (their statements: YtdlebbmmanjffaaTotals.lean).
  GIVEN WITH THE SEED: the statements are not yours to turn. If you find one false, say at which input.
  Laid BY PROGRAM, IN A SANDBOX (cutbox-rows.mjs): the forced cells as the released guide's own fill.sh prints them over the translation 87f4cb050cbc8768… (all of the seat's roots in one cut). By AI agents, Wed Nov 11 2026. No macro, syntax, notation, axiom, sorry.
-/
import Derived.Test.YtdlebbmmanjffaaChecked
import GoSem.Claim
import GoSem.ClaimJoined
import GoSem.ClaimMapViews
import Derived.JoinedTies
import Derived.KernelRfl
namespace Go.Proofs.Ytdlebbmmanjffaa
/- THE CELL 'sum', in the pinned program and in every row, IS THE sha256 OF THE DUMP (.gsa) THAT YtdlebbmmanjffaaProg.lean LOADS. Nothing in Lean hashes anything: it is a label: what it is worth is what the hold of that sum in a sandbox is worth. -/
noncomputable def Try.pinned : Pinned := { name := "ytdlebbmmanjffaa", sum := "87f4cb050cbc876814b3c7f45fb6d83252716495cfcd5225f93d22f363748105", checked := Try.checked }
namespace Rows
def none {H : Type} : Left H := { results := [], args := [] }

/-- 'laws.FnExactAreJudges': WHATEVER THE INPUT: true; the input reads as it did. -/
def fnExactAreJudgesSpec : ChangeSpec := { name := "fnExactAreJudges", fn := fun _ => fun
  | [d] => { results := [.lit (.bool true)], args := [d] }
  | _ => none }
def fnExactAreJudgesRow : OpenClaim := { program := "ytdlebbmmanjffaa", sum := "87f4cb050cbc876814b3c7f45fb6d83252716495cfcd5225f93d22f363748105", func := "loop.example/g03009/laws.FnExactAreJudges", spec := "fnExactAreJudges", apart := false }
def FnExactAreJudgesSaid : Prop := fnExactAreJudgesRow.holds Try.pinned (OpenSpec.ofChange fnExactAreJudgesSpec)

/-- ITS FALSE NEIGHBOUR: 'it returns false'. Refute it at one input. -/
def fnExactAreJudgesWrong : ChangeSpec := { name := "fnExactAreJudges", fn := fun _ => fun
  | [d] => { results := [.lit (.bool false)], args := [d] }
  | _ => none }
def FnExactAreJudgesWrongFalsely : Prop := fnExactAreJudgesRow.holds Try.pinned (OpenSpec.ofChange fnExactAreJudgesWrong)

/-- 'laws.FnExactFreeJudges': WHATEVER THE INPUT: true; the input reads as it did. -/
def fnExactFreeJudgesSpec : ChangeSpec := { name := "fnExactFreeJudges", fn := fun _ => fun
  | [d1, d2] => { results := [.lit (.bool true)], args := [d1, d2] }
  | _ => none }
def fnExactFreeJudgesRow : OpenClaim := { program := "ytdlebbmmanjffaa", sum := "87f4cb050cbc876814b3c7f45fb6d83252716495cfcd5225f93d22f363748105", func := "loop.example/g03009/laws.FnExactFreeJudges", spec := "fnExactFreeJudges", apart := false }
def FnExactFreeJudgesSaid : Prop := fnExactFreeJudgesRow.holds Try.pinned (OpenSpec.ofChange fnExactFreeJudgesSpec)

/-- ITS FALSE NEIGHBOUR: 'it returns false'. Refute it at one input. -/
def fnExactFreeJudgesWrong : ChangeSpec := { name := "fnExactFreeJudges", fn := fun _ => fun
  | [d1, d2] => { results := [.lit (.bool false)], args := [d1, d2] }
  | _ => none }
def FnExactFreeJudgesWrongFalsely : Prop := fnExactFreeJudgesRow.holds Try.pinned (OpenSpec.ofChange fnExactFreeJudgesWrong)

/-- 'laws.FnExactMayJudge': WHATEVER THE INPUT: true; the input reads as it did. -/
def fnExactMayJudgeSpec : ChangeSpec := { name := "fnExactMayJudge", fn := fun _ => fun
  | [d1, d2, d3] => { results := [.lit (.bool true)], args := [d1, d2, d3] }
  | _ => none }
def fnExactMayJudgeRow : OpenClaim := { program := "ytdlebbmmanjffaa", sum := "87f4cb050cbc876814b3c7f45fb6d83252716495cfcd5225f93d22f363748105", func := "loop.example/g03009/laws.FnExactMayJudge", spec := "fnExactMayJudge", unfollowed := true, recurses := true, apart := false }
def FnExactMayJudgeSaid : Prop := fnExactMayJudgeRow.holds Try.pinned (OpenSpec.ofChange fnExactMayJudgeSpec)

/-- ITS FALSE NEIGHBOUR: 'it returns false'. Refute it at one input. -/
def fnExactMayJudgeWrong : ChangeSpec := { name := "fnExactMayJudge", fn := fun _ => fun
  | [d1, d2, d3] => { results := [.lit (.bool false)], args := [d1, d2, d3] }
  | _ => none }
def FnExactMayJudgeWrongFalsely : Prop := fnExactMayJudgeRow.holds Try.pinned (OpenSpec.ofChange fnExactMayJudgeWrong)

/-- 'laws.FnExactAreSeated': WHATEVER THE INPUT: true; the input reads as it did. -/
def fnExactAreSeatedSpec : ChangeSpec := { name := "fnExactAreSeated", fn := fun _ => fun
  | [d1, d2, d3, d4] => { results := [.lit (.bool true)], args := [d1, d2, d3, d4] }
  | _ => none }
def fnExactAreSeatedRow : OpenClaim := { program := "ytdlebbmmanjffaa", sum := "87f4cb050cbc876814b3c7f45fb6d83252716495cfcd5225f93d22f363748105", func := "loop.example/g03009/laws.FnExactAreSeated", spec := "fnExactAreSeated", unfollowed := true, recurses := true, apart := false }
def FnExactAreSeatedSaid : Prop := fnExactAreSeatedRow.holds Try.pinned (OpenSpec.ofChange fnExactAreSeatedSpec)

/-- ITS FALSE NEIGHBOUR: 'it returns false'. Refute it at one input. -/
def fnExactAreSeatedWrong : ChangeSpec := { name := "fnExactAreSeated", fn := fun _ => fun
  | [d1, d2, d3, d4] => { results := [.lit (.bool false)], args := [d1, d2, d3, d4] }
  | _ => none }
def FnExactAreSeatedWrongFalsely : Prop := fnExactAreSeatedRow.holds Try.pinned (OpenSpec.ofChange fnExactAreSeatedWrong)

/-- 'laws.FnExactSeatJudges': WHATEVER THE INPUT: true; the input reads as it did. -/
def fnExactSeatJudgesSpec : ChangeSpec := { name := "fnExactSeatJudges", fn := fun _ => fun
  | [d1, d2, d3] => { results := [.lit (.bool true)], args := [d1, d2, d3] }
  | _ => none }
def fnExactSeatJudgesRow : OpenClaim := { program := "ytdlebbmmanjffaa", sum := "87f4cb050cbc876814b3c7f45fb6d83252716495cfcd5225f93d22f363748105", func := "loop.example/g03009/laws.FnExactSeatJudges", spec := "fnExactSeatJudges", unfollowed := true, recurses := true, apart := false }
def FnExactSeatJudgesSaid : Prop := fnExactSeatJudgesRow.holds Try.pinned (OpenSpec.ofChange fnExactSeatJudgesSpec)

/-- ITS FALSE NEIGHBOUR: 'it returns false'. Refute it at one input. -/
def fnExactSeatJudgesWrong : ChangeSpec := { name := "fnExactSeatJudges", fn := fun _ => fun
  | [d1, d2, d3] => { results := [.lit (.bool false)], args := [d1, d2, d3] }
  | _ => none }
def FnExactSeatJudgesWrongFalsely : Prop := fnExactSeatJudgesRow.holds Try.pinned (OpenSpec.ofChange fnExactSeatJudgesWrong)

/-- 'laws.FnJudges': WHATEVER THE INPUT: true; the input reads as it did. -/
def fnJudgesSpec : ChangeSpec := { name := "fnJudges", fn := fun _ => fun
  | [d] => { results := [.lit (.bool true)], args := [d] }
  | _ => none }
def fnJudgesRow : OpenClaim := { program := "ytdlebbmmanjffaa", sum := "87f4cb050cbc876814b3c7f45fb6d83252716495cfcd5225f93d22f363748105", func := "loop.example/g03009/laws.FnJudges", spec := "fnJudges", unfollowed := true, recurses := true, apart := false }
def FnJudgesSaid : Prop := fnJudgesRow.holds Try.pinned (OpenSpec.ofChange fnJudgesSpec)

/-- ITS FALSE NEIGHBOUR: 'it returns false'. Refute it at one input. -/
def fnJudgesWrong : ChangeSpec := { name := "fnJudges", fn := fun _ => fun
  | [d] => { results := [.lit (.bool false)], args := [d] }
  | _ => none }
def FnJudgesWrongFalsely : Prop := fnJudgesRow.holds Try.pinned (OpenSpec.ofChange fnJudgesWrong)

/-- 'laws.FnPairs': WHATEVER THE INPUT: true; the input reads as it did. -/
def fnPairsSpec : ChangeSpec := { name := "fnPairs", fn := fun _ => fun
  | [d] => { results := [.lit (.bool true)], args := [d] }
  | _ => none }
def fnPairsRow : OpenClaim := { program := "ytdlebbmmanjffaa", sum := "87f4cb050cbc876814b3c7f45fb6d83252716495cfcd5225f93d22f363748105", func := "loop.example/g03009/laws.FnPairs", spec := "fnPairs", unfollowed := true, recurses := true, apart := false }
def FnPairsSaid : Prop := fnPairsRow.holds Try.pinned (OpenSpec.ofChange fnPairsSpec)

/-- ITS FALSE NEIGHBOUR: 'it returns false'. Refute it at one input. -/
def fnPairsWrong : ChangeSpec := { name := "fnPairs", fn := fun _ => fun
  | [d] => { results := [.lit (.bool false)], args := [d] }
  | _ => none }
def FnPairsWrongFalsely : Prop := fnPairsRow.holds Try.pinned (OpenSpec.ofChange fnPairsWrong)

/- THE SECOND FORM. 'bulk': how many values and letters a reading holds, each counted each time it is reached (what is shared counts as often as it is met; a slice's spare places count too). A statement '..UptoSaid' is the law's where the arguments, and the package variables that the reading takes, are together of bulk at most 1048576: NARROWER than '..Said'. Prove '..Said' where nothing that the law and all that it calls make is longer than what came in: it says more and counts as full. Else prove '..UptoSaid'. A law counts once. -/
mutual
def uptoBulk {H : Type} : DataW H → Nat
  | .lit (.string bytes) => bytes.length + 1
  | .lit _ => 1
  | .nil => 1
  | .ptr d => uptoBulk d + 1
  | .slice elems spare => uptoBulkAll elems + uptoBulkAll spare + 1
  | .agg parts => uptoBulkAll parts + 1
  | .iface _ d => uptoBulk d + 1
  | .map entries => uptoBulkEntries entries + 1
  | .held _ => 1
def uptoBulkAll {H : Type} : List (DataW H) → Nat
  | [] => 0
  | d :: r => uptoBulk d + uptoBulkAll r
def uptoBulkEntries {H : Type} : List (Lit × DataW H) → Nat
  | [] => 0
  | x :: r => uptoBulkEntry x + uptoBulkEntries r
def uptoBulkEntry {H : Type} : Lit × DataW H → Nat
  | (.string bytes, d) => bytes.length + uptoBulk d + 1
  | (_, d) => uptoBulk d + 1
 end
def uptoSmall : (H : Type) → List (DataW H) → Bool := fun _ ds => decide (uptoBulkAll ds ≤ 1048576)
def OpenSpec.upto (s : _root_.Go.ChangeSpec) : _root_.Go.OpenSpec := { _root_.Go.OpenSpec.ofChange s with cond := some uptoSmall }

/-- 'laws.FnExactAreJudges', WHERE WHAT IT READS IS OF BULK AT MOST 1048576: true; the input reads as it did. -/
def fnExactAreJudgesUptoRow : OpenClaim := { program := "ytdlebbmmanjffaa", sum := "87f4cb050cbc876814b3c7f45fb6d83252716495cfcd5225f93d22f363748105", func := "loop.example/g03009/laws.FnExactAreJudges", spec := "fnExactAreJudges", apart := false, narrowed := true }
def FnExactAreJudgesUptoSaid : Prop := fnExactAreJudgesUptoRow.holds Try.pinned (OpenSpec.upto fnExactAreJudgesSpec)

/-- 'laws.FnExactFreeJudges', WHERE WHAT IT READS IS OF BULK AT MOST 1048576: true; the input reads as it did. -/
def fnExactFreeJudgesUptoRow : OpenClaim := { program := "ytdlebbmmanjffaa", sum := "87f4cb050cbc876814b3c7f45fb6d83252716495cfcd5225f93d22f363748105", func := "loop.example/g03009/laws.FnExactFreeJudges", spec := "fnExactFreeJudges", apart := false, narrowed := true }
def FnExactFreeJudgesUptoSaid : Prop := fnExactFreeJudgesUptoRow.holds Try.pinned (OpenSpec.upto fnExactFreeJudgesSpec)

/-- 'laws.FnExactMayJudge', WHERE WHAT IT READS IS OF BULK AT MOST 1048576: true; the input reads as it did. -/
def fnExactMayJudgeUptoRow : OpenClaim := { program := "ytdlebbmmanjffaa", sum := "87f4cb050cbc876814b3c7f45fb6d83252716495cfcd5225f93d22f363748105", func := "loop.example/g03009/laws.FnExactMayJudge", spec := "fnExactMayJudge", unfollowed := true, recurses := true, apart := false, narrowed := true }
def FnExactMayJudgeUptoSaid : Prop := fnExactMayJudgeUptoRow.holds Try.pinned (OpenSpec.upto fnExactMayJudgeSpec)

/-- 'laws.FnExactAreSeated', WHERE WHAT IT READS IS OF BULK AT MOST 1048576: true; the input reads as it did. -/
def fnExactAreSeatedUptoRow : OpenClaim := { program := "ytdlebbmmanjffaa", sum := "87f4cb050cbc876814b3c7f45fb6d83252716495cfcd5225f93d22f363748105", func := "loop.example/g03009/laws.FnExactAreSeated", spec := "fnExactAreSeated", unfollowed := true, recurses := true, apart := false, narrowed := true }
def FnExactAreSeatedUptoSaid : Prop := fnExactAreSeatedUptoRow.holds Try.pinned (OpenSpec.upto fnExactAreSeatedSpec)

/-- 'laws.FnExactSeatJudges', WHERE WHAT IT READS IS OF BULK AT MOST 1048576: true; the input reads as it did. -/
def fnExactSeatJudgesUptoRow : OpenClaim := { program := "ytdlebbmmanjffaa", sum := "87f4cb050cbc876814b3c7f45fb6d83252716495cfcd5225f93d22f363748105", func := "loop.example/g03009/laws.FnExactSeatJudges", spec := "fnExactSeatJudges", unfollowed := true, recurses := true, apart := false, narrowed := true }
def FnExactSeatJudgesUptoSaid : Prop := fnExactSeatJudgesUptoRow.holds Try.pinned (OpenSpec.upto fnExactSeatJudgesSpec)

/-- 'laws.FnJudges', WHERE WHAT IT READS IS OF BULK AT MOST 1048576: true; the input reads as it did. -/
def fnJudgesUptoRow : OpenClaim := { program := "ytdlebbmmanjffaa", sum := "87f4cb050cbc876814b3c7f45fb6d83252716495cfcd5225f93d22f363748105", func := "loop.example/g03009/laws.FnJudges", spec := "fnJudges", unfollowed := true, recurses := true, apart := false, narrowed := true }
def FnJudgesUptoSaid : Prop := fnJudgesUptoRow.holds Try.pinned (OpenSpec.upto fnJudgesSpec)

/-- 'laws.FnPairs', WHERE WHAT IT READS IS OF BULK AT MOST 1048576: true; the input reads as it did. -/
def fnPairsUptoRow : OpenClaim := { program := "ytdlebbmmanjffaa", sum := "87f4cb050cbc876814b3c7f45fb6d83252716495cfcd5225f93d22f363748105", func := "loop.example/g03009/laws.FnPairs", spec := "fnPairs", unfollowed := true, recurses := true, apart := false, narrowed := true }
def FnPairsUptoSaid : Prop := fnPairsUptoRow.holds Try.pinned (OpenSpec.upto fnPairsSpec)

end Rows
end Go.Proofs.Ytdlebbmmanjffaa
