/-
  No cell of these rows narrows 'for every input' (looked for: loops, veiled, ifaces, maps, wideKeys, modest, calm, conditions, laid).
  DERIVED. THE GIVEN ROWS OF THIS SEAT. 9 by the template 'for every input the law returns true; each argument reads behind the call as it read before'; 0 by the template 'total and deterministic' (their statements: YtkocahlifffgjaaTotals.lean).
  GIVEN WITH THE SEED: the statements are not yours to turn. If you find one false, say at which input.
  Laid BY PROGRAM, IN A SANDBOX (cutbox-rows.mjs): the forced cells as the released guide's own fill.sh prints them over the translation 608bb0f028bc49c0… (all of the seat's roots in one cut). By AI agents, Wed Nov 11 2026. No macro, syntax, notation, axiom, sorry.
-/
import Derived.Test.YtkocahlifffgjaaChecked
import GoSem.Claim
import GoSem.ClaimJoined
import GoSem.ClaimMapViews
import Derived.JoinedTies
import Derived.KernelRfl
namespace Go.Proofs.Ytkocahlifffgjaa
/- THE CELL 'sum', in the pinned program and in every row, IS THE sha256 OF THE DUMP (.gsa) THAT YtkocahlifffgjaaProg.lean LOADS. Nothing in Lean hashes anything: it is a label: what it is worth is what the hold of that sum in a sandbox is worth. -/
noncomputable def Try.pinned : Pinned := { name := "ytkocahlifffgjaa", sum := "608bb0f028bc49c064d87d5b853d5eebfc6357046c82c08c7041472a564a9236", checked := Try.checked }
namespace Rows
def none {H : Type} : Left H := { results := [], args := [] }

/-- 'laws.FnExactUnitPairs': WHATEVER THE INPUT: true; the input reads as it did. -/
def fnExactUnitPairsSpec : ChangeSpec := { name := "fnExactUnitPairs", fn := fun _ => fun
  | [d] => { results := [.lit (.bool true)], args := [d] }
  | _ => none }
def fnExactUnitPairsRow : OpenClaim := { program := "ytkocahlifffgjaa", sum := "608bb0f028bc49c064d87d5b853d5eebfc6357046c82c08c7041472a564a9236", func := "loop.example/g00758/laws.FnExactUnitPairs", spec := "fnExactUnitPairs", unfollowed := true, recurses := true, apart := false }
def FnExactUnitPairsSaid : Prop := fnExactUnitPairsRow.holds Try.pinned (OpenSpec.ofChange fnExactUnitPairsSpec)

/-- ITS FALSE NEIGHBOUR: 'it returns false'. Refute it at one input. -/
def fnExactUnitPairsWrong : ChangeSpec := { name := "fnExactUnitPairs", fn := fun _ => fun
  | [d] => { results := [.lit (.bool false)], args := [d] }
  | _ => none }
def FnExactUnitPairsWrongFalsely : Prop := fnExactUnitPairsRow.holds Try.pinned (OpenSpec.ofChange fnExactUnitPairsWrong)

/-- 'laws.FnExactUnitRow': WHATEVER THE INPUT: true; the input reads as it did. -/
def fnExactUnitRowSpec : ChangeSpec := { name := "fnExactUnitRow", fn := fun _ => fun
  | [d1, d2] => { results := [.lit (.bool true)], args := [d1, d2] }
  | _ => none }
def fnExactUnitRowRow : OpenClaim := { program := "ytkocahlifffgjaa", sum := "608bb0f028bc49c064d87d5b853d5eebfc6357046c82c08c7041472a564a9236", func := "loop.example/g00758/laws.FnExactUnitRow", spec := "fnExactUnitRow", unfollowed := true, recurses := true, apart := false }
def FnExactUnitRowSaid : Prop := fnExactUnitRowRow.holds Try.pinned (OpenSpec.ofChange fnExactUnitRowSpec)

/-- ITS FALSE NEIGHBOUR: 'it returns false'. Refute it at one input. -/
def fnExactUnitRowWrong : ChangeSpec := { name := "fnExactUnitRow", fn := fun _ => fun
  | [d1, d2] => { results := [.lit (.bool false)], args := [d1, d2] }
  | _ => none }
def FnExactUnitRowWrongFalsely : Prop := fnExactUnitRowRow.holds Try.pinned (OpenSpec.ofChange fnExactUnitRowWrong)

/-- 'laws.FnExactUnitRows': WHATEVER THE INPUT: true; the input reads as it did. -/
def fnExactUnitRowsSpec : ChangeSpec := { name := "fnExactUnitRows", fn := fun _ => fun
  | [d] => { results := [.lit (.bool true)], args := [d] }
  | _ => none }
def fnExactUnitRowsRow : OpenClaim := { program := "ytkocahlifffgjaa", sum := "608bb0f028bc49c064d87d5b853d5eebfc6357046c82c08c7041472a564a9236", func := "loop.example/g00758/laws.FnExactUnitRows", spec := "fnExactUnitRows", unfollowed := true, recurses := true, apart := false }
def FnExactUnitRowsSaid : Prop := fnExactUnitRowsRow.holds Try.pinned (OpenSpec.ofChange fnExactUnitRowsSpec)

/-- ITS FALSE NEIGHBOUR: 'it returns false'. Refute it at one input. -/
def fnExactUnitRowsWrong : ChangeSpec := { name := "fnExactUnitRows", fn := fun _ => fun
  | [d] => { results := [.lit (.bool false)], args := [d] }
  | _ => none }
def FnExactUnitRowsWrongFalsely : Prop := fnExactUnitRowsRow.holds Try.pinned (OpenSpec.ofChange fnExactUnitRowsWrong)

/-- 'laws.FnExactClosedSet': WHATEVER THE INPUT: true; the input reads as it did. -/
def fnExactClosedSetSpec : ChangeSpec := { name := "fnExactClosedSet", fn := fun _ => fun
  | [d1, d2] => { results := [.lit (.bool true)], args := [d1, d2] }
  | _ => none }
def fnExactClosedSetRow : OpenClaim := { program := "ytkocahlifffgjaa", sum := "608bb0f028bc49c064d87d5b853d5eebfc6357046c82c08c7041472a564a9236", func := "loop.example/g00758/laws.FnExactClosedSet", spec := "fnExactClosedSet", unfollowed := true, recurses := true, apart := false }
def FnExactClosedSetSaid : Prop := fnExactClosedSetRow.holds Try.pinned (OpenSpec.ofChange fnExactClosedSetSpec)

/-- ITS FALSE NEIGHBOUR: 'it returns false'. Refute it at one input. -/
def fnExactClosedSetWrong : ChangeSpec := { name := "fnExactClosedSet", fn := fun _ => fun
  | [d1, d2] => { results := [.lit (.bool false)], args := [d1, d2] }
  | _ => none }
def FnExactClosedSetWrongFalsely : Prop := fnExactClosedSetRow.holds Try.pinned (OpenSpec.ofChange fnExactClosedSetWrong)

/-- 'laws.FnExactHasUnitRound': WHATEVER THE INPUT: true; the input reads as it did. -/
def fnExactHasUnitRoundSpec : ChangeSpec := { name := "fnExactHasUnitRound", fn := fun _ => fun
  | [d] => { results := [.lit (.bool true)], args := [d] }
  | _ => none }
def fnExactHasUnitRoundRow : OpenClaim := { program := "ytkocahlifffgjaa", sum := "608bb0f028bc49c064d87d5b853d5eebfc6357046c82c08c7041472a564a9236", func := "loop.example/g00758/laws.FnExactHasUnitRound", spec := "fnExactHasUnitRound", unfollowed := true, recurses := true, apart := false }
def FnExactHasUnitRoundSaid : Prop := fnExactHasUnitRoundRow.holds Try.pinned (OpenSpec.ofChange fnExactHasUnitRoundSpec)

/-- ITS FALSE NEIGHBOUR: 'it returns false'. Refute it at one input. -/
def fnExactHasUnitRoundWrong : ChangeSpec := { name := "fnExactHasUnitRound", fn := fun _ => fun
  | [d] => { results := [.lit (.bool false)], args := [d] }
  | _ => none }
def FnExactHasUnitRoundWrongFalsely : Prop := fnExactHasUnitRoundRow.holds Try.pinned (OpenSpec.ofChange fnExactHasUnitRoundWrong)

/-- 'laws.FnExactJoinRows': WHATEVER THE INPUT: true; the input reads as it did. -/
def fnExactJoinRowsSpec : ChangeSpec := { name := "fnExactJoinRows", fn := fun _ => fun
  | [d1, d2] => { results := [.lit (.bool true)], args := [d1, d2] }
  | _ => none }
def fnExactJoinRowsRow : OpenClaim := { program := "ytkocahlifffgjaa", sum := "608bb0f028bc49c064d87d5b853d5eebfc6357046c82c08c7041472a564a9236", func := "loop.example/g00758/laws.FnExactJoinRows", spec := "fnExactJoinRows", recurses := true, apart := false }
def FnExactJoinRowsSaid : Prop := fnExactJoinRowsRow.holds Try.pinned (OpenSpec.ofChange fnExactJoinRowsSpec)

/-- ITS FALSE NEIGHBOUR: 'it returns false'. Refute it at one input. -/
def fnExactJoinRowsWrong : ChangeSpec := { name := "fnExactJoinRows", fn := fun _ => fun
  | [d1, d2] => { results := [.lit (.bool false)], args := [d1, d2] }
  | _ => none }
def FnExactJoinRowsWrongFalsely : Prop := fnExactJoinRowsRow.holds Try.pinned (OpenSpec.ofChange fnExactJoinRowsWrong)

/-- 'laws.FnExactAccepts': WHATEVER THE INPUT: true; the input reads as it did. -/
def fnExactAcceptsSpec : ChangeSpec := { name := "fnExactAccepts", fn := fun _ => fun
  | [d1, d2] => { results := [.lit (.bool true)], args := [d1, d2] }
  | _ => none }
def fnExactAcceptsRow : OpenClaim := { program := "ytkocahlifffgjaa", sum := "608bb0f028bc49c064d87d5b853d5eebfc6357046c82c08c7041472a564a9236", func := "loop.example/g00758/laws.FnExactAccepts", spec := "fnExactAccepts", unfollowed := true, recurses := true, apart := false }
def FnExactAcceptsSaid : Prop := fnExactAcceptsRow.holds Try.pinned (OpenSpec.ofChange fnExactAcceptsSpec)

/-- ITS FALSE NEIGHBOUR: 'it returns false'. Refute it at one input. -/
def fnExactAcceptsWrong : ChangeSpec := { name := "fnExactAccepts", fn := fun _ => fun
  | [d1, d2] => { results := [.lit (.bool false)], args := [d1, d2] }
  | _ => none }
def FnExactAcceptsWrongFalsely : Prop := fnExactAcceptsRow.holds Try.pinned (OpenSpec.ofChange fnExactAcceptsWrong)

/-- 'laws.FnExactCellAt': WHATEVER THE INPUT: true; the input reads as it did. -/
def fnExactCellAtSpec : ChangeSpec := { name := "fnExactCellAt", fn := fun _ => fun
  | [d1, d2, d3] => { results := [.lit (.bool true)], args := [d1, d2, d3] }
  | _ => none }
def fnExactCellAtRow : OpenClaim := { program := "ytkocahlifffgjaa", sum := "608bb0f028bc49c064d87d5b853d5eebfc6357046c82c08c7041472a564a9236", func := "loop.example/g00758/laws.FnExactCellAt", spec := "fnExactCellAt", unfollowed := true, recurses := true, apart := false }
def FnExactCellAtSaid : Prop := fnExactCellAtRow.holds Try.pinned (OpenSpec.ofChange fnExactCellAtSpec)

/-- ITS FALSE NEIGHBOUR: 'it returns false'. Refute it at one input. -/
def fnExactCellAtWrong : ChangeSpec := { name := "fnExactCellAt", fn := fun _ => fun
  | [d1, d2, d3] => { results := [.lit (.bool false)], args := [d1, d2, d3] }
  | _ => none }
def FnExactCellAtWrongFalsely : Prop := fnExactCellAtRow.holds Try.pinned (OpenSpec.ofChange fnExactCellAtWrong)

/-- 'laws.FnExactAheadOf': WHATEVER THE INPUT: true; the input reads as it did. -/
def fnExactAheadOfSpec : ChangeSpec := { name := "fnExactAheadOf", fn := fun _ => fun
  | [d1, d2, d3, d4] => { results := [.lit (.bool true)], args := [d1, d2, d3, d4] }
  | _ => none }
def fnExactAheadOfRow : OpenClaim := { program := "ytkocahlifffgjaa", sum := "608bb0f028bc49c064d87d5b853d5eebfc6357046c82c08c7041472a564a9236", func := "loop.example/g00758/laws.FnExactAheadOf", spec := "fnExactAheadOf", unfollowed := true, recurses := true, apart := false }
def FnExactAheadOfSaid : Prop := fnExactAheadOfRow.holds Try.pinned (OpenSpec.ofChange fnExactAheadOfSpec)

/-- ITS FALSE NEIGHBOUR: 'it returns false'. Refute it at one input. -/
def fnExactAheadOfWrong : ChangeSpec := { name := "fnExactAheadOf", fn := fun _ => fun
  | [d1, d2, d3, d4] => { results := [.lit (.bool false)], args := [d1, d2, d3, d4] }
  | _ => none }
def FnExactAheadOfWrongFalsely : Prop := fnExactAheadOfRow.holds Try.pinned (OpenSpec.ofChange fnExactAheadOfWrong)

/- THE SECOND FORM. 'bulk': how many values and letters a reading holds, each counted each time it is reached (what is shared counts as often as it is met; a slice's spare places count too). A statement '..UptoSaid' is the law's where the arguments, and the package variables that the reading takes, are together of bulk at most 1048576: NARROWER than '..Said'. Prove '..Said' where nothing that the law and all that it calls make is longer than what came in: it says more and counts as full. Else prove '..UptoSaid'. A law counts once. -/
mutual
def uptoBulk {H : Type} : DataW H → Nat
  | .lit (.string bytes) => bytes.length + 1
  | .lit _ => 1
  | .nil => 1
  | .ptr d => uptoBulk d + 1
  | .slice elems spare => uptoBulkAll elems + uptoBulkAll spare + 1
  | .agg parts => uptoBulkAll parts + 1
  | .iface _ d => uptoBulk d + 1
  | .map entries => uptoBulkEntries entries + 1
  | .held _ => 1
def uptoBulkAll {H : Type} : List (DataW H) → Nat
  | [] => 0
  | d :: r => uptoBulk d + uptoBulkAll r
def uptoBulkEntries {H : Type} : List (Lit × DataW H) → Nat
  | [] => 0
  | x :: r => uptoBulkEntry x + uptoBulkEntries r
def uptoBulkEntry {H : Type} : Lit × DataW H → Nat
  | (.string bytes, d) => bytes.length + uptoBulk d + 1
  | (_, d) => uptoBulk d + 1
 end
def uptoSmall : (H : Type) → List (DataW H) → Bool := fun _ ds => decide (uptoBulkAll ds ≤ 1048576)
def OpenSpec.upto (s : _root_.Go.ChangeSpec) : _root_.Go.OpenSpec := { _root_.Go.OpenSpec.ofChange s with cond := some uptoSmall }

/-- 'laws.FnExactUnitPairs', WHERE WHAT IT READS IS OF BULK AT MOST 1048576: true; the input reads as it did. -/
def fnExactUnitPairsUptoRow : OpenClaim := { program := "ytkocahlifffgjaa", sum := "608bb0f028bc49c064d87d5b853d5eebfc6357046c82c08c7041472a564a9236", func := "loop.example/g00758/laws.FnExactUnitPairs", spec := "fnExactUnitPairs", unfollowed := true, recurses := true, apart := false, narrowed := true }
def FnExactUnitPairsUptoSaid : Prop := fnExactUnitPairsUptoRow.holds Try.pinned (OpenSpec.upto fnExactUnitPairsSpec)

/-- 'laws.FnExactUnitRow', WHERE WHAT IT READS IS OF BULK AT MOST 1048576: true; the input reads as it did. -/
def fnExactUnitRowUptoRow : OpenClaim := { program := "ytkocahlifffgjaa", sum := "608bb0f028bc49c064d87d5b853d5eebfc6357046c82c08c7041472a564a9236", func := "loop.example/g00758/laws.FnExactUnitRow", spec := "fnExactUnitRow", unfollowed := true, recurses := true, apart := false, narrowed := true }
def FnExactUnitRowUptoSaid : Prop := fnExactUnitRowUptoRow.holds Try.pinned (OpenSpec.upto fnExactUnitRowSpec)

/-- 'laws.FnExactUnitRows', WHERE WHAT IT READS IS OF BULK AT MOST 1048576: true; the input reads as it did. -/
def fnExactUnitRowsUptoRow : OpenClaim := { program := "ytkocahlifffgjaa", sum := "608bb0f028bc49c064d87d5b853d5eebfc6357046c82c08c7041472a564a9236", func := "loop.example/g00758/laws.FnExactUnitRows", spec := "fnExactUnitRows", unfollowed := true, recurses := true, apart := false, narrowed := true }
def FnExactUnitRowsUptoSaid : Prop := fnExactUnitRowsUptoRow.holds Try.pinned (OpenSpec.upto fnExactUnitRowsSpec)

/-- 'laws.FnExactClosedSet', WHERE WHAT IT READS IS OF BULK AT MOST 1048576: true; the input reads as it did. -/
def fnExactClosedSetUptoRow : OpenClaim := { program := "ytkocahlifffgjaa", sum := "608bb0f028bc49c064d87d5b853d5eebfc6357046c82c08c7041472a564a9236", func := "loop.example/g00758/laws.FnExactClosedSet", spec := "fnExactClosedSet", unfollowed := true, recurses := true, apart := false, narrowed := true }
def FnExactClosedSetUptoSaid : Prop := fnExactClosedSetUptoRow.holds Try.pinned (OpenSpec.upto fnExactClosedSetSpec)

/-- 'laws.FnExactHasUnitRound', WHERE WHAT IT READS IS OF BULK AT MOST 1048576: true; the input reads as it did. -/
def fnExactHasUnitRoundUptoRow : OpenClaim := { program := "ytkocahlifffgjaa", sum := "608bb0f028bc49c064d87d5b853d5eebfc6357046c82c08c7041472a564a9236", func := "loop.example/g00758/laws.FnExactHasUnitRound", spec := "fnExactHasUnitRound", unfollowed := true, recurses := true, apart := false, narrowed := true }
def FnExactHasUnitRoundUptoSaid : Prop := fnExactHasUnitRoundUptoRow.holds Try.pinned (OpenSpec.upto fnExactHasUnitRoundSpec)

/-- 'laws.FnExactJoinRows', WHERE WHAT IT READS IS OF BULK AT MOST 1048576: true; the input reads as it did. -/
def fnExactJoinRowsUptoRow : OpenClaim := { program := "ytkocahlifffgjaa", sum := "608bb0f028bc49c064d87d5b853d5eebfc6357046c82c08c7041472a564a9236", func := "loop.example/g00758/laws.FnExactJoinRows", spec := "fnExactJoinRows", recurses := true, apart := false, narrowed := true }
def FnExactJoinRowsUptoSaid : Prop := fnExactJoinRowsUptoRow.holds Try.pinned (OpenSpec.upto fnExactJoinRowsSpec)

/-- 'laws.FnExactAccepts', WHERE WHAT IT READS IS OF BULK AT MOST 1048576: true; the input reads as it did. -/
def fnExactAcceptsUptoRow : OpenClaim := { program := "ytkocahlifffgjaa", sum := "608bb0f028bc49c064d87d5b853d5eebfc6357046c82c08c7041472a564a9236", func := "loop.example/g00758/laws.FnExactAccepts", spec := "fnExactAccepts", unfollowed := true, recurses := true, apart := false, narrowed := true }
def FnExactAcceptsUptoSaid : Prop := fnExactAcceptsUptoRow.holds Try.pinned (OpenSpec.upto fnExactAcceptsSpec)

/-- 'laws.FnExactCellAt', WHERE WHAT IT READS IS OF BULK AT MOST 1048576: true; the input reads as it did. -/
def fnExactCellAtUptoRow : OpenClaim := { program := "ytkocahlifffgjaa", sum := "608bb0f028bc49c064d87d5b853d5eebfc6357046c82c08c7041472a564a9236", func := "loop.example/g00758/laws.FnExactCellAt", spec := "fnExactCellAt", unfollowed := true, recurses := true, apart := false, narrowed := true }
def FnExactCellAtUptoSaid : Prop := fnExactCellAtUptoRow.holds Try.pinned (OpenSpec.upto fnExactCellAtSpec)

/-- 'laws.FnExactAheadOf', WHERE WHAT IT READS IS OF BULK AT MOST 1048576: true; the input reads as it did. -/
def fnExactAheadOfUptoRow : OpenClaim := { program := "ytkocahlifffgjaa", sum := "608bb0f028bc49c064d87d5b853d5eebfc6357046c82c08c7041472a564a9236", func := "loop.example/g00758/laws.FnExactAheadOf", spec := "fnExactAheadOf", unfollowed := true, recurses := true, apart := false, narrowed := true }
def FnExactAheadOfUptoSaid : Prop := fnExactAheadOfUptoRow.holds Try.pinned (OpenSpec.upto fnExactAheadOfSpec)

end Rows
end Go.Proofs.Ytkocahlifffgjaa
