/-
  No cell of these rows narrows 'for every input' (looked for: loops, veiled, ifaces, maps, wideKeys, modest, calm, conditions, laid).
  DERIVED. THE GIVEN ROWS OF THIS SEAT. 8 by the template 'for every input the law returns true; each argument reads behind the call as it read before'; 0 by the template 'total and deterministic' (their statements: YtohbdjdjjbieeaaTotals.lean).
  GIVEN WITH THE SEED: the statements are not yours to turn. If you find one false, say at which input.
  Laid BY PROGRAM, IN A SANDBOX (cutbox-rows.mjs): the forced cells as the released guide's own fill.sh prints them over the translation a488b3ae8da613af… (all of the seat's roots in one cut). By AI agents, Wed Nov 11 2026. No macro, syntax, notation, axiom, sorry.
-/
import Derived.Test.YtohbdjdjjbieeaaChecked
import GoSem.Claim
import GoSem.ClaimJoined
import GoSem.ClaimMapViews
import Derived.JoinedTies
import Derived.KernelRfl
namespace Go.Proofs.Ytohbdjdjjbieeaa
/- THE CELL 'sum', in the pinned program and in every row, IS THE sha256 OF THE DUMP (.gsa) THAT YtohbdjdjjbieeaaProg.lean LOADS. Nothing in Lean hashes anything: it is a label: what it is worth is what the hold of that sum in a sandbox is worth. -/
noncomputable def Try.pinned : Pinned := { name := "ytohbdjdjjbieeaa", sum := "a488b3ae8da613af9ea2925ca664b7294b7edc7d0472ad466bd5b1ffb7bd7e0d", checked := Try.checked }
namespace Rows
def none {H : Type} : Left H := { results := [], args := [] }

/-- 'laws.FnExactLeastLong': WHATEVER THE INPUT: true; the input reads as it did. -/
def fnExactLeastLongSpec : ChangeSpec := { name := "fnExactLeastLong", fn := fun _ => fun
  | [d] => { results := [.lit (.bool true)], args := [d] }
  | _ => none }
def fnExactLeastLongRow : OpenClaim := { program := "ytohbdjdjjbieeaa", sum := "a488b3ae8da613af9ea2925ca664b7294b7edc7d0472ad466bd5b1ffb7bd7e0d", func := "loop.example/g00758/laws.FnExactLeastLong", spec := "fnExactLeastLong", unfollowed := true, recurses := true, apart := false }
def FnExactLeastLongSaid : Prop := fnExactLeastLongRow.holds Try.pinned (OpenSpec.ofChange fnExactLeastLongSpec)

/-- ITS FALSE NEIGHBOUR: 'it returns false'. Refute it at one input. -/
def fnExactLeastLongWrong : ChangeSpec := { name := "fnExactLeastLong", fn := fun _ => fun
  | [d] => { results := [.lit (.bool false)], args := [d] }
  | _ => none }
def FnExactLeastLongWrongFalsely : Prop := fnExactLeastLongRow.holds Try.pinned (OpenSpec.ofChange fnExactLeastLongWrong)

/-- 'laws.FnExactReachedOf': WHATEVER THE INPUT: true; the input reads as it did. -/
def fnExactReachedOfSpec : ChangeSpec := { name := "fnExactReachedOf", fn := fun _ => fun
  | [d] => { results := [.lit (.bool true)], args := [d] }
  | _ => none }
def fnExactReachedOfRow : OpenClaim := { program := "ytohbdjdjjbieeaa", sum := "a488b3ae8da613af9ea2925ca664b7294b7edc7d0472ad466bd5b1ffb7bd7e0d", func := "loop.example/g00758/laws.FnExactReachedOf", spec := "fnExactReachedOf", unfollowed := true, recurses := true, apart := false }
def FnExactReachedOfSaid : Prop := fnExactReachedOfRow.holds Try.pinned (OpenSpec.ofChange fnExactReachedOfSpec)

/-- ITS FALSE NEIGHBOUR: 'it returns false'. Refute it at one input. -/
def fnExactReachedOfWrong : ChangeSpec := { name := "fnExactReachedOf", fn := fun _ => fun
  | [d] => { results := [.lit (.bool false)], args := [d] }
  | _ => none }
def FnExactReachedOfWrongFalsely : Prop := fnExactReachedOfRow.holds Try.pinned (OpenSpec.ofChange fnExactReachedOfWrong)

/-- 'laws.FnExactNullableOf': WHATEVER THE INPUT: true; the input reads as it did. -/
def fnExactNullableOfSpec : ChangeSpec := { name := "fnExactNullableOf", fn := fun _ => fun
  | [d] => { results := [.lit (.bool true)], args := [d] }
  | _ => none }
def fnExactNullableOfRow : OpenClaim := { program := "ytohbdjdjjbieeaa", sum := "a488b3ae8da613af9ea2925ca664b7294b7edc7d0472ad466bd5b1ffb7bd7e0d", func := "loop.example/g00758/laws.FnExactNullableOf", spec := "fnExactNullableOf", unfollowed := true, recurses := true, apart := false }
def FnExactNullableOfSaid : Prop := fnExactNullableOfRow.holds Try.pinned (OpenSpec.ofChange fnExactNullableOfSpec)

/-- ITS FALSE NEIGHBOUR: 'it returns false'. Refute it at one input. -/
def fnExactNullableOfWrong : ChangeSpec := { name := "fnExactNullableOf", fn := fun _ => fun
  | [d] => { results := [.lit (.bool false)], args := [d] }
  | _ => none }
def FnExactNullableOfWrongFalsely : Prop := fnExactNullableOfRow.holds Try.pinned (OpenSpec.ofChange fnExactNullableOfWrong)

/-- 'laws.FnExactProductiveOf': WHATEVER THE INPUT: true; the input reads as it did. -/
def fnExactProductiveOfSpec : ChangeSpec := { name := "fnExactProductiveOf", fn := fun _ => fun
  | [d] => { results := [.lit (.bool true)], args := [d] }
  | _ => none }
def fnExactProductiveOfRow : OpenClaim := { program := "ytohbdjdjjbieeaa", sum := "a488b3ae8da613af9ea2925ca664b7294b7edc7d0472ad466bd5b1ffb7bd7e0d", func := "loop.example/g00758/laws.FnExactProductiveOf", spec := "fnExactProductiveOf", unfollowed := true, recurses := true, apart := false }
def FnExactProductiveOfSaid : Prop := fnExactProductiveOfRow.holds Try.pinned (OpenSpec.ofChange fnExactProductiveOfSpec)

/-- ITS FALSE NEIGHBOUR: 'it returns false'. Refute it at one input. -/
def fnExactProductiveOfWrong : ChangeSpec := { name := "fnExactProductiveOf", fn := fun _ => fun
  | [d] => { results := [.lit (.bool false)], args := [d] }
  | _ => none }
def FnExactProductiveOfWrongFalsely : Prop := fnExactProductiveOfRow.holds Try.pinned (OpenSpec.ofChange fnExactProductiveOfWrong)

/-- 'laws.FnExactGrowingOf': WHATEVER THE INPUT: true; the input reads as it did. -/
def fnExactGrowingOfSpec : ChangeSpec := { name := "fnExactGrowingOf", fn := fun _ => fun
  | [d] => { results := [.lit (.bool true)], args := [d] }
  | _ => none }
def fnExactGrowingOfRow : OpenClaim := { program := "ytohbdjdjjbieeaa", sum := "a488b3ae8da613af9ea2925ca664b7294b7edc7d0472ad466bd5b1ffb7bd7e0d", func := "loop.example/g00758/laws.FnExactGrowingOf", spec := "fnExactGrowingOf", unfollowed := true, recurses := true, apart := false }
def FnExactGrowingOfSaid : Prop := fnExactGrowingOfRow.holds Try.pinned (OpenSpec.ofChange fnExactGrowingOfSpec)

/-- ITS FALSE NEIGHBOUR: 'it returns false'. Refute it at one input. -/
def fnExactGrowingOfWrong : ChangeSpec := { name := "fnExactGrowingOf", fn := fun _ => fun
  | [d] => { results := [.lit (.bool false)], args := [d] }
  | _ => none }
def FnExactGrowingOfWrongFalsely : Prop := fnExactGrowingOfRow.holds Try.pinned (OpenSpec.ofChange fnExactGrowingOfWrong)

/-- 'laws.FnExactIsUseful': WHATEVER THE INPUT: true; the input reads as it did. -/
def fnExactIsUsefulSpec : ChangeSpec := { name := "fnExactIsUseful", fn := fun _ => fun
  | [d] => { results := [.lit (.bool true)], args := [d] }
  | _ => none }
def fnExactIsUsefulRow : OpenClaim := { program := "ytohbdjdjjbieeaa", sum := "a488b3ae8da613af9ea2925ca664b7294b7edc7d0472ad466bd5b1ffb7bd7e0d", func := "loop.example/g00758/laws.FnExactIsUseful", spec := "fnExactIsUseful", unfollowed := true, recurses := true, apart := false }
def FnExactIsUsefulSaid : Prop := fnExactIsUsefulRow.holds Try.pinned (OpenSpec.ofChange fnExactIsUsefulSpec)

/-- ITS FALSE NEIGHBOUR: 'it returns false'. Refute it at one input. -/
def fnExactIsUsefulWrong : ChangeSpec := { name := "fnExactIsUseful", fn := fun _ => fun
  | [d] => { results := [.lit (.bool false)], args := [d] }
  | _ => none }
def FnExactIsUsefulWrongFalsely : Prop := fnExactIsUsefulRow.holds Try.pinned (OpenSpec.ofChange fnExactIsUsefulWrong)

/-- 'laws.FnExactUsefulOf': WHATEVER THE INPUT: true; the input reads as it did. -/
def fnExactUsefulOfSpec : ChangeSpec := { name := "fnExactUsefulOf", fn := fun _ => fun
  | [d] => { results := [.lit (.bool true)], args := [d] }
  | _ => none }
def fnExactUsefulOfRow : OpenClaim := { program := "ytohbdjdjjbieeaa", sum := "a488b3ae8da613af9ea2925ca664b7294b7edc7d0472ad466bd5b1ffb7bd7e0d", func := "loop.example/g00758/laws.FnExactUsefulOf", spec := "fnExactUsefulOf", unfollowed := true, recurses := true, apart := false }
def FnExactUsefulOfSaid : Prop := fnExactUsefulOfRow.holds Try.pinned (OpenSpec.ofChange fnExactUsefulOfSpec)

/-- ITS FALSE NEIGHBOUR: 'it returns false'. Refute it at one input. -/
def fnExactUsefulOfWrong : ChangeSpec := { name := "fnExactUsefulOf", fn := fun _ => fun
  | [d] => { results := [.lit (.bool false)], args := [d] }
  | _ => none }
def FnExactUsefulOfWrongFalsely : Prop := fnExactUsefulOfRow.holds Try.pinned (OpenSpec.ofChange fnExactUsefulOfWrong)

/-- 'laws.FnExactIsFinite': WHATEVER THE INPUT: true; the input reads as it did. -/
def fnExactIsFiniteSpec : ChangeSpec := { name := "fnExactIsFinite", fn := fun _ => fun
  | [d] => { results := [.lit (.bool true)], args := [d] }
  | _ => none }
def fnExactIsFiniteRow : OpenClaim := { program := "ytohbdjdjjbieeaa", sum := "a488b3ae8da613af9ea2925ca664b7294b7edc7d0472ad466bd5b1ffb7bd7e0d", func := "loop.example/g00758/laws.FnExactIsFinite", spec := "fnExactIsFinite", unfollowed := true, recurses := true, apart := false }
def FnExactIsFiniteSaid : Prop := fnExactIsFiniteRow.holds Try.pinned (OpenSpec.ofChange fnExactIsFiniteSpec)

/-- ITS FALSE NEIGHBOUR: 'it returns false'. Refute it at one input. -/
def fnExactIsFiniteWrong : ChangeSpec := { name := "fnExactIsFinite", fn := fun _ => fun
  | [d] => { results := [.lit (.bool false)], args := [d] }
  | _ => none }
def FnExactIsFiniteWrongFalsely : Prop := fnExactIsFiniteRow.holds Try.pinned (OpenSpec.ofChange fnExactIsFiniteWrong)

/- THE SECOND FORM. 'bulk': how many values and letters a reading holds, each counted each time it is reached (what is shared counts as often as it is met; a slice's spare places count too). A statement '..UptoSaid' is the law's where the arguments, and the package variables that the reading takes, are together of bulk at most 1048576: NARROWER than '..Said'. Prove '..Said' where nothing that the law and all that it calls make is longer than what came in: it says more and counts as full. Else prove '..UptoSaid'. A law counts once. -/
mutual
def uptoBulk {H : Type} : DataW H → Nat
  | .lit (.string bytes) => bytes.length + 1
  | .lit _ => 1
  | .nil => 1
  | .ptr d => uptoBulk d + 1
  | .slice elems spare => uptoBulkAll elems + uptoBulkAll spare + 1
  | .agg parts => uptoBulkAll parts + 1
  | .iface _ d => uptoBulk d + 1
  | .map entries => uptoBulkEntries entries + 1
  | .held _ => 1
def uptoBulkAll {H : Type} : List (DataW H) → Nat
  | [] => 0
  | d :: r => uptoBulk d + uptoBulkAll r
def uptoBulkEntries {H : Type} : List (Lit × DataW H) → Nat
  | [] => 0
  | x :: r => uptoBulkEntry x + uptoBulkEntries r
def uptoBulkEntry {H : Type} : Lit × DataW H → Nat
  | (.string bytes, d) => bytes.length + uptoBulk d + 1
  | (_, d) => uptoBulk d + 1
 end
def uptoSmall : (H : Type) → List (DataW H) → Bool := fun _ ds => decide (uptoBulkAll ds ≤ 1048576)
def OpenSpec.upto (s : _root_.Go.ChangeSpec) : _root_.Go.OpenSpec := { _root_.Go.OpenSpec.ofChange s with cond := some uptoSmall }

/-- 'laws.FnExactLeastLong', WHERE WHAT IT READS IS OF BULK AT MOST 1048576: true; the input reads as it did. -/
def fnExactLeastLongUptoRow : OpenClaim := { program := "ytohbdjdjjbieeaa", sum := "a488b3ae8da613af9ea2925ca664b7294b7edc7d0472ad466bd5b1ffb7bd7e0d", func := "loop.example/g00758/laws.FnExactLeastLong", spec := "fnExactLeastLong", unfollowed := true, recurses := true, apart := false, narrowed := true }
def FnExactLeastLongUptoSaid : Prop := fnExactLeastLongUptoRow.holds Try.pinned (OpenSpec.upto fnExactLeastLongSpec)

/-- 'laws.FnExactReachedOf', WHERE WHAT IT READS IS OF BULK AT MOST 1048576: true; the input reads as it did. -/
def fnExactReachedOfUptoRow : OpenClaim := { program := "ytohbdjdjjbieeaa", sum := "a488b3ae8da613af9ea2925ca664b7294b7edc7d0472ad466bd5b1ffb7bd7e0d", func := "loop.example/g00758/laws.FnExactReachedOf", spec := "fnExactReachedOf", unfollowed := true, recurses := true, apart := false, narrowed := true }
def FnExactReachedOfUptoSaid : Prop := fnExactReachedOfUptoRow.holds Try.pinned (OpenSpec.upto fnExactReachedOfSpec)

/-- 'laws.FnExactNullableOf', WHERE WHAT IT READS IS OF BULK AT MOST 1048576: true; the input reads as it did. -/
def fnExactNullableOfUptoRow : OpenClaim := { program := "ytohbdjdjjbieeaa", sum := "a488b3ae8da613af9ea2925ca664b7294b7edc7d0472ad466bd5b1ffb7bd7e0d", func := "loop.example/g00758/laws.FnExactNullableOf", spec := "fnExactNullableOf", unfollowed := true, recurses := true, apart := false, narrowed := true }
def FnExactNullableOfUptoSaid : Prop := fnExactNullableOfUptoRow.holds Try.pinned (OpenSpec.upto fnExactNullableOfSpec)

/-- 'laws.FnExactProductiveOf', WHERE WHAT IT READS IS OF BULK AT MOST 1048576: true; the input reads as it did. -/
def fnExactProductiveOfUptoRow : OpenClaim := { program := "ytohbdjdjjbieeaa", sum := "a488b3ae8da613af9ea2925ca664b7294b7edc7d0472ad466bd5b1ffb7bd7e0d", func := "loop.example/g00758/laws.FnExactProductiveOf", spec := "fnExactProductiveOf", unfollowed := true, recurses := true, apart := false, narrowed := true }
def FnExactProductiveOfUptoSaid : Prop := fnExactProductiveOfUptoRow.holds Try.pinned (OpenSpec.upto fnExactProductiveOfSpec)

/-- 'laws.FnExactGrowingOf', WHERE WHAT IT READS IS OF BULK AT MOST 1048576: true; the input reads as it did. -/
def fnExactGrowingOfUptoRow : OpenClaim := { program := "ytohbdjdjjbieeaa", sum := "a488b3ae8da613af9ea2925ca664b7294b7edc7d0472ad466bd5b1ffb7bd7e0d", func := "loop.example/g00758/laws.FnExactGrowingOf", spec := "fnExactGrowingOf", unfollowed := true, recurses := true, apart := false, narrowed := true }
def FnExactGrowingOfUptoSaid : Prop := fnExactGrowingOfUptoRow.holds Try.pinned (OpenSpec.upto fnExactGrowingOfSpec)

/-- 'laws.FnExactIsUseful', WHERE WHAT IT READS IS OF BULK AT MOST 1048576: true; the input reads as it did. -/
def fnExactIsUsefulUptoRow : OpenClaim := { program := "ytohbdjdjjbieeaa", sum := "a488b3ae8da613af9ea2925ca664b7294b7edc7d0472ad466bd5b1ffb7bd7e0d", func := "loop.example/g00758/laws.FnExactIsUseful", spec := "fnExactIsUseful", unfollowed := true, recurses := true, apart := false, narrowed := true }
def FnExactIsUsefulUptoSaid : Prop := fnExactIsUsefulUptoRow.holds Try.pinned (OpenSpec.upto fnExactIsUsefulSpec)

/-- 'laws.FnExactUsefulOf', WHERE WHAT IT READS IS OF BULK AT MOST 1048576: true; the input reads as it did. -/
def fnExactUsefulOfUptoRow : OpenClaim := { program := "ytohbdjdjjbieeaa", sum := "a488b3ae8da613af9ea2925ca664b7294b7edc7d0472ad466bd5b1ffb7bd7e0d", func := "loop.example/g00758/laws.FnExactUsefulOf", spec := "fnExactUsefulOf", unfollowed := true, recurses := true, apart := false, narrowed := true }
def FnExactUsefulOfUptoSaid : Prop := fnExactUsefulOfUptoRow.holds Try.pinned (OpenSpec.upto fnExactUsefulOfSpec)

/-- 'laws.FnExactIsFinite', WHERE WHAT IT READS IS OF BULK AT MOST 1048576: true; the input reads as it did. -/
def fnExactIsFiniteUptoRow : OpenClaim := { program := "ytohbdjdjjbieeaa", sum := "a488b3ae8da613af9ea2925ca664b7294b7edc7d0472ad466bd5b1ffb7bd7e0d", func := "loop.example/g00758/laws.FnExactIsFinite", spec := "fnExactIsFinite", unfollowed := true, recurses := true, apart := false, narrowed := true }
def FnExactIsFiniteUptoSaid : Prop := fnExactIsFiniteUptoRow.holds Try.pinned (OpenSpec.upto fnExactIsFiniteSpec)

end Rows
end Go.Proofs.Ytohbdjdjjbieeaa
