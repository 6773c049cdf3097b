/-
  No cell of these rows narrows 'for every input' (looked for: loops, veiled, ifaces, maps, wideKeys, modest, calm, conditions, laid).
  DERIVED. THE GIVEN ROWS OF THIS SEAT. 12 by the template 'for every input the law returns true; each argument reads behind the call as it read before'; 0 by the template 'total and deterministic' (their statements: YtekoclhnfhbmeaaTotals.lean).
  GIVEN WITH THE SEED: the statements are not yours to turn. If you find one false, say at which input.
  Laid BY PROGRAM, IN A SANDBOX (cutbox-rows.mjs): the forced cells as the released guide's own fill.sh prints them over the translation b300e794839bdc13… (all of the seat's roots in one cut). By AI agents, Wed Nov 11 2026. No macro, syntax, notation, axiom, sorry.
-/
import Derived.Test.YtekoclhnfhbmeaaChecked
import GoSem.Claim
import GoSem.ClaimJoined
import GoSem.ClaimMapViews
import Derived.JoinedTies
import Derived.KernelRfl
namespace Go.Proofs.Ytekoclhnfhbmeaa
/- THE CELL 'sum', in the pinned program and in every row, IS THE sha256 OF THE DUMP (.gsa) THAT YtekoclhnfhbmeaaProg.lean LOADS. Nothing in Lean hashes anything: it is a label: what it is worth is what the hold of that sum in a sandbox is worth. -/
noncomputable def Try.pinned : Pinned := { name := "ytekoclhnfhbmeaa", sum := "b300e794839bdc13561410e3c29dd998d165e5a021c5ef3dea2a2130bcb48436", checked := Try.checked }
namespace Rows
def none {H : Type} : Left H := { results := [], args := [] }

/-- 'laws.FnExactUsefulOf': WHATEVER THE INPUT: true; the input reads as it did. -/
def fnExactUsefulOfSpec : ChangeSpec := { name := "fnExactUsefulOf", fn := fun _ => fun
  | [d] => { results := [.lit (.bool true)], args := [d] }
  | _ => none }
def fnExactUsefulOfRow : OpenClaim := { program := "ytekoclhnfhbmeaa", sum := "b300e794839bdc13561410e3c29dd998d165e5a021c5ef3dea2a2130bcb48436", func := "loop.example/g00758/laws.FnExactUsefulOf", spec := "fnExactUsefulOf", unfollowed := true, recurses := true, apart := false }
def FnExactUsefulOfSaid : Prop := fnExactUsefulOfRow.holds Try.pinned (OpenSpec.ofChange fnExactUsefulOfSpec)

/-- ITS FALSE NEIGHBOUR: 'it returns false'. Refute it at one input. -/
def fnExactUsefulOfWrong : ChangeSpec := { name := "fnExactUsefulOf", fn := fun _ => fun
  | [d] => { results := [.lit (.bool false)], args := [d] }
  | _ => none }
def FnExactUsefulOfWrongFalsely : Prop := fnExactUsefulOfRow.holds Try.pinned (OpenSpec.ofChange fnExactUsefulOfWrong)

/-- 'laws.FnExactIsFinite': WHATEVER THE INPUT: true; the input reads as it did. -/
def fnExactIsFiniteSpec : ChangeSpec := { name := "fnExactIsFinite", fn := fun _ => fun
  | [d] => { results := [.lit (.bool true)], args := [d] }
  | _ => none }
def fnExactIsFiniteRow : OpenClaim := { program := "ytekoclhnfhbmeaa", sum := "b300e794839bdc13561410e3c29dd998d165e5a021c5ef3dea2a2130bcb48436", func := "loop.example/g00758/laws.FnExactIsFinite", spec := "fnExactIsFinite", unfollowed := true, recurses := true, apart := false }
def FnExactIsFiniteSaid : Prop := fnExactIsFiniteRow.holds Try.pinned (OpenSpec.ofChange fnExactIsFiniteSpec)

/-- ITS FALSE NEIGHBOUR: 'it returns false'. Refute it at one input. -/
def fnExactIsFiniteWrong : ChangeSpec := { name := "fnExactIsFinite", fn := fun _ => fun
  | [d] => { results := [.lit (.bool false)], args := [d] }
  | _ => none }
def FnExactIsFiniteWrongFalsely : Prop := fnExactIsFiniteRow.holds Try.pinned (OpenSpec.ofChange fnExactIsFiniteWrong)

/-- 'laws.FnExactDerives': WHATEVER THE INPUT: true; the input reads as it did. -/
def fnExactDerivesSpec : ChangeSpec := { name := "fnExactDerives", fn := fun _ => fun
  | [d1, d2, d3] => { results := [.lit (.bool true)], args := [d1, d2, d3] }
  | _ => none }
def fnExactDerivesRow : OpenClaim := { program := "ytekoclhnfhbmeaa", sum := "b300e794839bdc13561410e3c29dd998d165e5a021c5ef3dea2a2130bcb48436", func := "loop.example/g00758/laws.FnExactDerives", spec := "fnExactDerives", unfollowed := true, recurses := true, apart := false }
def FnExactDerivesSaid : Prop := fnExactDerivesRow.holds Try.pinned (OpenSpec.ofChange fnExactDerivesSpec)

/-- ITS FALSE NEIGHBOUR: 'it returns false'. Refute it at one input. -/
def fnExactDerivesWrong : ChangeSpec := { name := "fnExactDerives", fn := fun _ => fun
  | [d1, d2, d3] => { results := [.lit (.bool false)], args := [d1, d2, d3] }
  | _ => none }
def FnExactDerivesWrongFalsely : Prop := fnExactDerivesRow.holds Try.pinned (OpenSpec.ofChange fnExactDerivesWrong)

/-- 'laws.FnExactInLanguage': WHATEVER THE INPUT: true; the input reads as it did. -/
def fnExactInLanguageSpec : ChangeSpec := { name := "fnExactInLanguage", fn := fun _ => fun
  | [d1, d2] => { results := [.lit (.bool true)], args := [d1, d2] }
  | _ => none }
def fnExactInLanguageRow : OpenClaim := { program := "ytekoclhnfhbmeaa", sum := "b300e794839bdc13561410e3c29dd998d165e5a021c5ef3dea2a2130bcb48436", func := "loop.example/g00758/laws.FnExactInLanguage", spec := "fnExactInLanguage", unfollowed := true, recurses := true, apart := false }
def FnExactInLanguageSaid : Prop := fnExactInLanguageRow.holds Try.pinned (OpenSpec.ofChange fnExactInLanguageSpec)

/-- ITS FALSE NEIGHBOUR: 'it returns false'. Refute it at one input. -/
def fnExactInLanguageWrong : ChangeSpec := { name := "fnExactInLanguage", fn := fun _ => fun
  | [d1, d2] => { results := [.lit (.bool false)], args := [d1, d2] }
  | _ => none }
def FnExactInLanguageWrongFalsely : Prop := fnExactInLanguageRow.holds Try.pinned (OpenSpec.ofChange fnExactInLanguageWrong)

/-- 'laws.FnExactSequenceDerives': WHATEVER THE INPUT: true; the input reads as it did. -/
def fnExactSequenceDerivesSpec : ChangeSpec := { name := "fnExactSequenceDerives", fn := fun _ => fun
  | [d1, d2, d3] => { results := [.lit (.bool true)], args := [d1, d2, d3] }
  | _ => none }
def fnExactSequenceDerivesRow : OpenClaim := { program := "ytekoclhnfhbmeaa", sum := "b300e794839bdc13561410e3c29dd998d165e5a021c5ef3dea2a2130bcb48436", func := "loop.example/g00758/laws.FnExactSequenceDerives", spec := "fnExactSequenceDerives", unfollowed := true, recurses := true, apart := false }
def FnExactSequenceDerivesSaid : Prop := fnExactSequenceDerivesRow.holds Try.pinned (OpenSpec.ofChange fnExactSequenceDerivesSpec)

/-- ITS FALSE NEIGHBOUR: 'it returns false'. Refute it at one input. -/
def fnExactSequenceDerivesWrong : ChangeSpec := { name := "fnExactSequenceDerives", fn := fun _ => fun
  | [d1, d2, d3] => { results := [.lit (.bool false)], args := [d1, d2, d3] }
  | _ => none }
def FnExactSequenceDerivesWrongFalsely : Prop := fnExactSequenceDerivesRow.holds Try.pinned (OpenSpec.ofChange fnExactSequenceDerivesWrong)

/-- 'laws.FnExactSpansOf': WHATEVER THE INPUT: true; the input reads as it did. -/
def fnExactSpansOfSpec : ChangeSpec := { name := "fnExactSpansOf", fn := fun _ => fun
  | [d1, d2] => { results := [.lit (.bool true)], args := [d1, d2] }
  | _ => none }
def fnExactSpansOfRow : OpenClaim := { program := "ytekoclhnfhbmeaa", sum := "b300e794839bdc13561410e3c29dd998d165e5a021c5ef3dea2a2130bcb48436", func := "loop.example/g00758/laws.FnExactSpansOf", spec := "fnExactSpansOf", unfollowed := true, recurses := true, apart := false }
def FnExactSpansOfSaid : Prop := fnExactSpansOfRow.holds Try.pinned (OpenSpec.ofChange fnExactSpansOfSpec)

/-- ITS FALSE NEIGHBOUR: 'it returns false'. Refute it at one input. -/
def fnExactSpansOfWrong : ChangeSpec := { name := "fnExactSpansOf", fn := fun _ => fun
  | [d1, d2] => { results := [.lit (.bool false)], args := [d1, d2] }
  | _ => none }
def FnExactSpansOfWrongFalsely : Prop := fnExactSpansOfRow.holds Try.pinned (OpenSpec.ofChange fnExactSpansOfWrong)

/-- 'laws.FnExactShortWords': WHATEVER THE INPUT: true; the input reads as it did. -/
def fnExactShortWordsSpec : ChangeSpec := { name := "fnExactShortWords", fn := fun _ => fun
  | [d1, d2] => { results := [.lit (.bool true)], args := [d1, d2] }
  | _ => none }
def fnExactShortWordsRow : OpenClaim := { program := "ytekoclhnfhbmeaa", sum := "b300e794839bdc13561410e3c29dd998d165e5a021c5ef3dea2a2130bcb48436", func := "loop.example/g00758/laws.FnExactShortWords", spec := "fnExactShortWords", unfollowed := true, recurses := true, apart := false }
def FnExactShortWordsSaid : Prop := fnExactShortWordsRow.holds Try.pinned (OpenSpec.ofChange fnExactShortWordsSpec)

/-- ITS FALSE NEIGHBOUR: 'it returns false'. Refute it at one input. -/
def fnExactShortWordsWrong : ChangeSpec := { name := "fnExactShortWords", fn := fun _ => fun
  | [d1, d2] => { results := [.lit (.bool false)], args := [d1, d2] }
  | _ => none }
def FnExactShortWordsWrongFalsely : Prop := fnExactShortWordsRow.holds Try.pinned (OpenSpec.ofChange fnExactShortWordsWrong)

/-- 'laws.FnExactDeriveStep': WHATEVER THE INPUT: true; the input reads as it did. -/
def fnExactDeriveStepSpec : ChangeSpec := { name := "fnExactDeriveStep", fn := fun _ => fun
  | [d1, d2, d3, d4] => { results := [.lit (.bool true)], args := [d1, d2, d3, d4] }
  | _ => none }
def fnExactDeriveStepRow : OpenClaim := { program := "ytekoclhnfhbmeaa", sum := "b300e794839bdc13561410e3c29dd998d165e5a021c5ef3dea2a2130bcb48436", func := "loop.example/g00758/laws.FnExactDeriveStep", spec := "fnExactDeriveStep", inPlace := ["slices.overlaps[int]"], unfollowed := true, recurses := true, apart := false }
def FnExactDeriveStepSaid : Prop := fnExactDeriveStepRow.holds Try.pinned (OpenSpec.ofChange fnExactDeriveStepSpec)

/-- ITS FALSE NEIGHBOUR: 'it returns false'. Refute it at one input. -/
def fnExactDeriveStepWrong : ChangeSpec := { name := "fnExactDeriveStep", fn := fun _ => fun
  | [d1, d2, d3, d4] => { results := [.lit (.bool false)], args := [d1, d2, d3, d4] }
  | _ => none }
def FnExactDeriveStepWrongFalsely : Prop := fnExactDeriveStepRow.holds Try.pinned (OpenSpec.ofChange fnExactDeriveStepWrong)

/-- 'laws.FnExactRewritesTo': WHATEVER THE INPUT: true; the input reads as it did. -/
def fnExactRewritesToSpec : ChangeSpec := { name := "fnExactRewritesTo", fn := fun _ => fun
  | [d1, d2] => { results := [.lit (.bool true)], args := [d1, d2] }
  | _ => none }
def fnExactRewritesToRow : OpenClaim := { program := "ytekoclhnfhbmeaa", sum := "b300e794839bdc13561410e3c29dd998d165e5a021c5ef3dea2a2130bcb48436", func := "loop.example/g00758/laws.FnExactRewritesTo", spec := "fnExactRewritesTo", inPlace := ["slices.overlaps[int]"], unfollowed := true, recurses := true, apart := false }
def FnExactRewritesToSaid : Prop := fnExactRewritesToRow.holds Try.pinned (OpenSpec.ofChange fnExactRewritesToSpec)

/-- ITS FALSE NEIGHBOUR: 'it returns false'. Refute it at one input. -/
def fnExactRewritesToWrong : ChangeSpec := { name := "fnExactRewritesTo", fn := fun _ => fun
  | [d1, d2] => { results := [.lit (.bool false)], args := [d1, d2] }
  | _ => none }
def FnExactRewritesToWrongFalsely : Prop := fnExactRewritesToRow.holds Try.pinned (OpenSpec.ofChange fnExactRewritesToWrong)

/-- 'laws.FnExactWithoutRule': WHATEVER THE INPUT: true; the input reads as it did. -/
def fnExactWithoutRuleSpec : ChangeSpec := { name := "fnExactWithoutRule", fn := fun _ => fun
  | [d1, d2] => { results := [.lit (.bool true)], args := [d1, d2] }
  | _ => none }
def fnExactWithoutRuleRow : OpenClaim := { program := "ytekoclhnfhbmeaa", sum := "b300e794839bdc13561410e3c29dd998d165e5a021c5ef3dea2a2130bcb48436", func := "loop.example/g00758/laws.FnExactWithoutRule", spec := "fnExactWithoutRule", unfollowed := true, recurses := true, apart := false }
def FnExactWithoutRuleSaid : Prop := fnExactWithoutRuleRow.holds Try.pinned (OpenSpec.ofChange fnExactWithoutRuleSpec)

/-- ITS FALSE NEIGHBOUR: 'it returns false'. Refute it at one input. -/
def fnExactWithoutRuleWrong : ChangeSpec := { name := "fnExactWithoutRule", fn := fun _ => fun
  | [d1, d2] => { results := [.lit (.bool false)], args := [d1, d2] }
  | _ => none }
def FnExactWithoutRuleWrongFalsely : Prop := fnExactWithoutRuleRow.holds Try.pinned (OpenSpec.ofChange fnExactWithoutRuleWrong)

/-- 'laws.FnExactReverseOf': WHATEVER THE INPUT: true; the input reads as it did. -/
def fnExactReverseOfSpec : ChangeSpec := { name := "fnExactReverseOf", fn := fun _ => fun
  | [d] => { results := [.lit (.bool true)], args := [d] }
  | _ => none }
def fnExactReverseOfRow : OpenClaim := { program := "ytekoclhnfhbmeaa", sum := "b300e794839bdc13561410e3c29dd998d165e5a021c5ef3dea2a2130bcb48436", func := "loop.example/g00758/laws.FnExactReverseOf", spec := "fnExactReverseOf", unfollowed := true, recurses := true, apart := false }
def FnExactReverseOfSaid : Prop := fnExactReverseOfRow.holds Try.pinned (OpenSpec.ofChange fnExactReverseOfSpec)

/-- ITS FALSE NEIGHBOUR: 'it returns false'. Refute it at one input. -/
def fnExactReverseOfWrong : ChangeSpec := { name := "fnExactReverseOf", fn := fun _ => fun
  | [d] => { results := [.lit (.bool false)], args := [d] }
  | _ => none }
def FnExactReverseOfWrongFalsely : Prop := fnExactReverseOfRow.holds Try.pinned (OpenSpec.ofChange fnExactReverseOfWrong)

/-- 'laws.FnExactRenameNons': WHATEVER THE INPUT: true; the input reads as it did. -/
def fnExactRenameNonsSpec : ChangeSpec := { name := "fnExactRenameNons", fn := fun _ => fun
  | [d1, d2] => { results := [.lit (.bool true)], args := [d1, d2] }
  | _ => none }
def fnExactRenameNonsRow : OpenClaim := { program := "ytekoclhnfhbmeaa", sum := "b300e794839bdc13561410e3c29dd998d165e5a021c5ef3dea2a2130bcb48436", func := "loop.example/g00758/laws.FnExactRenameNons", spec := "fnExactRenameNons", unfollowed := true, recurses := true, apart := false }
def FnExactRenameNonsSaid : Prop := fnExactRenameNonsRow.holds Try.pinned (OpenSpec.ofChange fnExactRenameNonsSpec)

/-- ITS FALSE NEIGHBOUR: 'it returns false'. Refute it at one input. -/
def fnExactRenameNonsWrong : ChangeSpec := { name := "fnExactRenameNons", fn := fun _ => fun
  | [d1, d2] => { results := [.lit (.bool false)], args := [d1, d2] }
  | _ => none }
def FnExactRenameNonsWrongFalsely : Prop := fnExactRenameNonsRow.holds Try.pinned (OpenSpec.ofChange fnExactRenameNonsWrong)

/- THE SECOND FORM. 'bulk': how many values and letters a reading holds, each counted each time it is reached (what is shared counts as often as it is met; a slice's spare places count too). A statement '..UptoSaid' is the law's where the arguments, and the package variables that the reading takes, are together of bulk at most 1048576: NARROWER than '..Said'. Prove '..Said' where nothing that the law and all that it calls make is longer than what came in: it says more and counts as full. Else prove '..UptoSaid'. A law counts once. -/
mutual
def uptoBulk {H : Type} : DataW H → Nat
  | .lit (.string bytes) => bytes.length + 1
  | .lit _ => 1
  | .nil => 1
  | .ptr d => uptoBulk d + 1
  | .slice elems spare => uptoBulkAll elems + uptoBulkAll spare + 1
  | .agg parts => uptoBulkAll parts + 1
  | .iface _ d => uptoBulk d + 1
  | .map entries => uptoBulkEntries entries + 1
  | .held _ => 1
def uptoBulkAll {H : Type} : List (DataW H) → Nat
  | [] => 0
  | d :: r => uptoBulk d + uptoBulkAll r
def uptoBulkEntries {H : Type} : List (Lit × DataW H) → Nat
  | [] => 0
  | x :: r => uptoBulkEntry x + uptoBulkEntries r
def uptoBulkEntry {H : Type} : Lit × DataW H → Nat
  | (.string bytes, d) => bytes.length + uptoBulk d + 1
  | (_, d) => uptoBulk d + 1
 end
def uptoSmall : (H : Type) → List (DataW H) → Bool := fun _ ds => decide (uptoBulkAll ds ≤ 1048576)
def OpenSpec.upto (s : _root_.Go.ChangeSpec) : _root_.Go.OpenSpec := { _root_.Go.OpenSpec.ofChange s with cond := some uptoSmall }

/-- 'laws.FnExactUsefulOf', WHERE WHAT IT READS IS OF BULK AT MOST 1048576: true; the input reads as it did. -/
def fnExactUsefulOfUptoRow : OpenClaim := { program := "ytekoclhnfhbmeaa", sum := "b300e794839bdc13561410e3c29dd998d165e5a021c5ef3dea2a2130bcb48436", func := "loop.example/g00758/laws.FnExactUsefulOf", spec := "fnExactUsefulOf", unfollowed := true, recurses := true, apart := false, narrowed := true }
def FnExactUsefulOfUptoSaid : Prop := fnExactUsefulOfUptoRow.holds Try.pinned (OpenSpec.upto fnExactUsefulOfSpec)

/-- 'laws.FnExactIsFinite', WHERE WHAT IT READS IS OF BULK AT MOST 1048576: true; the input reads as it did. -/
def fnExactIsFiniteUptoRow : OpenClaim := { program := "ytekoclhnfhbmeaa", sum := "b300e794839bdc13561410e3c29dd998d165e5a021c5ef3dea2a2130bcb48436", func := "loop.example/g00758/laws.FnExactIsFinite", spec := "fnExactIsFinite", unfollowed := true, recurses := true, apart := false, narrowed := true }
def FnExactIsFiniteUptoSaid : Prop := fnExactIsFiniteUptoRow.holds Try.pinned (OpenSpec.upto fnExactIsFiniteSpec)

/-- 'laws.FnExactDerives', WHERE WHAT IT READS IS OF BULK AT MOST 1048576: true; the input reads as it did. -/
def fnExactDerivesUptoRow : OpenClaim := { program := "ytekoclhnfhbmeaa", sum := "b300e794839bdc13561410e3c29dd998d165e5a021c5ef3dea2a2130bcb48436", func := "loop.example/g00758/laws.FnExactDerives", spec := "fnExactDerives", unfollowed := true, recurses := true, apart := false, narrowed := true }
def FnExactDerivesUptoSaid : Prop := fnExactDerivesUptoRow.holds Try.pinned (OpenSpec.upto fnExactDerivesSpec)

/-- 'laws.FnExactInLanguage', WHERE WHAT IT READS IS OF BULK AT MOST 1048576: true; the input reads as it did. -/
def fnExactInLanguageUptoRow : OpenClaim := { program := "ytekoclhnfhbmeaa", sum := "b300e794839bdc13561410e3c29dd998d165e5a021c5ef3dea2a2130bcb48436", func := "loop.example/g00758/laws.FnExactInLanguage", spec := "fnExactInLanguage", unfollowed := true, recurses := true, apart := false, narrowed := true }
def FnExactInLanguageUptoSaid : Prop := fnExactInLanguageUptoRow.holds Try.pinned (OpenSpec.upto fnExactInLanguageSpec)

/-- 'laws.FnExactSequenceDerives', WHERE WHAT IT READS IS OF BULK AT MOST 1048576: true; the input reads as it did. -/
def fnExactSequenceDerivesUptoRow : OpenClaim := { program := "ytekoclhnfhbmeaa", sum := "b300e794839bdc13561410e3c29dd998d165e5a021c5ef3dea2a2130bcb48436", func := "loop.example/g00758/laws.FnExactSequenceDerives", spec := "fnExactSequenceDerives", unfollowed := true, recurses := true, apart := false, narrowed := true }
def FnExactSequenceDerivesUptoSaid : Prop := fnExactSequenceDerivesUptoRow.holds Try.pinned (OpenSpec.upto fnExactSequenceDerivesSpec)

/-- 'laws.FnExactSpansOf', WHERE WHAT IT READS IS OF BULK AT MOST 1048576: true; the input reads as it did. -/
def fnExactSpansOfUptoRow : OpenClaim := { program := "ytekoclhnfhbmeaa", sum := "b300e794839bdc13561410e3c29dd998d165e5a021c5ef3dea2a2130bcb48436", func := "loop.example/g00758/laws.FnExactSpansOf", spec := "fnExactSpansOf", unfollowed := true, recurses := true, apart := false, narrowed := true }
def FnExactSpansOfUptoSaid : Prop := fnExactSpansOfUptoRow.holds Try.pinned (OpenSpec.upto fnExactSpansOfSpec)

/-- 'laws.FnExactShortWords', WHERE WHAT IT READS IS OF BULK AT MOST 1048576: true; the input reads as it did. -/
def fnExactShortWordsUptoRow : OpenClaim := { program := "ytekoclhnfhbmeaa", sum := "b300e794839bdc13561410e3c29dd998d165e5a021c5ef3dea2a2130bcb48436", func := "loop.example/g00758/laws.FnExactShortWords", spec := "fnExactShortWords", unfollowed := true, recurses := true, apart := false, narrowed := true }
def FnExactShortWordsUptoSaid : Prop := fnExactShortWordsUptoRow.holds Try.pinned (OpenSpec.upto fnExactShortWordsSpec)

/-- 'laws.FnExactDeriveStep', WHERE WHAT IT READS IS OF BULK AT MOST 1048576: true; the input reads as it did. -/
def fnExactDeriveStepUptoRow : OpenClaim := { program := "ytekoclhnfhbmeaa", sum := "b300e794839bdc13561410e3c29dd998d165e5a021c5ef3dea2a2130bcb48436", func := "loop.example/g00758/laws.FnExactDeriveStep", spec := "fnExactDeriveStep", inPlace := ["slices.overlaps[int]"], unfollowed := true, recurses := true, apart := false, narrowed := true }
def FnExactDeriveStepUptoSaid : Prop := fnExactDeriveStepUptoRow.holds Try.pinned (OpenSpec.upto fnExactDeriveStepSpec)

/-- 'laws.FnExactRewritesTo', WHERE WHAT IT READS IS OF BULK AT MOST 1048576: true; the input reads as it did. -/
def fnExactRewritesToUptoRow : OpenClaim := { program := "ytekoclhnfhbmeaa", sum := "b300e794839bdc13561410e3c29dd998d165e5a021c5ef3dea2a2130bcb48436", func := "loop.example/g00758/laws.FnExactRewritesTo", spec := "fnExactRewritesTo", inPlace := ["slices.overlaps[int]"], unfollowed := true, recurses := true, apart := false, narrowed := true }
def FnExactRewritesToUptoSaid : Prop := fnExactRewritesToUptoRow.holds Try.pinned (OpenSpec.upto fnExactRewritesToSpec)

/-- 'laws.FnExactWithoutRule', WHERE WHAT IT READS IS OF BULK AT MOST 1048576: true; the input reads as it did. -/
def fnExactWithoutRuleUptoRow : OpenClaim := { program := "ytekoclhnfhbmeaa", sum := "b300e794839bdc13561410e3c29dd998d165e5a021c5ef3dea2a2130bcb48436", func := "loop.example/g00758/laws.FnExactWithoutRule", spec := "fnExactWithoutRule", unfollowed := true, recurses := true, apart := false, narrowed := true }
def FnExactWithoutRuleUptoSaid : Prop := fnExactWithoutRuleUptoRow.holds Try.pinned (OpenSpec.upto fnExactWithoutRuleSpec)

/-- 'laws.FnExactReverseOf', WHERE WHAT IT READS IS OF BULK AT MOST 1048576: true; the input reads as it did. -/
def fnExactReverseOfUptoRow : OpenClaim := { program := "ytekoclhnfhbmeaa", sum := "b300e794839bdc13561410e3c29dd998d165e5a021c5ef3dea2a2130bcb48436", func := "loop.example/g00758/laws.FnExactReverseOf", spec := "fnExactReverseOf", unfollowed := true, recurses := true, apart := false, narrowed := true }
def FnExactReverseOfUptoSaid : Prop := fnExactReverseOfUptoRow.holds Try.pinned (OpenSpec.upto fnExactReverseOfSpec)

/-- 'laws.FnExactRenameNons', WHERE WHAT IT READS IS OF BULK AT MOST 1048576: true; the input reads as it did. -/
def fnExactRenameNonsUptoRow : OpenClaim := { program := "ytekoclhnfhbmeaa", sum := "b300e794839bdc13561410e3c29dd998d165e5a021c5ef3dea2a2130bcb48436", func := "loop.example/g00758/laws.FnExactRenameNons", spec := "fnExactRenameNons", unfollowed := true, recurses := true, apart := false, narrowed := true }
def FnExactRenameNonsUptoSaid : Prop := fnExactRenameNonsUptoRow.holds Try.pinned (OpenSpec.upto fnExactRenameNonsSpec)

end Rows
end Go.Proofs.Ytekoclhnfhbmeaa
