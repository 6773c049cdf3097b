/-
  No cell of these rows narrows 'for every input' (looked for: loops, veiled, ifaces, maps, wideKeys, modest, calm, conditions, laid).
  DERIVED. THE GIVEN ROWS OF THIS SEAT. 11 by the template 'for every input the law returns true; each argument reads behind the call as it read before'; 0 by the template 'total and deterministic' (their statements: YtbcfoljdejmigaaTotals.lean).
  GIVEN WITH THE SEED: the statements are not yours to turn. If you find one false, say at which input.
  Laid BY PROGRAM, IN A SANDBOX (cutbox-rows.mjs): the forced cells as the released guide's own fill.sh prints them over the translation d3720ea4b39f21e7… (all of the seat's roots in one cut). By AI agents, Wed Nov 11 2026. No macro, syntax, notation, axiom, sorry.
-/
import Derived.Test.YtbcfoljdejmigaaChecked
import GoSem.Claim
import GoSem.ClaimJoined
import GoSem.ClaimMapViews
import Derived.JoinedTies
import Derived.KernelRfl
namespace Go.Proofs.Ytbcfoljdejmigaa
/- THE CELL 'sum', in the pinned program and in every row, IS THE sha256 OF THE DUMP (.gsa) THAT YtbcfoljdejmigaaProg.lean LOADS. Nothing in Lean hashes anything: it is a label: what it is worth is what the hold of that sum in a sandbox is worth. -/
noncomputable def Try.pinned : Pinned := { name := "ytbcfoljdejmigaa", sum := "d3720ea4b39f21e72d439e4f5b0a47140e48dfb23cacdc246cea18f2e0fbba11", checked := Try.checked }
namespace Rows
def none {H : Type} : Left H := { results := [], args := [] }

/-- 'laws.FnExactGoodGrammar': WHATEVER THE INPUT: true; the input reads as it did. -/
def fnExactGoodGrammarSpec : ChangeSpec := { name := "fnExactGoodGrammar", fn := fun _ => fun
  | [d] => { results := [.lit (.bool true)], args := [d] }
  | _ => none }
def fnExactGoodGrammarRow : OpenClaim := { program := "ytbcfoljdejmigaa", sum := "d3720ea4b39f21e72d439e4f5b0a47140e48dfb23cacdc246cea18f2e0fbba11", func := "loop.example/g00758/laws.FnExactGoodGrammar", spec := "fnExactGoodGrammar", unfollowed := true, recurses := true, apart := false }
def FnExactGoodGrammarSaid : Prop := fnExactGoodGrammarRow.holds Try.pinned (OpenSpec.ofChange fnExactGoodGrammarSpec)

/-- ITS FALSE NEIGHBOUR: 'it returns false'. Refute it at one input. -/
def fnExactGoodGrammarWrong : ChangeSpec := { name := "fnExactGoodGrammar", fn := fun _ => fun
  | [d] => { results := [.lit (.bool false)], args := [d] }
  | _ => none }
def FnExactGoodGrammarWrongFalsely : Prop := fnExactGoodGrammarRow.holds Try.pinned (OpenSpec.ofChange fnExactGoodGrammarWrong)

/-- 'laws.FnExactGoodWord': WHATEVER THE INPUT: true; the input reads as it did. -/
def fnExactGoodWordSpec : ChangeSpec := { name := "fnExactGoodWord", fn := fun _ => fun
  | [d1, d2] => { results := [.lit (.bool true)], args := [d1, d2] }
  | _ => none }
def fnExactGoodWordRow : OpenClaim := { program := "ytbcfoljdejmigaa", sum := "d3720ea4b39f21e72d439e4f5b0a47140e48dfb23cacdc246cea18f2e0fbba11", func := "loop.example/g00758/laws.FnExactGoodWord", spec := "fnExactGoodWord", unfollowed := true, recurses := true, apart := false }
def FnExactGoodWordSaid : Prop := fnExactGoodWordRow.holds Try.pinned (OpenSpec.ofChange fnExactGoodWordSpec)

/-- ITS FALSE NEIGHBOUR: 'it returns false'. Refute it at one input. -/
def fnExactGoodWordWrong : ChangeSpec := { name := "fnExactGoodWord", fn := fun _ => fun
  | [d1, d2] => { results := [.lit (.bool false)], args := [d1, d2] }
  | _ => none }
def FnExactGoodWordWrongFalsely : Prop := fnExactGoodWordRow.holds Try.pinned (OpenSpec.ofChange fnExactGoodWordWrong)

/-- 'laws.FnExactSizeOf': WHATEVER THE INPUT: true; the input reads as it did. -/
def fnExactSizeOfSpec : ChangeSpec := { name := "fnExactSizeOf", fn := fun _ => fun
  | [d] => { results := [.lit (.bool true)], args := [d] }
  | _ => none }
def fnExactSizeOfRow : OpenClaim := { program := "ytbcfoljdejmigaa", sum := "d3720ea4b39f21e72d439e4f5b0a47140e48dfb23cacdc246cea18f2e0fbba11", func := "loop.example/g00758/laws.FnExactSizeOf", spec := "fnExactSizeOf", unfollowed := true, recurses := true, apart := false }
def FnExactSizeOfSaid : Prop := fnExactSizeOfRow.holds Try.pinned (OpenSpec.ofChange fnExactSizeOfSpec)

/-- ITS FALSE NEIGHBOUR: 'it returns false'. Refute it at one input. -/
def fnExactSizeOfWrong : ChangeSpec := { name := "fnExactSizeOf", fn := fun _ => fun
  | [d] => { results := [.lit (.bool false)], args := [d] }
  | _ => none }
def FnExactSizeOfWrongFalsely : Prop := fnExactSizeOfRow.holds Try.pinned (OpenSpec.ofChange fnExactSizeOfWrong)

/-- 'laws.FnExactSameGrammar': WHATEVER THE INPUT: true; the input reads as it did. -/
def fnExactSameGrammarSpec : ChangeSpec := { name := "fnExactSameGrammar", fn := fun _ => fun
  | [d1, d2] => { results := [.lit (.bool true)], args := [d1, d2] }
  | _ => none }
def fnExactSameGrammarRow : OpenClaim := { program := "ytbcfoljdejmigaa", sum := "d3720ea4b39f21e72d439e4f5b0a47140e48dfb23cacdc246cea18f2e0fbba11", func := "loop.example/g00758/laws.FnExactSameGrammar", spec := "fnExactSameGrammar", unfollowed := true, recurses := true, apart := false }
def FnExactSameGrammarSaid : Prop := fnExactSameGrammarRow.holds Try.pinned (OpenSpec.ofChange fnExactSameGrammarSpec)

/-- ITS FALSE NEIGHBOUR: 'it returns false'. Refute it at one input. -/
def fnExactSameGrammarWrong : ChangeSpec := { name := "fnExactSameGrammar", fn := fun _ => fun
  | [d1, d2] => { results := [.lit (.bool false)], args := [d1, d2] }
  | _ => none }
def FnExactSameGrammarWrongFalsely : Prop := fnExactSameGrammarRow.holds Try.pinned (OpenSpec.ofChange fnExactSameGrammarWrong)

/-- 'laws.FnExactRulesOf': WHATEVER THE INPUT: true; the input reads as it did. -/
def fnExactRulesOfSpec : ChangeSpec := { name := "fnExactRulesOf", fn := fun _ => fun
  | [d1, d2] => { results := [.lit (.bool true)], args := [d1, d2] }
  | _ => none }
def fnExactRulesOfRow : OpenClaim := { program := "ytbcfoljdejmigaa", sum := "d3720ea4b39f21e72d439e4f5b0a47140e48dfb23cacdc246cea18f2e0fbba11", func := "loop.example/g00758/laws.FnExactRulesOf", spec := "fnExactRulesOf", unfollowed := true, recurses := true, apart := false }
def FnExactRulesOfSaid : Prop := fnExactRulesOfRow.holds Try.pinned (OpenSpec.ofChange fnExactRulesOfSpec)

/-- ITS FALSE NEIGHBOUR: 'it returns false'. Refute it at one input. -/
def fnExactRulesOfWrong : ChangeSpec := { name := "fnExactRulesOf", fn := fun _ => fun
  | [d1, d2] => { results := [.lit (.bool false)], args := [d1, d2] }
  | _ => none }
def FnExactRulesOfWrongFalsely : Prop := fnExactRulesOfRow.holds Try.pinned (OpenSpec.ofChange fnExactRulesOfWrong)

/-- 'laws.FnExactReadWord': WHATEVER THE INPUT: true; the input reads as it did. -/
def fnExactReadWordSpec : ChangeSpec := { name := "fnExactReadWord", fn := fun _ => fun
  | [d1, d2] => { results := [.lit (.bool true)], args := [d1, d2] }
  | _ => none }
def fnExactReadWordRow : OpenClaim := { program := "ytbcfoljdejmigaa", sum := "d3720ea4b39f21e72d439e4f5b0a47140e48dfb23cacdc246cea18f2e0fbba11", func := "loop.example/g00758/laws.FnExactReadWord", spec := "fnExactReadWord", unfollowed := true, recurses := true, apart := false }
def FnExactReadWordSaid : Prop := fnExactReadWordRow.holds Try.pinned (OpenSpec.ofChange fnExactReadWordSpec)

/-- ITS FALSE NEIGHBOUR: 'it returns false'. Refute it at one input. -/
def fnExactReadWordWrong : ChangeSpec := { name := "fnExactReadWord", fn := fun _ => fun
  | [d1, d2] => { results := [.lit (.bool false)], args := [d1, d2] }
  | _ => none }
def FnExactReadWordWrongFalsely : Prop := fnExactReadWordRow.holds Try.pinned (OpenSpec.ofChange fnExactReadWordWrong)

/-- 'laws.FnExactWordText': WHATEVER THE INPUT: true; the input reads as it did. -/
def fnExactWordTextSpec : ChangeSpec := { name := "fnExactWordText", fn := fun _ => fun
  | [d1, d2] => { results := [.lit (.bool true)], args := [d1, d2] }
  | _ => none }
def fnExactWordTextRow : OpenClaim := { program := "ytbcfoljdejmigaa", sum := "d3720ea4b39f21e72d439e4f5b0a47140e48dfb23cacdc246cea18f2e0fbba11", func := "loop.example/g00758/laws.FnExactWordText", spec := "fnExactWordText", unfollowed := true, recurses := true, apart := false }
def FnExactWordTextSaid : Prop := fnExactWordTextRow.holds Try.pinned (OpenSpec.ofChange fnExactWordTextSpec)

/-- ITS FALSE NEIGHBOUR: 'it returns false'. Refute it at one input. -/
def fnExactWordTextWrong : ChangeSpec := { name := "fnExactWordText", fn := fun _ => fun
  | [d1, d2] => { results := [.lit (.bool false)], args := [d1, d2] }
  | _ => none }
def FnExactWordTextWrongFalsely : Prop := fnExactWordTextRow.holds Try.pinned (OpenSpec.ofChange fnExactWordTextWrong)

/-- 'laws.FnExactReadGrammar': WHATEVER THE INPUT: true; the input reads as it did. -/
def fnExactReadGrammarSpec : ChangeSpec := { name := "fnExactReadGrammar", fn := fun _ => fun
  | [d] => { results := [.lit (.bool true)], args := [d] }
  | _ => none }
def fnExactReadGrammarRow : OpenClaim := { program := "ytbcfoljdejmigaa", sum := "d3720ea4b39f21e72d439e4f5b0a47140e48dfb23cacdc246cea18f2e0fbba11", func := "loop.example/g00758/laws.FnExactReadGrammar", spec := "fnExactReadGrammar", inPlace := ["internal/bytealg.IndexByteString"], unfollowed := true, recurses := true, apart := false }
def FnExactReadGrammarSaid : Prop := fnExactReadGrammarRow.holds Try.pinned (OpenSpec.ofChange fnExactReadGrammarSpec)

/-- ITS FALSE NEIGHBOUR: 'it returns false'. Refute it at one input. -/
def fnExactReadGrammarWrong : ChangeSpec := { name := "fnExactReadGrammar", fn := fun _ => fun
  | [d] => { results := [.lit (.bool false)], args := [d] }
  | _ => none }
def FnExactReadGrammarWrongFalsely : Prop := fnExactReadGrammarRow.holds Try.pinned (OpenSpec.ofChange fnExactReadGrammarWrong)

/-- 'laws.FnExactWithoutRule': WHATEVER THE INPUT: true; the input reads as it did. -/
def fnExactWithoutRuleSpec : ChangeSpec := { name := "fnExactWithoutRule", fn := fun _ => fun
  | [d1, d2] => { results := [.lit (.bool true)], args := [d1, d2] }
  | _ => none }
def fnExactWithoutRuleRow : OpenClaim := { program := "ytbcfoljdejmigaa", sum := "d3720ea4b39f21e72d439e4f5b0a47140e48dfb23cacdc246cea18f2e0fbba11", func := "loop.example/g00758/laws.FnExactWithoutRule", spec := "fnExactWithoutRule", unfollowed := true, recurses := true, apart := false }
def FnExactWithoutRuleSaid : Prop := fnExactWithoutRuleRow.holds Try.pinned (OpenSpec.ofChange fnExactWithoutRuleSpec)

/-- ITS FALSE NEIGHBOUR: 'it returns false'. Refute it at one input. -/
def fnExactWithoutRuleWrong : ChangeSpec := { name := "fnExactWithoutRule", fn := fun _ => fun
  | [d1, d2] => { results := [.lit (.bool false)], args := [d1, d2] }
  | _ => none }
def FnExactWithoutRuleWrongFalsely : Prop := fnExactWithoutRuleRow.holds Try.pinned (OpenSpec.ofChange fnExactWithoutRuleWrong)

/-- 'laws.FnExactReverseOf': WHATEVER THE INPUT: true; the input reads as it did. -/
def fnExactReverseOfSpec : ChangeSpec := { name := "fnExactReverseOf", fn := fun _ => fun
  | [d] => { results := [.lit (.bool true)], args := [d] }
  | _ => none }
def fnExactReverseOfRow : OpenClaim := { program := "ytbcfoljdejmigaa", sum := "d3720ea4b39f21e72d439e4f5b0a47140e48dfb23cacdc246cea18f2e0fbba11", func := "loop.example/g00758/laws.FnExactReverseOf", spec := "fnExactReverseOf", unfollowed := true, recurses := true, apart := false }
def FnExactReverseOfSaid : Prop := fnExactReverseOfRow.holds Try.pinned (OpenSpec.ofChange fnExactReverseOfSpec)

/-- ITS FALSE NEIGHBOUR: 'it returns false'. Refute it at one input. -/
def fnExactReverseOfWrong : ChangeSpec := { name := "fnExactReverseOf", fn := fun _ => fun
  | [d] => { results := [.lit (.bool false)], args := [d] }
  | _ => none }
def FnExactReverseOfWrongFalsely : Prop := fnExactReverseOfRow.holds Try.pinned (OpenSpec.ofChange fnExactReverseOfWrong)

/-- 'laws.FnExactRenameNons': WHATEVER THE INPUT: true; the input reads as it did. -/
def fnExactRenameNonsSpec : ChangeSpec := { name := "fnExactRenameNons", fn := fun _ => fun
  | [d1, d2] => { results := [.lit (.bool true)], args := [d1, d2] }
  | _ => none }
def fnExactRenameNonsRow : OpenClaim := { program := "ytbcfoljdejmigaa", sum := "d3720ea4b39f21e72d439e4f5b0a47140e48dfb23cacdc246cea18f2e0fbba11", func := "loop.example/g00758/laws.FnExactRenameNons", spec := "fnExactRenameNons", unfollowed := true, recurses := true, apart := false }
def FnExactRenameNonsSaid : Prop := fnExactRenameNonsRow.holds Try.pinned (OpenSpec.ofChange fnExactRenameNonsSpec)

/-- ITS FALSE NEIGHBOUR: 'it returns false'. Refute it at one input. -/
def fnExactRenameNonsWrong : ChangeSpec := { name := "fnExactRenameNons", fn := fun _ => fun
  | [d1, d2] => { results := [.lit (.bool false)], args := [d1, d2] }
  | _ => none }
def FnExactRenameNonsWrongFalsely : Prop := fnExactRenameNonsRow.holds Try.pinned (OpenSpec.ofChange fnExactRenameNonsWrong)

/- THE SECOND FORM. 'bulk': how many values and letters a reading holds, each counted each time it is reached (what is shared counts as often as it is met; a slice's spare places count too). A statement '..UptoSaid' is the law's where the arguments, and the package variables that the reading takes, are together of bulk at most 1048576: NARROWER than '..Said'. Prove '..Said' where nothing that the law and all that it calls make is longer than what came in: it says more and counts as full. Else prove '..UptoSaid'. A law counts once. -/
mutual
def uptoBulk {H : Type} : DataW H → Nat
  | .lit (.string bytes) => bytes.length + 1
  | .lit _ => 1
  | .nil => 1
  | .ptr d => uptoBulk d + 1
  | .slice elems spare => uptoBulkAll elems + uptoBulkAll spare + 1
  | .agg parts => uptoBulkAll parts + 1
  | .iface _ d => uptoBulk d + 1
  | .map entries => uptoBulkEntries entries + 1
  | .held _ => 1
def uptoBulkAll {H : Type} : List (DataW H) → Nat
  | [] => 0
  | d :: r => uptoBulk d + uptoBulkAll r
def uptoBulkEntries {H : Type} : List (Lit × DataW H) → Nat
  | [] => 0
  | x :: r => uptoBulkEntry x + uptoBulkEntries r
def uptoBulkEntry {H : Type} : Lit × DataW H → Nat
  | (.string bytes, d) => bytes.length + uptoBulk d + 1
  | (_, d) => uptoBulk d + 1
 end
def uptoSmall : (H : Type) → List (DataW H) → Bool := fun _ ds => decide (uptoBulkAll ds ≤ 1048576)
def OpenSpec.upto (s : _root_.Go.ChangeSpec) : _root_.Go.OpenSpec := { _root_.Go.OpenSpec.ofChange s with cond := some uptoSmall }

/-- 'laws.FnExactGoodGrammar', WHERE WHAT IT READS IS OF BULK AT MOST 1048576: true; the input reads as it did. -/
def fnExactGoodGrammarUptoRow : OpenClaim := { program := "ytbcfoljdejmigaa", sum := "d3720ea4b39f21e72d439e4f5b0a47140e48dfb23cacdc246cea18f2e0fbba11", func := "loop.example/g00758/laws.FnExactGoodGrammar", spec := "fnExactGoodGrammar", unfollowed := true, recurses := true, apart := false, narrowed := true }
def FnExactGoodGrammarUptoSaid : Prop := fnExactGoodGrammarUptoRow.holds Try.pinned (OpenSpec.upto fnExactGoodGrammarSpec)

/-- 'laws.FnExactGoodWord', WHERE WHAT IT READS IS OF BULK AT MOST 1048576: true; the input reads as it did. -/
def fnExactGoodWordUptoRow : OpenClaim := { program := "ytbcfoljdejmigaa", sum := "d3720ea4b39f21e72d439e4f5b0a47140e48dfb23cacdc246cea18f2e0fbba11", func := "loop.example/g00758/laws.FnExactGoodWord", spec := "fnExactGoodWord", unfollowed := true, recurses := true, apart := false, narrowed := true }
def FnExactGoodWordUptoSaid : Prop := fnExactGoodWordUptoRow.holds Try.pinned (OpenSpec.upto fnExactGoodWordSpec)

/-- 'laws.FnExactSizeOf', WHERE WHAT IT READS IS OF BULK AT MOST 1048576: true; the input reads as it did. -/
def fnExactSizeOfUptoRow : OpenClaim := { program := "ytbcfoljdejmigaa", sum := "d3720ea4b39f21e72d439e4f5b0a47140e48dfb23cacdc246cea18f2e0fbba11", func := "loop.example/g00758/laws.FnExactSizeOf", spec := "fnExactSizeOf", unfollowed := true, recurses := true, apart := false, narrowed := true }
def FnExactSizeOfUptoSaid : Prop := fnExactSizeOfUptoRow.holds Try.pinned (OpenSpec.upto fnExactSizeOfSpec)

/-- 'laws.FnExactSameGrammar', WHERE WHAT IT READS IS OF BULK AT MOST 1048576: true; the input reads as it did. -/
def fnExactSameGrammarUptoRow : OpenClaim := { program := "ytbcfoljdejmigaa", sum := "d3720ea4b39f21e72d439e4f5b0a47140e48dfb23cacdc246cea18f2e0fbba11", func := "loop.example/g00758/laws.FnExactSameGrammar", spec := "fnExactSameGrammar", unfollowed := true, recurses := true, apart := false, narrowed := true }
def FnExactSameGrammarUptoSaid : Prop := fnExactSameGrammarUptoRow.holds Try.pinned (OpenSpec.upto fnExactSameGrammarSpec)

/-- 'laws.FnExactRulesOf', WHERE WHAT IT READS IS OF BULK AT MOST 1048576: true; the input reads as it did. -/
def fnExactRulesOfUptoRow : OpenClaim := { program := "ytbcfoljdejmigaa", sum := "d3720ea4b39f21e72d439e4f5b0a47140e48dfb23cacdc246cea18f2e0fbba11", func := "loop.example/g00758/laws.FnExactRulesOf", spec := "fnExactRulesOf", unfollowed := true, recurses := true, apart := false, narrowed := true }
def FnExactRulesOfUptoSaid : Prop := fnExactRulesOfUptoRow.holds Try.pinned (OpenSpec.upto fnExactRulesOfSpec)

/-- 'laws.FnExactReadWord', WHERE WHAT IT READS IS OF BULK AT MOST 1048576: true; the input reads as it did. -/
def fnExactReadWordUptoRow : OpenClaim := { program := "ytbcfoljdejmigaa", sum := "d3720ea4b39f21e72d439e4f5b0a47140e48dfb23cacdc246cea18f2e0fbba11", func := "loop.example/g00758/laws.FnExactReadWord", spec := "fnExactReadWord", unfollowed := true, recurses := true, apart := false, narrowed := true }
def FnExactReadWordUptoSaid : Prop := fnExactReadWordUptoRow.holds Try.pinned (OpenSpec.upto fnExactReadWordSpec)

/-- 'laws.FnExactWordText', WHERE WHAT IT READS IS OF BULK AT MOST 1048576: true; the input reads as it did. -/
def fnExactWordTextUptoRow : OpenClaim := { program := "ytbcfoljdejmigaa", sum := "d3720ea4b39f21e72d439e4f5b0a47140e48dfb23cacdc246cea18f2e0fbba11", func := "loop.example/g00758/laws.FnExactWordText", spec := "fnExactWordText", unfollowed := true, recurses := true, apart := false, narrowed := true }
def FnExactWordTextUptoSaid : Prop := fnExactWordTextUptoRow.holds Try.pinned (OpenSpec.upto fnExactWordTextSpec)

/-- 'laws.FnExactReadGrammar', WHERE WHAT IT READS IS OF BULK AT MOST 1048576: true; the input reads as it did. -/
def fnExactReadGrammarUptoRow : OpenClaim := { program := "ytbcfoljdejmigaa", sum := "d3720ea4b39f21e72d439e4f5b0a47140e48dfb23cacdc246cea18f2e0fbba11", func := "loop.example/g00758/laws.FnExactReadGrammar", spec := "fnExactReadGrammar", inPlace := ["internal/bytealg.IndexByteString"], unfollowed := true, recurses := true, apart := false, narrowed := true }
def FnExactReadGrammarUptoSaid : Prop := fnExactReadGrammarUptoRow.holds Try.pinned (OpenSpec.upto fnExactReadGrammarSpec)

/-- 'laws.FnExactWithoutRule', WHERE WHAT IT READS IS OF BULK AT MOST 1048576: true; the input reads as it did. -/
def fnExactWithoutRuleUptoRow : OpenClaim := { program := "ytbcfoljdejmigaa", sum := "d3720ea4b39f21e72d439e4f5b0a47140e48dfb23cacdc246cea18f2e0fbba11", func := "loop.example/g00758/laws.FnExactWithoutRule", spec := "fnExactWithoutRule", unfollowed := true, recurses := true, apart := false, narrowed := true }
def FnExactWithoutRuleUptoSaid : Prop := fnExactWithoutRuleUptoRow.holds Try.pinned (OpenSpec.upto fnExactWithoutRuleSpec)

/-- 'laws.FnExactReverseOf', WHERE WHAT IT READS IS OF BULK AT MOST 1048576: true; the input reads as it did. -/
def fnExactReverseOfUptoRow : OpenClaim := { program := "ytbcfoljdejmigaa", sum := "d3720ea4b39f21e72d439e4f5b0a47140e48dfb23cacdc246cea18f2e0fbba11", func := "loop.example/g00758/laws.FnExactReverseOf", spec := "fnExactReverseOf", unfollowed := true, recurses := true, apart := false, narrowed := true }
def FnExactReverseOfUptoSaid : Prop := fnExactReverseOfUptoRow.holds Try.pinned (OpenSpec.upto fnExactReverseOfSpec)

/-- 'laws.FnExactRenameNons', WHERE WHAT IT READS IS OF BULK AT MOST 1048576: true; the input reads as it did. -/
def fnExactRenameNonsUptoRow : OpenClaim := { program := "ytbcfoljdejmigaa", sum := "d3720ea4b39f21e72d439e4f5b0a47140e48dfb23cacdc246cea18f2e0fbba11", func := "loop.example/g00758/laws.FnExactRenameNons", spec := "fnExactRenameNons", unfollowed := true, recurses := true, apart := false, narrowed := true }
def FnExactRenameNonsUptoSaid : Prop := fnExactRenameNonsUptoRow.holds Try.pinned (OpenSpec.upto fnExactRenameNonsSpec)

end Rows
end Go.Proofs.Ytbcfoljdejmigaa
