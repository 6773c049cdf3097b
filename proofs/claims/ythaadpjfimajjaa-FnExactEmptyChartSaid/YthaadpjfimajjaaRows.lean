/-
  No cell of these rows narrows 'for every input' (looked for: loops, veiled, ifaces, maps, wideKeys, modest, calm, conditions, laid).
  DERIVED. THE GIVEN ROWS OF THIS SEAT. 6 by the template 'for every input the law returns true; each argument reads behind the call as it read before'; 0 by the template 'total and deterministic' (their statements: YthaadpjfimajjaaTotals.lean).
  GIVEN WITH THE SEED: the statements are not yours to turn. If you find one false, say at which input.
  Laid BY PROGRAM, IN A SANDBOX (cutbox-rows.mjs): the forced cells as the released guide's own fill.sh prints them over the translation 997cd49a0a7892f6… (all of the seat's roots in one cut). By AI agents, Wed Nov 11 2026. No macro, syntax, notation, axiom, sorry.
-/
import Derived.Test.YthaadpjfimajjaaChecked
import GoSem.Claim
import GoSem.ClaimJoined
import GoSem.ClaimMapViews
import Derived.JoinedTies
import Derived.KernelRfl
namespace Go.Proofs.Ythaadpjfimajjaa
/- THE CELL 'sum', in the pinned program and in every row, IS THE sha256 OF THE DUMP (.gsa) THAT YthaadpjfimajjaaProg.lean LOADS. Nothing in Lean hashes anything: it is a label: what it is worth is what the hold of that sum in a sandbox is worth. -/
noncomputable def Try.pinned : Pinned := { name := "ythaadpjfimajjaa", sum := "997cd49a0a7892f6694b3dcf37f853af3c4dca786d3ebaf1e05aa07c2c3ae24c", checked := Try.checked }
namespace Rows
def none {H : Type} : Left H := { results := [], args := [] }

/-- 'laws.FnExactConstants': WHATEVER THE INPUT: true; the input reads as it did. -/
def fnExactConstantsSpec : ChangeSpec := { name := "fnExactConstants", fn := fun _ => fun
  | [] => { results := [.lit (.bool true)], args := [] }
  | _ => none }
def fnExactConstantsRow : OpenClaim := { program := "ythaadpjfimajjaa", sum := "997cd49a0a7892f6694b3dcf37f853af3c4dca786d3ebaf1e05aa07c2c3ae24c", func := "loop.example/g00758/laws.FnExactConstants", spec := "fnExactConstants", apart := false }
def FnExactConstantsSaid : Prop := fnExactConstantsRow.holds Try.pinned (OpenSpec.ofChange fnExactConstantsSpec)

/-- ITS FALSE NEIGHBOUR: 'it returns false'. Refute it at one input. -/
def fnExactConstantsWrong : ChangeSpec := { name := "fnExactConstants", fn := fun _ => fun
  | [] => { results := [.lit (.bool false)], args := [] }
  | _ => none }
def FnExactConstantsWrongFalsely : Prop := fnExactConstantsRow.holds Try.pinned (OpenSpec.ofChange fnExactConstantsWrong)

/-- 'laws.FnExactStepsIn': WHATEVER THE INPUT: true; the input reads as it did. -/
def fnExactStepsInSpec : ChangeSpec := { name := "fnExactStepsIn", fn := fun _ => fun
  | [d1, d2] => { results := [.lit (.bool true)], args := [d1, d2] }
  | _ => none }
def fnExactStepsInRow : OpenClaim := { program := "ythaadpjfimajjaa", sum := "997cd49a0a7892f6694b3dcf37f853af3c4dca786d3ebaf1e05aa07c2c3ae24c", func := "loop.example/g00758/laws.FnExactStepsIn", spec := "fnExactStepsIn", apart := false }
def FnExactStepsInSaid : Prop := fnExactStepsInRow.holds Try.pinned (OpenSpec.ofChange fnExactStepsInSpec)

/-- ITS FALSE NEIGHBOUR: 'it returns false'. Refute it at one input. -/
def fnExactStepsInWrong : ChangeSpec := { name := "fnExactStepsIn", fn := fun _ => fun
  | [d1, d2] => { results := [.lit (.bool false)], args := [d1, d2] }
  | _ => none }
def FnExactStepsInWrongFalsely : Prop := fnExactStepsInRow.holds Try.pinned (OpenSpec.ofChange fnExactStepsInWrong)

/-- 'laws.FnExactSymbolText': WHATEVER THE INPUT: true; the input reads as it did. -/
def fnExactSymbolTextSpec : ChangeSpec := { name := "fnExactSymbolText", fn := fun _ => fun
  | [d] => { results := [.lit (.bool true)], args := [d] }
  | _ => none }
def fnExactSymbolTextRow : OpenClaim := { program := "ythaadpjfimajjaa", sum := "997cd49a0a7892f6694b3dcf37f853af3c4dca786d3ebaf1e05aa07c2c3ae24c", func := "loop.example/g00758/laws.FnExactSymbolText", spec := "fnExactSymbolText", apart := false }
def FnExactSymbolTextSaid : Prop := fnExactSymbolTextRow.holds Try.pinned (OpenSpec.ofChange fnExactSymbolTextSpec)

/-- ITS FALSE NEIGHBOUR: 'it returns false'. Refute it at one input. -/
def fnExactSymbolTextWrong : ChangeSpec := { name := "fnExactSymbolText", fn := fun _ => fun
  | [d] => { results := [.lit (.bool false)], args := [d] }
  | _ => none }
def FnExactSymbolTextWrongFalsely : Prop := fnExactSymbolTextRow.holds Try.pinned (OpenSpec.ofChange fnExactSymbolTextWrong)

/-- 'laws.FnExactCellNo': WHATEVER THE INPUT: true; the input reads as it did. -/
def fnExactCellNoSpec : ChangeSpec := { name := "fnExactCellNo", fn := fun _ => fun
  | [d1, d2, d3] => { results := [.lit (.bool true)], args := [d1, d2, d3] }
  | _ => none }
def fnExactCellNoRow : OpenClaim := { program := "ythaadpjfimajjaa", sum := "997cd49a0a7892f6694b3dcf37f853af3c4dca786d3ebaf1e05aa07c2c3ae24c", func := "loop.example/g00758/laws.FnExactCellNo", spec := "fnExactCellNo", apart := false }
def FnExactCellNoSaid : Prop := fnExactCellNoRow.holds Try.pinned (OpenSpec.ofChange fnExactCellNoSpec)

/-- ITS FALSE NEIGHBOUR: 'it returns false'. Refute it at one input. -/
def fnExactCellNoWrong : ChangeSpec := { name := "fnExactCellNo", fn := fun _ => fun
  | [d1, d2, d3] => { results := [.lit (.bool false)], args := [d1, d2, d3] }
  | _ => none }
def FnExactCellNoWrongFalsely : Prop := fnExactCellNoRow.holds Try.pinned (OpenSpec.ofChange fnExactCellNoWrong)

/-- 'laws.FnExactPartOf': WHATEVER THE INPUT: true; the input reads as it did. -/
def fnExactPartOfSpec : ChangeSpec := { name := "fnExactPartOf", fn := fun _ => fun
  | [d1, d2, d3, d4] => { results := [.lit (.bool true)], args := [d1, d2, d3, d4] }
  | _ => none }
def fnExactPartOfRow : OpenClaim := { program := "ythaadpjfimajjaa", sum := "997cd49a0a7892f6694b3dcf37f853af3c4dca786d3ebaf1e05aa07c2c3ae24c", func := "loop.example/g00758/laws.FnExactPartOf", spec := "fnExactPartOf", apart := false }
def FnExactPartOfSaid : Prop := fnExactPartOfRow.holds Try.pinned (OpenSpec.ofChange fnExactPartOfSpec)

/-- ITS FALSE NEIGHBOUR: 'it returns false'. Refute it at one input. -/
def fnExactPartOfWrong : ChangeSpec := { name := "fnExactPartOf", fn := fun _ => fun
  | [d1, d2, d3, d4] => { results := [.lit (.bool false)], args := [d1, d2, d3, d4] }
  | _ => none }
def FnExactPartOfWrongFalsely : Prop := fnExactPartOfRow.holds Try.pinned (OpenSpec.ofChange fnExactPartOfWrong)

/-- 'laws.FnExactEmptyChart': WHATEVER THE INPUT: true; the input reads as it did. -/
def fnExactEmptyChartSpec : ChangeSpec := { name := "fnExactEmptyChart", fn := fun _ => fun
  | [d] => { results := [.lit (.bool true)], args := [d] }
  | _ => none }
def fnExactEmptyChartRow : OpenClaim := { program := "ythaadpjfimajjaa", sum := "997cd49a0a7892f6694b3dcf37f853af3c4dca786d3ebaf1e05aa07c2c3ae24c", func := "loop.example/g00758/laws.FnExactEmptyChart", spec := "fnExactEmptyChart", apart := false }
def FnExactEmptyChartSaid : Prop := fnExactEmptyChartRow.holds Try.pinned (OpenSpec.ofChange fnExactEmptyChartSpec)

/-- ITS FALSE NEIGHBOUR: 'it returns false'. Refute it at one input. -/
def fnExactEmptyChartWrong : ChangeSpec := { name := "fnExactEmptyChart", fn := fun _ => fun
  | [d] => { results := [.lit (.bool false)], args := [d] }
  | _ => none }
def FnExactEmptyChartWrongFalsely : Prop := fnExactEmptyChartRow.holds Try.pinned (OpenSpec.ofChange fnExactEmptyChartWrong)

/- THE SECOND FORM. 'bulk': how many values and letters a reading holds, each counted each time it is reached (what is shared counts as often as it is met; a slice's spare places count too). A statement '..UptoSaid' is the law's where the arguments, and the package variables that the reading takes, are together of bulk at most 1048576: NARROWER than '..Said'. Prove '..Said' where nothing that the law and all that it calls make is longer than what came in: it says more and counts as full. Else prove '..UptoSaid'. A law counts once. -/
mutual
def uptoBulk {H : Type} : DataW H → Nat
  | .lit (.string bytes) => bytes.length + 1
  | .lit _ => 1
  | .nil => 1
  | .ptr d => uptoBulk d + 1
  | .slice elems spare => uptoBulkAll elems + uptoBulkAll spare + 1
  | .agg parts => uptoBulkAll parts + 1
  | .iface _ d => uptoBulk d + 1
  | .map entries => uptoBulkEntries entries + 1
  | .held _ => 1
def uptoBulkAll {H : Type} : List (DataW H) → Nat
  | [] => 0
  | d :: r => uptoBulk d + uptoBulkAll r
def uptoBulkEntries {H : Type} : List (Lit × DataW H) → Nat
  | [] => 0
  | x :: r => uptoBulkEntry x + uptoBulkEntries r
def uptoBulkEntry {H : Type} : Lit × DataW H → Nat
  | (.string bytes, d) => bytes.length + uptoBulk d + 1
  | (_, d) => uptoBulk d + 1
 end
def uptoSmall : (H : Type) → List (DataW H) → Bool := fun _ ds => decide (uptoBulkAll ds ≤ 1048576)
def OpenSpec.upto (s : _root_.Go.ChangeSpec) : _root_.Go.OpenSpec := { _root_.Go.OpenSpec.ofChange s with cond := some uptoSmall }

/-- 'laws.FnExactConstants', WHERE WHAT IT READS IS OF BULK AT MOST 1048576: true; the input reads as it did. -/
def fnExactConstantsUptoRow : OpenClaim := { program := "ythaadpjfimajjaa", sum := "997cd49a0a7892f6694b3dcf37f853af3c4dca786d3ebaf1e05aa07c2c3ae24c", func := "loop.example/g00758/laws.FnExactConstants", spec := "fnExactConstants", apart := false, narrowed := true }
def FnExactConstantsUptoSaid : Prop := fnExactConstantsUptoRow.holds Try.pinned (OpenSpec.upto fnExactConstantsSpec)

/-- 'laws.FnExactStepsIn', WHERE WHAT IT READS IS OF BULK AT MOST 1048576: true; the input reads as it did. -/
def fnExactStepsInUptoRow : OpenClaim := { program := "ythaadpjfimajjaa", sum := "997cd49a0a7892f6694b3dcf37f853af3c4dca786d3ebaf1e05aa07c2c3ae24c", func := "loop.example/g00758/laws.FnExactStepsIn", spec := "fnExactStepsIn", apart := false, narrowed := true }
def FnExactStepsInUptoSaid : Prop := fnExactStepsInUptoRow.holds Try.pinned (OpenSpec.upto fnExactStepsInSpec)

/-- 'laws.FnExactSymbolText', WHERE WHAT IT READS IS OF BULK AT MOST 1048576: true; the input reads as it did. -/
def fnExactSymbolTextUptoRow : OpenClaim := { program := "ythaadpjfimajjaa", sum := "997cd49a0a7892f6694b3dcf37f853af3c4dca786d3ebaf1e05aa07c2c3ae24c", func := "loop.example/g00758/laws.FnExactSymbolText", spec := "fnExactSymbolText", apart := false, narrowed := true }
def FnExactSymbolTextUptoSaid : Prop := fnExactSymbolTextUptoRow.holds Try.pinned (OpenSpec.upto fnExactSymbolTextSpec)

/-- 'laws.FnExactCellNo', WHERE WHAT IT READS IS OF BULK AT MOST 1048576: true; the input reads as it did. -/
def fnExactCellNoUptoRow : OpenClaim := { program := "ythaadpjfimajjaa", sum := "997cd49a0a7892f6694b3dcf37f853af3c4dca786d3ebaf1e05aa07c2c3ae24c", func := "loop.example/g00758/laws.FnExactCellNo", spec := "fnExactCellNo", apart := false, narrowed := true }
def FnExactCellNoUptoSaid : Prop := fnExactCellNoUptoRow.holds Try.pinned (OpenSpec.upto fnExactCellNoSpec)

/-- 'laws.FnExactPartOf', WHERE WHAT IT READS IS OF BULK AT MOST 1048576: true; the input reads as it did. -/
def fnExactPartOfUptoRow : OpenClaim := { program := "ythaadpjfimajjaa", sum := "997cd49a0a7892f6694b3dcf37f853af3c4dca786d3ebaf1e05aa07c2c3ae24c", func := "loop.example/g00758/laws.FnExactPartOf", spec := "fnExactPartOf", apart := false, narrowed := true }
def FnExactPartOfUptoSaid : Prop := fnExactPartOfUptoRow.holds Try.pinned (OpenSpec.upto fnExactPartOfSpec)

/-- 'laws.FnExactEmptyChart', WHERE WHAT IT READS IS OF BULK AT MOST 1048576: true; the input reads as it did. -/
def fnExactEmptyChartUptoRow : OpenClaim := { program := "ythaadpjfimajjaa", sum := "997cd49a0a7892f6694b3dcf37f853af3c4dca786d3ebaf1e05aa07c2c3ae24c", func := "loop.example/g00758/laws.FnExactEmptyChart", spec := "fnExactEmptyChart", apart := false, narrowed := true }
def FnExactEmptyChartUptoSaid : Prop := fnExactEmptyChartUptoRow.holds Try.pinned (OpenSpec.upto fnExactEmptyChartSpec)

end Rows
end Go.Proofs.Ythaadpjfimajjaa
