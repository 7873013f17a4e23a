/-
  No cell of these rows narrows 'for every input' (looked for: loops, veiled, ifaces, maps, wideKeys, modest, calm, conditions, laid).
  DERIVED. THE GIVEN ROWS OF THIS SEAT. 6 by the template 'for every input the law returns true; each argument reads behind the call as it read before'; 0 by the template 'total and deterministic' (their statements: YtaihihpdkaclcaaTotals.lean).
  GIVEN WITH THE SEED: the statements are not yours to turn. If you find one false, say at which input.
  Laid BY PROGRAM, IN A SANDBOX (cutbox-rows.mjs): the forced cells as the released guide's own fill.sh prints them over the translation 680f636ec5a78a71… (all of the seat's roots in one cut). By AI agents, Wed Nov 11 2026. No macro, syntax, notation, axiom, sorry.
-/
import Derived.Test.YtaihihpdkaclcaaChecked
import GoSem.Claim
import GoSem.ClaimJoined
import GoSem.ClaimMapViews
import Derived.JoinedTies
import Derived.KernelRfl
namespace Go.Proofs.Ytaihihpdkaclcaa
/- THE CELL 'sum', in the pinned program and in every row, IS THE sha256 OF THE DUMP (.gsa) THAT YtaihihpdkaclcaaProg.lean LOADS. Nothing in Lean hashes anything: it is a label: what it is worth is what the hold of that sum in a sandbox is worth. -/
noncomputable def Try.pinned : Pinned := { name := "ytaihihpdkaclcaa", sum := "680f636ec5a78a714a91ecb983f483413a16c88d3bb96f900c835275c26fcc45", checked := Try.checked }
namespace Rows
def none {H : Type} : Left H := { results := [], args := [] }

/-- 'laws.FnExactConstants': WHATEVER THE INPUT: true; the input reads as it did. -/
def fnExactConstantsSpec : ChangeSpec := { name := "fnExactConstants", fn := fun _ => fun
  | [] => { results := [.lit (.bool true)], args := [] }
  | _ => none }
def fnExactConstantsRow : OpenClaim := { program := "ytaihihpdkaclcaa", sum := "680f636ec5a78a714a91ecb983f483413a16c88d3bb96f900c835275c26fcc45", func := "loop.example/g00213/laws.FnExactConstants", spec := "fnExactConstants", apart := false }
def FnExactConstantsSaid : Prop := fnExactConstantsRow.holds Try.pinned (OpenSpec.ofChange fnExactConstantsSpec)

/-- ITS FALSE NEIGHBOUR: 'it returns false'. Refute it at one input. -/
def fnExactConstantsWrong : ChangeSpec := { name := "fnExactConstants", fn := fun _ => fun
  | [] => { results := [.lit (.bool false)], args := [] }
  | _ => none }
def FnExactConstantsWrongFalsely : Prop := fnExactConstantsRow.holds Try.pinned (OpenSpec.ofChange fnExactConstantsWrong)

/-- 'laws.FnExactMulWords': WHATEVER THE INPUT: true; the input reads as it did. -/
def fnExactMulWordsSpec : ChangeSpec := { name := "fnExactMulWords", fn := fun _ => fun
  | [d1, d2] => { results := [.lit (.bool true)], args := [d1, d2] }
  | _ => none }
def fnExactMulWordsRow : OpenClaim := { program := "ytaihihpdkaclcaa", sum := "680f636ec5a78a714a91ecb983f483413a16c88d3bb96f900c835275c26fcc45", func := "loop.example/g00213/laws.FnExactMulWords", spec := "fnExactMulWords", apart := false }
def FnExactMulWordsSaid : Prop := fnExactMulWordsRow.holds Try.pinned (OpenSpec.ofChange fnExactMulWordsSpec)

/-- ITS FALSE NEIGHBOUR: 'it returns false'. Refute it at one input. -/
def fnExactMulWordsWrong : ChangeSpec := { name := "fnExactMulWords", fn := fun _ => fun
  | [d1, d2] => { results := [.lit (.bool false)], args := [d1, d2] }
  | _ => none }
def FnExactMulWordsWrongFalsely : Prop := fnExactMulWordsRow.holds Try.pinned (OpenSpec.ofChange fnExactMulWordsWrong)

/-- 'laws.FnExactWrapWord': WHATEVER THE INPUT: true; the input reads as it did. -/
def fnExactWrapWordSpec : ChangeSpec := { name := "fnExactWrapWord", fn := fun _ => fun
  | [d] => { results := [.lit (.bool true)], args := [d] }
  | _ => none }
def fnExactWrapWordRow : OpenClaim := { program := "ytaihihpdkaclcaa", sum := "680f636ec5a78a714a91ecb983f483413a16c88d3bb96f900c835275c26fcc45", func := "loop.example/g00213/laws.FnExactWrapWord", spec := "fnExactWrapWord", apart := false }
def FnExactWrapWordSaid : Prop := fnExactWrapWordRow.holds Try.pinned (OpenSpec.ofChange fnExactWrapWordSpec)

/-- ITS FALSE NEIGHBOUR: 'it returns false'. Refute it at one input. -/
def fnExactWrapWordWrong : ChangeSpec := { name := "fnExactWrapWord", fn := fun _ => fun
  | [d] => { results := [.lit (.bool false)], args := [d] }
  | _ => none }
def FnExactWrapWordWrongFalsely : Prop := fnExactWrapWordRow.holds Try.pinned (OpenSpec.ofChange fnExactWrapWordWrong)

/-- 'laws.FnExactAddWords': WHATEVER THE INPUT: true; the input reads as it did. -/
def fnExactAddWordsSpec : ChangeSpec := { name := "fnExactAddWords", fn := fun _ => fun
  | [d1, d2] => { results := [.lit (.bool true)], args := [d1, d2] }
  | _ => none }
def fnExactAddWordsRow : OpenClaim := { program := "ytaihihpdkaclcaa", sum := "680f636ec5a78a714a91ecb983f483413a16c88d3bb96f900c835275c26fcc45", func := "loop.example/g00213/laws.FnExactAddWords", spec := "fnExactAddWords", apart := false }
def FnExactAddWordsSaid : Prop := fnExactAddWordsRow.holds Try.pinned (OpenSpec.ofChange fnExactAddWordsSpec)

/-- ITS FALSE NEIGHBOUR: 'it returns false'. Refute it at one input. -/
def fnExactAddWordsWrong : ChangeSpec := { name := "fnExactAddWords", fn := fun _ => fun
  | [d1, d2] => { results := [.lit (.bool false)], args := [d1, d2] }
  | _ => none }
def FnExactAddWordsWrongFalsely : Prop := fnExactAddWordsRow.holds Try.pinned (OpenSpec.ofChange fnExactAddWordsWrong)

/-- 'laws.FnExactWritesD': WHATEVER THE INPUT: true; the input reads as it did. -/
def fnExactWritesDSpec : ChangeSpec := { name := "fnExactWritesD", fn := fun _ => fun
  | [d] => { results := [.lit (.bool true)], args := [d] }
  | _ => none }
def fnExactWritesDRow : OpenClaim := { program := "ytaihihpdkaclcaa", sum := "680f636ec5a78a714a91ecb983f483413a16c88d3bb96f900c835275c26fcc45", func := "loop.example/g00213/laws.FnExactWritesD", spec := "fnExactWritesD", apart := false }
def FnExactWritesDSaid : Prop := fnExactWritesDRow.holds Try.pinned (OpenSpec.ofChange fnExactWritesDSpec)

/-- ITS FALSE NEIGHBOUR: 'it returns false'. Refute it at one input. -/
def fnExactWritesDWrong : ChangeSpec := { name := "fnExactWritesD", fn := fun _ => fun
  | [d] => { results := [.lit (.bool false)], args := [d] }
  | _ => none }
def FnExactWritesDWrongFalsely : Prop := fnExactWritesDRow.holds Try.pinned (OpenSpec.ofChange fnExactWritesDWrong)

/-- 'laws.FnExactOffsetOf': WHATEVER THE INPUT: true; the input reads as it did. -/
def fnExactOffsetOfSpec : ChangeSpec := { name := "fnExactOffsetOf", fn := fun _ => fun
  | [d] => { results := [.lit (.bool true)], args := [d] }
  | _ => none }
def fnExactOffsetOfRow : OpenClaim := { program := "ytaihihpdkaclcaa", sum := "680f636ec5a78a714a91ecb983f483413a16c88d3bb96f900c835275c26fcc45", func := "loop.example/g00213/laws.FnExactOffsetOf", spec := "fnExactOffsetOf", apart := false }
def FnExactOffsetOfSaid : Prop := fnExactOffsetOfRow.holds Try.pinned (OpenSpec.ofChange fnExactOffsetOfSpec)

/-- ITS FALSE NEIGHBOUR: 'it returns false'. Refute it at one input. -/
def fnExactOffsetOfWrong : ChangeSpec := { name := "fnExactOffsetOf", fn := fun _ => fun
  | [d] => { results := [.lit (.bool false)], args := [d] }
  | _ => none }
def FnExactOffsetOfWrongFalsely : Prop := fnExactOffsetOfRow.holds Try.pinned (OpenSpec.ofChange fnExactOffsetOfWrong)

/- THE SECOND FORM. 'bulk': how many values and letters a reading holds, each counted each time it is reached (what is shared counts as often as it is met; a slice's spare places count too). A statement '..UptoSaid' is the law's where the arguments, and the package variables that the reading takes, are together of bulk at most 1048576: NARROWER than '..Said'. Prove '..Said' where nothing that the law and all that it calls make is longer than what came in: it says more and counts as full. Else prove '..UptoSaid'. A law counts once. -/
mutual
def uptoBulk {H : Type} : DataW H → Nat
  | .lit (.string bytes) => bytes.length + 1
  | .lit _ => 1
  | .nil => 1
  | .ptr d => uptoBulk d + 1
  | .slice elems spare => uptoBulkAll elems + uptoBulkAll spare + 1
  | .agg parts => uptoBulkAll parts + 1
  | .iface _ d => uptoBulk d + 1
  | .map entries => uptoBulkEntries entries + 1
  | .held _ => 1
def uptoBulkAll {H : Type} : List (DataW H) → Nat
  | [] => 0
  | d :: r => uptoBulk d + uptoBulkAll r
def uptoBulkEntries {H : Type} : List (Lit × DataW H) → Nat
  | [] => 0
  | x :: r => uptoBulkEntry x + uptoBulkEntries r
def uptoBulkEntry {H : Type} : Lit × DataW H → Nat
  | (.string bytes, d) => bytes.length + uptoBulk d + 1
  | (_, d) => uptoBulk d + 1
 end
def uptoSmall : (H : Type) → List (DataW H) → Bool := fun _ ds => decide (uptoBulkAll ds ≤ 1048576)
def OpenSpec.upto (s : _root_.Go.ChangeSpec) : _root_.Go.OpenSpec := { _root_.Go.OpenSpec.ofChange s with cond := some uptoSmall }

/-- 'laws.FnExactConstants', WHERE WHAT IT READS IS OF BULK AT MOST 1048576: true; the input reads as it did. -/
def fnExactConstantsUptoRow : OpenClaim := { program := "ytaihihpdkaclcaa", sum := "680f636ec5a78a714a91ecb983f483413a16c88d3bb96f900c835275c26fcc45", func := "loop.example/g00213/laws.FnExactConstants", spec := "fnExactConstants", apart := false, narrowed := true }
def FnExactConstantsUptoSaid : Prop := fnExactConstantsUptoRow.holds Try.pinned (OpenSpec.upto fnExactConstantsSpec)

/-- 'laws.FnExactMulWords', WHERE WHAT IT READS IS OF BULK AT MOST 1048576: true; the input reads as it did. -/
def fnExactMulWordsUptoRow : OpenClaim := { program := "ytaihihpdkaclcaa", sum := "680f636ec5a78a714a91ecb983f483413a16c88d3bb96f900c835275c26fcc45", func := "loop.example/g00213/laws.FnExactMulWords", spec := "fnExactMulWords", apart := false, narrowed := true }
def FnExactMulWordsUptoSaid : Prop := fnExactMulWordsUptoRow.holds Try.pinned (OpenSpec.upto fnExactMulWordsSpec)

/-- 'laws.FnExactWrapWord', WHERE WHAT IT READS IS OF BULK AT MOST 1048576: true; the input reads as it did. -/
def fnExactWrapWordUptoRow : OpenClaim := { program := "ytaihihpdkaclcaa", sum := "680f636ec5a78a714a91ecb983f483413a16c88d3bb96f900c835275c26fcc45", func := "loop.example/g00213/laws.FnExactWrapWord", spec := "fnExactWrapWord", apart := false, narrowed := true }
def FnExactWrapWordUptoSaid : Prop := fnExactWrapWordUptoRow.holds Try.pinned (OpenSpec.upto fnExactWrapWordSpec)

/-- 'laws.FnExactAddWords', WHERE WHAT IT READS IS OF BULK AT MOST 1048576: true; the input reads as it did. -/
def fnExactAddWordsUptoRow : OpenClaim := { program := "ytaihihpdkaclcaa", sum := "680f636ec5a78a714a91ecb983f483413a16c88d3bb96f900c835275c26fcc45", func := "loop.example/g00213/laws.FnExactAddWords", spec := "fnExactAddWords", apart := false, narrowed := true }
def FnExactAddWordsUptoSaid : Prop := fnExactAddWordsUptoRow.holds Try.pinned (OpenSpec.upto fnExactAddWordsSpec)

/-- 'laws.FnExactWritesD', WHERE WHAT IT READS IS OF BULK AT MOST 1048576: true; the input reads as it did. -/
def fnExactWritesDUptoRow : OpenClaim := { program := "ytaihihpdkaclcaa", sum := "680f636ec5a78a714a91ecb983f483413a16c88d3bb96f900c835275c26fcc45", func := "loop.example/g00213/laws.FnExactWritesD", spec := "fnExactWritesD", apart := false, narrowed := true }
def FnExactWritesDUptoSaid : Prop := fnExactWritesDUptoRow.holds Try.pinned (OpenSpec.upto fnExactWritesDSpec)

/-- 'laws.FnExactOffsetOf', WHERE WHAT IT READS IS OF BULK AT MOST 1048576: true; the input reads as it did. -/
def fnExactOffsetOfUptoRow : OpenClaim := { program := "ytaihihpdkaclcaa", sum := "680f636ec5a78a714a91ecb983f483413a16c88d3bb96f900c835275c26fcc45", func := "loop.example/g00213/laws.FnExactOffsetOf", spec := "fnExactOffsetOf", apart := false, narrowed := true }
def FnExactOffsetOfUptoSaid : Prop := fnExactOffsetOfUptoRow.holds Try.pinned (OpenSpec.upto fnExactOffsetOfSpec)

end Rows
end Go.Proofs.Ytaihihpdkaclcaa
