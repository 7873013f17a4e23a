/-
  No cell of these rows narrows 'for every input' (looked for: loops, veiled, ifaces, maps, wideKeys, modest, calm, conditions, laid).
  DERIVED. THE GIVEN ROWS OF THIS SEAT. 6 by the template 'for every input the law returns true; each argument reads behind the call as it read before'; 0 by the template 'total and deterministic' (their statements: YtaihihpdkaclcabTotals.lean).
  GIVEN WITH THE SEED: the statements are not yours to turn. If you find one false, say at which input.
  Laid BY PROGRAM, IN A SANDBOX (cutbox-rows.mjs): the forced cells as the released guide's own fill.sh prints them over the translation c79a5e916be8322b… (all of the seat's roots in one cut). By AI agents, Wed Nov 11 2026. No macro, syntax, notation, axiom, sorry.
-/
import Derived.Test.YtaihihpdkaclcabChecked
import GoSem.Claim
import GoSem.ClaimJoined
import GoSem.ClaimMapViews
import Derived.JoinedTies
import Derived.KernelRfl
namespace Go.Proofs.Ytaihihpdkaclcab
/- THE CELL 'sum', in the pinned program and in every row, IS THE sha256 OF THE DUMP (.gsa) THAT YtaihihpdkaclcabProg.lean LOADS. Nothing in Lean hashes anything: it is a label: what it is worth is what the hold of that sum in a sandbox is worth. -/
noncomputable def Try.pinned : Pinned := { name := "ytaihihpdkaclcab", sum := "c79a5e916be8322b2f1d5880894cd8c7caf3e535529596a5e1629057556766f8", checked := Try.checked }
namespace Rows
def none {H : Type} : Left H := { results := [], args := [] }

/-- 'laws.FnExactSignedOf': WHATEVER THE INPUT: true; the input reads as it did. -/
def fnExactSignedOfSpec : ChangeSpec := { name := "fnExactSignedOf", fn := fun _ => fun
  | [d] => { results := [.lit (.bool true)], args := [d] }
  | _ => none }
def fnExactSignedOfRow : OpenClaim := { program := "ytaihihpdkaclcab", sum := "c79a5e916be8322b2f1d5880894cd8c7caf3e535529596a5e1629057556766f8", func := "loop.example/g00213/laws.FnExactSignedOf", spec := "fnExactSignedOf", apart := false }
def FnExactSignedOfSaid : Prop := fnExactSignedOfRow.holds Try.pinned (OpenSpec.ofChange fnExactSignedOfSpec)

/-- ITS FALSE NEIGHBOUR: 'it returns false'. Refute it at one input. -/
def fnExactSignedOfWrong : ChangeSpec := { name := "fnExactSignedOf", fn := fun _ => fun
  | [d] => { results := [.lit (.bool false)], args := [d] }
  | _ => none }
def FnExactSignedOfWrongFalsely : Prop := fnExactSignedOfRow.holds Try.pinned (OpenSpec.ofChange fnExactSignedOfWrong)

/-- 'laws.FnExactShiftWord': WHATEVER THE INPUT: true; the input reads as it did. -/
def fnExactShiftWordSpec : ChangeSpec := { name := "fnExactShiftWord", fn := fun _ => fun
  | [d1, d2, d3] => { results := [.lit (.bool true)], args := [d1, d2, d3] }
  | _ => none }
def fnExactShiftWordRow : OpenClaim := { program := "ytaihihpdkaclcab", sum := "c79a5e916be8322b2f1d5880894cd8c7caf3e535529596a5e1629057556766f8", func := "loop.example/g00213/laws.FnExactShiftWord", spec := "fnExactShiftWord", apart := false }
def FnExactShiftWordSaid : Prop := fnExactShiftWordRow.holds Try.pinned (OpenSpec.ofChange fnExactShiftWordSpec)

/-- ITS FALSE NEIGHBOUR: 'it returns false'. Refute it at one input. -/
def fnExactShiftWordWrong : ChangeSpec := { name := "fnExactShiftWord", fn := fun _ => fun
  | [d1, d2, d3] => { results := [.lit (.bool false)], args := [d1, d2, d3] }
  | _ => none }
def FnExactShiftWordWrongFalsely : Prop := fnExactShiftWordRow.holds Try.pinned (OpenSpec.ofChange fnExactShiftWordWrong)

/-- 'laws.FnExactRegionFault': WHATEVER THE INPUT: true; the input reads as it did. -/
def fnExactRegionFaultSpec : ChangeSpec := { name := "fnExactRegionFault", fn := fun _ => fun
  | [d] => { results := [.lit (.bool true)], args := [d] }
  | _ => none }
def fnExactRegionFaultRow : OpenClaim := { program := "ytaihihpdkaclcab", sum := "c79a5e916be8322b2f1d5880894cd8c7caf3e535529596a5e1629057556766f8", func := "loop.example/g00213/laws.FnExactRegionFault", spec := "fnExactRegionFault", apart := false }
def FnExactRegionFaultSaid : Prop := fnExactRegionFaultRow.holds Try.pinned (OpenSpec.ofChange fnExactRegionFaultSpec)

/-- ITS FALSE NEIGHBOUR: 'it returns false'. Refute it at one input. -/
def fnExactRegionFaultWrong : ChangeSpec := { name := "fnExactRegionFault", fn := fun _ => fun
  | [d] => { results := [.lit (.bool false)], args := [d] }
  | _ => none }
def FnExactRegionFaultWrongFalsely : Prop := fnExactRegionFaultRow.holds Try.pinned (OpenSpec.ofChange fnExactRegionFaultWrong)

/-- 'laws.FnExactDivWords': WHATEVER THE INPUT: true; the input reads as it did. -/
def fnExactDivWordsSpec : ChangeSpec := { name := "fnExactDivWords", fn := fun _ => fun
  | [d1, d2] => { results := [.lit (.bool true)], args := [d1, d2] }
  | _ => none }
def fnExactDivWordsRow : OpenClaim := { program := "ytaihihpdkaclcab", sum := "c79a5e916be8322b2f1d5880894cd8c7caf3e535529596a5e1629057556766f8", func := "loop.example/g00213/laws.FnExactDivWords", spec := "fnExactDivWords", apart := false }
def FnExactDivWordsSaid : Prop := fnExactDivWordsRow.holds Try.pinned (OpenSpec.ofChange fnExactDivWordsSpec)

/-- ITS FALSE NEIGHBOUR: 'it returns false'. Refute it at one input. -/
def fnExactDivWordsWrong : ChangeSpec := { name := "fnExactDivWords", fn := fun _ => fun
  | [d1, d2] => { results := [.lit (.bool false)], args := [d1, d2] }
  | _ => none }
def FnExactDivWordsWrongFalsely : Prop := fnExactDivWordsRow.holds Try.pinned (OpenSpec.ofChange fnExactDivWordsWrong)

/-- 'laws.FnExactRemWords': WHATEVER THE INPUT: true; the input reads as it did. -/
def fnExactRemWordsSpec : ChangeSpec := { name := "fnExactRemWords", fn := fun _ => fun
  | [d1, d2] => { results := [.lit (.bool true)], args := [d1, d2] }
  | _ => none }
def fnExactRemWordsRow : OpenClaim := { program := "ytaihihpdkaclcab", sum := "c79a5e916be8322b2f1d5880894cd8c7caf3e535529596a5e1629057556766f8", func := "loop.example/g00213/laws.FnExactRemWords", spec := "fnExactRemWords", apart := false }
def FnExactRemWordsSaid : Prop := fnExactRemWordsRow.holds Try.pinned (OpenSpec.ofChange fnExactRemWordsSpec)

/-- ITS FALSE NEIGHBOUR: 'it returns false'. Refute it at one input. -/
def fnExactRemWordsWrong : ChangeSpec := { name := "fnExactRemWords", fn := fun _ => fun
  | [d1, d2] => { results := [.lit (.bool false)], args := [d1, d2] }
  | _ => none }
def FnExactRemWordsWrongFalsely : Prop := fnExactRemWordsRow.holds Try.pinned (OpenSpec.ofChange fnExactRemWordsWrong)

/-- 'laws.FnExactBitWords': WHATEVER THE INPUT: true; the input reads as it did. -/
def fnExactBitWordsSpec : ChangeSpec := { name := "fnExactBitWords", fn := fun _ => fun
  | [d1, d2, d3] => { results := [.lit (.bool true)], args := [d1, d2, d3] }
  | _ => none }
def fnExactBitWordsRow : OpenClaim := { program := "ytaihihpdkaclcab", sum := "c79a5e916be8322b2f1d5880894cd8c7caf3e535529596a5e1629057556766f8", func := "loop.example/g00213/laws.FnExactBitWords", spec := "fnExactBitWords", apart := false }
def FnExactBitWordsSaid : Prop := fnExactBitWordsRow.holds Try.pinned (OpenSpec.ofChange fnExactBitWordsSpec)

/-- ITS FALSE NEIGHBOUR: 'it returns false'. Refute it at one input. -/
def fnExactBitWordsWrong : ChangeSpec := { name := "fnExactBitWords", fn := fun _ => fun
  | [d1, d2, d3] => { results := [.lit (.bool false)], args := [d1, d2, d3] }
  | _ => none }
def FnExactBitWordsWrongFalsely : Prop := fnExactBitWordsRow.holds Try.pinned (OpenSpec.ofChange fnExactBitWordsWrong)

/- THE SECOND FORM. 'bulk': how many values and letters a reading holds, each counted each time it is reached (what is shared counts as often as it is met; a slice's spare places count too). A statement '..UptoSaid' is the law's where the arguments, and the package variables that the reading takes, are together of bulk at most 1048576: NARROWER than '..Said'. Prove '..Said' where nothing that the law and all that it calls make is longer than what came in: it says more and counts as full. Else prove '..UptoSaid'. A law counts once. -/
mutual
def uptoBulk {H : Type} : DataW H → Nat
  | .lit (.string bytes) => bytes.length + 1
  | .lit _ => 1
  | .nil => 1
  | .ptr d => uptoBulk d + 1
  | .slice elems spare => uptoBulkAll elems + uptoBulkAll spare + 1
  | .agg parts => uptoBulkAll parts + 1
  | .iface _ d => uptoBulk d + 1
  | .map entries => uptoBulkEntries entries + 1
  | .held _ => 1
def uptoBulkAll {H : Type} : List (DataW H) → Nat
  | [] => 0
  | d :: r => uptoBulk d + uptoBulkAll r
def uptoBulkEntries {H : Type} : List (Lit × DataW H) → Nat
  | [] => 0
  | x :: r => uptoBulkEntry x + uptoBulkEntries r
def uptoBulkEntry {H : Type} : Lit × DataW H → Nat
  | (.string bytes, d) => bytes.length + uptoBulk d + 1
  | (_, d) => uptoBulk d + 1
 end
def uptoSmall : (H : Type) → List (DataW H) → Bool := fun _ ds => decide (uptoBulkAll ds ≤ 1048576)
def OpenSpec.upto (s : _root_.Go.ChangeSpec) : _root_.Go.OpenSpec := { _root_.Go.OpenSpec.ofChange s with cond := some uptoSmall }

/-- 'laws.FnExactSignedOf', WHERE WHAT IT READS IS OF BULK AT MOST 1048576: true; the input reads as it did. -/
def fnExactSignedOfUptoRow : OpenClaim := { program := "ytaihihpdkaclcab", sum := "c79a5e916be8322b2f1d5880894cd8c7caf3e535529596a5e1629057556766f8", func := "loop.example/g00213/laws.FnExactSignedOf", spec := "fnExactSignedOf", apart := false, narrowed := true }
def FnExactSignedOfUptoSaid : Prop := fnExactSignedOfUptoRow.holds Try.pinned (OpenSpec.upto fnExactSignedOfSpec)

/-- 'laws.FnExactShiftWord', WHERE WHAT IT READS IS OF BULK AT MOST 1048576: true; the input reads as it did. -/
def fnExactShiftWordUptoRow : OpenClaim := { program := "ytaihihpdkaclcab", sum := "c79a5e916be8322b2f1d5880894cd8c7caf3e535529596a5e1629057556766f8", func := "loop.example/g00213/laws.FnExactShiftWord", spec := "fnExactShiftWord", apart := false, narrowed := true }
def FnExactShiftWordUptoSaid : Prop := fnExactShiftWordUptoRow.holds Try.pinned (OpenSpec.upto fnExactShiftWordSpec)

/-- 'laws.FnExactRegionFault', WHERE WHAT IT READS IS OF BULK AT MOST 1048576: true; the input reads as it did. -/
def fnExactRegionFaultUptoRow : OpenClaim := { program := "ytaihihpdkaclcab", sum := "c79a5e916be8322b2f1d5880894cd8c7caf3e535529596a5e1629057556766f8", func := "loop.example/g00213/laws.FnExactRegionFault", spec := "fnExactRegionFault", apart := false, narrowed := true }
def FnExactRegionFaultUptoSaid : Prop := fnExactRegionFaultUptoRow.holds Try.pinned (OpenSpec.upto fnExactRegionFaultSpec)

/-- 'laws.FnExactDivWords', WHERE WHAT IT READS IS OF BULK AT MOST 1048576: true; the input reads as it did. -/
def fnExactDivWordsUptoRow : OpenClaim := { program := "ytaihihpdkaclcab", sum := "c79a5e916be8322b2f1d5880894cd8c7caf3e535529596a5e1629057556766f8", func := "loop.example/g00213/laws.FnExactDivWords", spec := "fnExactDivWords", apart := false, narrowed := true }
def FnExactDivWordsUptoSaid : Prop := fnExactDivWordsUptoRow.holds Try.pinned (OpenSpec.upto fnExactDivWordsSpec)

/-- 'laws.FnExactRemWords', WHERE WHAT IT READS IS OF BULK AT MOST 1048576: true; the input reads as it did. -/
def fnExactRemWordsUptoRow : OpenClaim := { program := "ytaihihpdkaclcab", sum := "c79a5e916be8322b2f1d5880894cd8c7caf3e535529596a5e1629057556766f8", func := "loop.example/g00213/laws.FnExactRemWords", spec := "fnExactRemWords", apart := false, narrowed := true }
def FnExactRemWordsUptoSaid : Prop := fnExactRemWordsUptoRow.holds Try.pinned (OpenSpec.upto fnExactRemWordsSpec)

/-- 'laws.FnExactBitWords', WHERE WHAT IT READS IS OF BULK AT MOST 1048576: true; the input reads as it did. -/
def fnExactBitWordsUptoRow : OpenClaim := { program := "ytaihihpdkaclcab", sum := "c79a5e916be8322b2f1d5880894cd8c7caf3e535529596a5e1629057556766f8", func := "loop.example/g00213/laws.FnExactBitWords", spec := "fnExactBitWords", apart := false, narrowed := true }
def FnExactBitWordsUptoSaid : Prop := fnExactBitWordsUptoRow.holds Try.pinned (OpenSpec.upto fnExactBitWordsSpec)

end Rows
end Go.Proofs.Ytaihihpdkaclcab
