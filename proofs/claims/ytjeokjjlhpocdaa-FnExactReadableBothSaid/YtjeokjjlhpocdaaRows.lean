/-
  No cell of these rows narrows 'for every input' (looked for: loops, veiled, ifaces, maps, wideKeys, modest, calm, conditions, laid).
  DERIVED. THE GIVEN ROWS OF THIS SEAT. 7 by the template 'for every input the law returns true; each argument reads behind the call as it read before'; 0 by the template 'total and deterministic' (their statements: YtjeokjjlhpocdaaTotals.lean).
  GIVEN WITH THE SEED: the statements are not yours to turn. If you find one false, say at which input.
  Laid BY PROGRAM, IN A SANDBOX (cutbox-rows.mjs): the forced cells as the released guide's own fill.sh prints them over the translation 058f64226bd86919… (all of the seat's roots in one cut). By AI agents, Wed Nov 11 2026. No macro, syntax, notation, axiom, sorry.
-/
import Derived.Test.YtjeokjjlhpocdaaChecked
import GoSem.Claim
import GoSem.ClaimJoined
import GoSem.ClaimMapViews
import Derived.JoinedTies
import Derived.KernelRfl
namespace Go.Proofs.Ytjeokjjlhpocdaa
/- THE CELL 'sum', in the pinned program and in every row, IS THE sha256 OF THE DUMP (.gsa) THAT YtjeokjjlhpocdaaProg.lean LOADS. Nothing in Lean hashes anything: it is a label: what it is worth is what the hold of that sum in a sandbox is worth. -/
noncomputable def Try.pinned : Pinned := { name := "ytjeokjjlhpocdaa", sum := "058f64226bd86919780afc4443f068a9b62866303bab99faaaa68ebf2f0d2052", checked := Try.checked }
namespace Rows
def none {H : Type} : Left H := { results := [], args := [] }

/-- 'laws.FnExactPagesFrom': WHATEVER THE INPUT: true; the input reads as it did. -/
def fnExactPagesFromSpec : ChangeSpec := { name := "fnExactPagesFrom", fn := fun _ => fun
  | [d] => { results := [.lit (.bool true)], args := [d] }
  | _ => none }
def fnExactPagesFromRow : OpenClaim := { program := "ytjeokjjlhpocdaa", sum := "058f64226bd86919780afc4443f068a9b62866303bab99faaaa68ebf2f0d2052", func := "loop.example/g00213/laws.FnExactPagesFrom", spec := "fnExactPagesFrom", unfollowed := true, recurses := true, apart := false }
def FnExactPagesFromSaid : Prop := fnExactPagesFromRow.holds Try.pinned (OpenSpec.ofChange fnExactPagesFromSpec)

/-- ITS FALSE NEIGHBOUR: 'it returns false'. Refute it at one input. -/
def fnExactPagesFromWrong : ChangeSpec := { name := "fnExactPagesFrom", fn := fun _ => fun
  | [d] => { results := [.lit (.bool false)], args := [d] }
  | _ => none }
def FnExactPagesFromWrongFalsely : Prop := fnExactPagesFromRow.holds Try.pinned (OpenSpec.ofChange fnExactPagesFromWrong)

/-- 'laws.FnExactWalkPages': WHATEVER THE INPUT: true; the input reads as it did. -/
def fnExactWalkPagesSpec : ChangeSpec := { name := "fnExactWalkPages", fn := fun _ => fun
  | [d1, d2, d3] => { results := [.lit (.bool true)], args := [d1, d2, d3] }
  | _ => none }
def fnExactWalkPagesRow : OpenClaim := { program := "ytjeokjjlhpocdaa", sum := "058f64226bd86919780afc4443f068a9b62866303bab99faaaa68ebf2f0d2052", func := "loop.example/g00213/laws.FnExactWalkPages", spec := "fnExactWalkPages", apart := false }
def FnExactWalkPagesSaid : Prop := fnExactWalkPagesRow.holds Try.pinned (OpenSpec.ofChange fnExactWalkPagesSpec)

/-- ITS FALSE NEIGHBOUR: 'it returns false'. Refute it at one input. -/
def fnExactWalkPagesWrong : ChangeSpec := { name := "fnExactWalkPages", fn := fun _ => fun
  | [d1, d2, d3] => { results := [.lit (.bool false)], args := [d1, d2, d3] }
  | _ => none }
def FnExactWalkPagesWrongFalsely : Prop := fnExactWalkPagesRow.holds Try.pinned (OpenSpec.ofChange fnExactWalkPagesWrong)

/-- 'laws.FnExactComposePages': WHATEVER THE INPUT: true; the input reads as it did. -/
def fnExactComposePagesSpec : ChangeSpec := { name := "fnExactComposePages", fn := fun _ => fun
  | [d1, d2] => { results := [.lit (.bool true)], args := [d1, d2] }
  | _ => none }
def fnExactComposePagesRow : OpenClaim := { program := "ytjeokjjlhpocdaa", sum := "058f64226bd86919780afc4443f068a9b62866303bab99faaaa68ebf2f0d2052", func := "loop.example/g00213/laws.FnExactComposePages", spec := "fnExactComposePages", apart := false }
def FnExactComposePagesSaid : Prop := fnExactComposePagesRow.holds Try.pinned (OpenSpec.ofChange fnExactComposePagesSpec)

/-- ITS FALSE NEIGHBOUR: 'it returns false'. Refute it at one input. -/
def fnExactComposePagesWrong : ChangeSpec := { name := "fnExactComposePages", fn := fun _ => fun
  | [d1, d2] => { results := [.lit (.bool false)], args := [d1, d2] }
  | _ => none }
def FnExactComposePagesWrongFalsely : Prop := fnExactComposePagesRow.holds Try.pinned (OpenSpec.ofChange fnExactComposePagesWrong)

/-- 'laws.FnStages': WHATEVER THE INPUT: true; the input reads as it did. -/
def fnStagesSpec : ChangeSpec := { name := "fnStages", fn := fun _ => fun
  | [d] => { results := [.lit (.bool true)], args := [d] }
  | _ => none }
def fnStagesRow : OpenClaim := { program := "ytjeokjjlhpocdaa", sum := "058f64226bd86919780afc4443f068a9b62866303bab99faaaa68ebf2f0d2052", func := "loop.example/g00213/laws.FnStages", spec := "fnStages", apart := false }
def FnStagesSaid : Prop := fnStagesRow.holds Try.pinned (OpenSpec.ofChange fnStagesSpec)

/-- ITS FALSE NEIGHBOUR: 'it returns false'. Refute it at one input. -/
def fnStagesWrong : ChangeSpec := { name := "fnStages", fn := fun _ => fun
  | [d] => { results := [.lit (.bool false)], args := [d] }
  | _ => none }
def FnStagesWrongFalsely : Prop := fnStagesRow.holds Try.pinned (OpenSpec.ofChange fnStagesWrong)

/-- 'laws.FnExactWalkBoth': WHATEVER THE INPUT: true; the input reads as it did. -/
def fnExactWalkBothSpec : ChangeSpec := { name := "fnExactWalkBoth", fn := fun _ => fun
  | [d1, d2, d3, d4] => { results := [.lit (.bool true)], args := [d1, d2, d3, d4] }
  | _ => none }
def fnExactWalkBothRow : OpenClaim := { program := "ytjeokjjlhpocdaa", sum := "058f64226bd86919780afc4443f068a9b62866303bab99faaaa68ebf2f0d2052", func := "loop.example/g00213/laws.FnExactWalkBoth", spec := "fnExactWalkBoth", apart := false }
def FnExactWalkBothSaid : Prop := fnExactWalkBothRow.holds Try.pinned (OpenSpec.ofChange fnExactWalkBothSpec)

/-- ITS FALSE NEIGHBOUR: 'it returns false'. Refute it at one input. -/
def fnExactWalkBothWrong : ChangeSpec := { name := "fnExactWalkBoth", fn := fun _ => fun
  | [d1, d2, d3, d4] => { results := [.lit (.bool false)], args := [d1, d2, d3, d4] }
  | _ => none }
def FnExactWalkBothWrongFalsely : Prop := fnExactWalkBothRow.holds Try.pinned (OpenSpec.ofChange fnExactWalkBothWrong)

/-- 'laws.FnExactReadableBoth': WHATEVER THE INPUT: true; the input reads as it did. -/
def fnExactReadableBothSpec : ChangeSpec := { name := "fnExactReadableBoth", fn := fun _ => fun
  | [d1, d2] => { results := [.lit (.bool true)], args := [d1, d2] }
  | _ => none }
def fnExactReadableBothRow : OpenClaim := { program := "ytjeokjjlhpocdaa", sum := "058f64226bd86919780afc4443f068a9b62866303bab99faaaa68ebf2f0d2052", func := "loop.example/g00213/laws.FnExactReadableBoth", spec := "fnExactReadableBoth", unfollowed := true, recurses := true, apart := false }
def FnExactReadableBothSaid : Prop := fnExactReadableBothRow.holds Try.pinned (OpenSpec.ofChange fnExactReadableBothSpec)

/-- ITS FALSE NEIGHBOUR: 'it returns false'. Refute it at one input. -/
def fnExactReadableBothWrong : ChangeSpec := { name := "fnExactReadableBoth", fn := fun _ => fun
  | [d1, d2] => { results := [.lit (.bool false)], args := [d1, d2] }
  | _ => none }
def FnExactReadableBothWrongFalsely : Prop := fnExactReadableBothRow.holds Try.pinned (OpenSpec.ofChange fnExactReadableBothWrong)

/-- 'laws.FnExactWritableBoth': WHATEVER THE INPUT: true; the input reads as it did. -/
def fnExactWritableBothSpec : ChangeSpec := { name := "fnExactWritableBoth", fn := fun _ => fun
  | [d1, d2] => { results := [.lit (.bool true)], args := [d1, d2] }
  | _ => none }
def fnExactWritableBothRow : OpenClaim := { program := "ytjeokjjlhpocdaa", sum := "058f64226bd86919780afc4443f068a9b62866303bab99faaaa68ebf2f0d2052", func := "loop.example/g00213/laws.FnExactWritableBoth", spec := "fnExactWritableBoth", unfollowed := true, recurses := true, apart := false }
def FnExactWritableBothSaid : Prop := fnExactWritableBothRow.holds Try.pinned (OpenSpec.ofChange fnExactWritableBothSpec)

/-- ITS FALSE NEIGHBOUR: 'it returns false'. Refute it at one input. -/
def fnExactWritableBothWrong : ChangeSpec := { name := "fnExactWritableBoth", fn := fun _ => fun
  | [d1, d2] => { results := [.lit (.bool false)], args := [d1, d2] }
  | _ => none }
def FnExactWritableBothWrongFalsely : Prop := fnExactWritableBothRow.holds Try.pinned (OpenSpec.ofChange fnExactWritableBothWrong)

/- THE SECOND FORM. 'bulk': how many values and letters a reading holds, each counted each time it is reached (what is shared counts as often as it is met; a slice's spare places count too). A statement '..UptoSaid' is the law's where the arguments, and the package variables that the reading takes, are together of bulk at most 1048576: NARROWER than '..Said'. Prove '..Said' where nothing that the law and all that it calls make is longer than what came in: it says more and counts as full. Else prove '..UptoSaid'. A law counts once. -/
mutual
def uptoBulk {H : Type} : DataW H → Nat
  | .lit (.string bytes) => bytes.length + 1
  | .lit _ => 1
  | .nil => 1
  | .ptr d => uptoBulk d + 1
  | .slice elems spare => uptoBulkAll elems + uptoBulkAll spare + 1
  | .agg parts => uptoBulkAll parts + 1
  | .iface _ d => uptoBulk d + 1
  | .map entries => uptoBulkEntries entries + 1
  | .held _ => 1
def uptoBulkAll {H : Type} : List (DataW H) → Nat
  | [] => 0
  | d :: r => uptoBulk d + uptoBulkAll r
def uptoBulkEntries {H : Type} : List (Lit × DataW H) → Nat
  | [] => 0
  | x :: r => uptoBulkEntry x + uptoBulkEntries r
def uptoBulkEntry {H : Type} : Lit × DataW H → Nat
  | (.string bytes, d) => bytes.length + uptoBulk d + 1
  | (_, d) => uptoBulk d + 1
 end
def uptoSmall : (H : Type) → List (DataW H) → Bool := fun _ ds => decide (uptoBulkAll ds ≤ 1048576)
def OpenSpec.upto (s : _root_.Go.ChangeSpec) : _root_.Go.OpenSpec := { _root_.Go.OpenSpec.ofChange s with cond := some uptoSmall }

/-- 'laws.FnExactPagesFrom', WHERE WHAT IT READS IS OF BULK AT MOST 1048576: true; the input reads as it did. -/
def fnExactPagesFromUptoRow : OpenClaim := { program := "ytjeokjjlhpocdaa", sum := "058f64226bd86919780afc4443f068a9b62866303bab99faaaa68ebf2f0d2052", func := "loop.example/g00213/laws.FnExactPagesFrom", spec := "fnExactPagesFrom", unfollowed := true, recurses := true, apart := false, narrowed := true }
def FnExactPagesFromUptoSaid : Prop := fnExactPagesFromUptoRow.holds Try.pinned (OpenSpec.upto fnExactPagesFromSpec)

/-- 'laws.FnExactWalkPages', WHERE WHAT IT READS IS OF BULK AT MOST 1048576: true; the input reads as it did. -/
def fnExactWalkPagesUptoRow : OpenClaim := { program := "ytjeokjjlhpocdaa", sum := "058f64226bd86919780afc4443f068a9b62866303bab99faaaa68ebf2f0d2052", func := "loop.example/g00213/laws.FnExactWalkPages", spec := "fnExactWalkPages", apart := false, narrowed := true }
def FnExactWalkPagesUptoSaid : Prop := fnExactWalkPagesUptoRow.holds Try.pinned (OpenSpec.upto fnExactWalkPagesSpec)

/-- 'laws.FnExactComposePages', WHERE WHAT IT READS IS OF BULK AT MOST 1048576: true; the input reads as it did. -/
def fnExactComposePagesUptoRow : OpenClaim := { program := "ytjeokjjlhpocdaa", sum := "058f64226bd86919780afc4443f068a9b62866303bab99faaaa68ebf2f0d2052", func := "loop.example/g00213/laws.FnExactComposePages", spec := "fnExactComposePages", apart := false, narrowed := true }
def FnExactComposePagesUptoSaid : Prop := fnExactComposePagesUptoRow.holds Try.pinned (OpenSpec.upto fnExactComposePagesSpec)

/-- 'laws.FnStages', WHERE WHAT IT READS IS OF BULK AT MOST 1048576: true; the input reads as it did. -/
def fnStagesUptoRow : OpenClaim := { program := "ytjeokjjlhpocdaa", sum := "058f64226bd86919780afc4443f068a9b62866303bab99faaaa68ebf2f0d2052", func := "loop.example/g00213/laws.FnStages", spec := "fnStages", apart := false, narrowed := true }
def FnStagesUptoSaid : Prop := fnStagesUptoRow.holds Try.pinned (OpenSpec.upto fnStagesSpec)

/-- 'laws.FnExactWalkBoth', WHERE WHAT IT READS IS OF BULK AT MOST 1048576: true; the input reads as it did. -/
def fnExactWalkBothUptoRow : OpenClaim := { program := "ytjeokjjlhpocdaa", sum := "058f64226bd86919780afc4443f068a9b62866303bab99faaaa68ebf2f0d2052", func := "loop.example/g00213/laws.FnExactWalkBoth", spec := "fnExactWalkBoth", apart := false, narrowed := true }
def FnExactWalkBothUptoSaid : Prop := fnExactWalkBothUptoRow.holds Try.pinned (OpenSpec.upto fnExactWalkBothSpec)

/-- 'laws.FnExactReadableBoth', WHERE WHAT IT READS IS OF BULK AT MOST 1048576: true; the input reads as it did. -/
def fnExactReadableBothUptoRow : OpenClaim := { program := "ytjeokjjlhpocdaa", sum := "058f64226bd86919780afc4443f068a9b62866303bab99faaaa68ebf2f0d2052", func := "loop.example/g00213/laws.FnExactReadableBoth", spec := "fnExactReadableBoth", unfollowed := true, recurses := true, apart := false, narrowed := true }
def FnExactReadableBothUptoSaid : Prop := fnExactReadableBothUptoRow.holds Try.pinned (OpenSpec.upto fnExactReadableBothSpec)

/-- 'laws.FnExactWritableBoth', WHERE WHAT IT READS IS OF BULK AT MOST 1048576: true; the input reads as it did. -/
def fnExactWritableBothUptoRow : OpenClaim := { program := "ytjeokjjlhpocdaa", sum := "058f64226bd86919780afc4443f068a9b62866303bab99faaaa68ebf2f0d2052", func := "loop.example/g00213/laws.FnExactWritableBoth", spec := "fnExactWritableBoth", unfollowed := true, recurses := true, apart := false, narrowed := true }
def FnExactWritableBothUptoSaid : Prop := fnExactWritableBothUptoRow.holds Try.pinned (OpenSpec.upto fnExactWritableBothSpec)

end Rows
end Go.Proofs.Ytjeokjjlhpocdaa
