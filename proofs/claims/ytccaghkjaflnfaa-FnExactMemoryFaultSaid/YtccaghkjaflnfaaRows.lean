/-
  No cell of these rows narrows 'for every input' (looked for: loops, veiled, ifaces, maps, wideKeys, modest, calm, conditions, laid).
  DERIVED. THE GIVEN ROWS OF THIS SEAT. 6 by the template 'for every input the law returns true; each argument reads behind the call as it read before'; 0 by the template 'total and deterministic' (their statements: YtccaghkjaflnfaaTotals.lean).
  GIVEN WITH THE SEED: the statements are not yours to turn. If you find one false, say at which input.
  Laid BY PROGRAM, IN A SANDBOX (cutbox-rows.mjs): the forced cells as the released guide's own fill.sh prints them over the translation e549b51be0e3a20a… (all of the seat's roots in one cut). By AI agents, Wed Nov 11 2026. No macro, syntax, notation, axiom, sorry.
-/
import Derived.Test.YtccaghkjaflnfaaChecked
import GoSem.Claim
import GoSem.ClaimJoined
import GoSem.ClaimMapViews
import Derived.JoinedTies
import Derived.KernelRfl
namespace Go.Proofs.Ytccaghkjaflnfaa
/- THE CELL 'sum', in the pinned program and in every row, IS THE sha256 OF THE DUMP (.gsa) THAT YtccaghkjaflnfaaProg.lean LOADS. Nothing in Lean hashes anything: it is a label: what it is worth is what the hold of that sum in a sandbox is worth. -/
noncomputable def Try.pinned : Pinned := { name := "ytccaghkjaflnfaa", sum := "e549b51be0e3a20a3d70f01161c88f67b563bcd47422581a6c0fe7ebfe3727e4", checked := Try.checked }
namespace Rows
def none {H : Type} : Left H := { results := [], args := [] }

/-- 'laws.FnExactRegionsMeet': WHATEVER THE INPUT: true; the input reads as it did. -/
def fnExactRegionsMeetSpec : ChangeSpec := { name := "fnExactRegionsMeet", fn := fun _ => fun
  | [d1, d2] => { results := [.lit (.bool true)], args := [d1, d2] }
  | _ => none }
def fnExactRegionsMeetRow : OpenClaim := { program := "ytccaghkjaflnfaa", sum := "e549b51be0e3a20a3d70f01161c88f67b563bcd47422581a6c0fe7ebfe3727e4", func := "loop.example/g00213/laws.FnExactRegionsMeet", spec := "fnExactRegionsMeet", apart := false }
def FnExactRegionsMeetSaid : Prop := fnExactRegionsMeetRow.holds Try.pinned (OpenSpec.ofChange fnExactRegionsMeetSpec)

/-- ITS FALSE NEIGHBOUR: 'it returns false'. Refute it at one input. -/
def fnExactRegionsMeetWrong : ChangeSpec := { name := "fnExactRegionsMeet", fn := fun _ => fun
  | [d1, d2] => { results := [.lit (.bool false)], args := [d1, d2] }
  | _ => none }
def FnExactRegionsMeetWrongFalsely : Prop := fnExactRegionsMeetRow.holds Try.pinned (OpenSpec.ofChange fnExactRegionsMeetWrong)

/-- 'laws.FnExactEntryWord': WHATEVER THE INPUT: true; the input reads as it did. -/
def fnExactEntryWordSpec : ChangeSpec := { name := "fnExactEntryWord", fn := fun _ => fun
  | [d] => { results := [.lit (.bool true)], args := [d] }
  | _ => none }
def fnExactEntryWordRow : OpenClaim := { program := "ytccaghkjaflnfaa", sum := "e549b51be0e3a20a3d70f01161c88f67b563bcd47422581a6c0fe7ebfe3727e4", func := "loop.example/g00213/laws.FnExactEntryWord", spec := "fnExactEntryWord", apart := false }
def FnExactEntryWordSaid : Prop := fnExactEntryWordRow.holds Try.pinned (OpenSpec.ofChange fnExactEntryWordSpec)

/-- ITS FALSE NEIGHBOUR: 'it returns false'. Refute it at one input. -/
def fnExactEntryWordWrong : ChangeSpec := { name := "fnExactEntryWord", fn := fun _ => fun
  | [d] => { results := [.lit (.bool false)], args := [d] }
  | _ => none }
def FnExactEntryWordWrongFalsely : Prop := fnExactEntryWordRow.holds Try.pinned (OpenSpec.ofChange fnExactEntryWordWrong)

/-- 'laws.FnExactEntryOf': WHATEVER THE INPUT: true; the input reads as it did. -/
def fnExactEntryOfSpec : ChangeSpec := { name := "fnExactEntryOf", fn := fun _ => fun
  | [d] => { results := [.lit (.bool true)], args := [d] }
  | _ => none }
def fnExactEntryOfRow : OpenClaim := { program := "ytccaghkjaflnfaa", sum := "e549b51be0e3a20a3d70f01161c88f67b563bcd47422581a6c0fe7ebfe3727e4", func := "loop.example/g00213/laws.FnExactEntryOf", spec := "fnExactEntryOf", apart := false }
def FnExactEntryOfSaid : Prop := fnExactEntryOfRow.holds Try.pinned (OpenSpec.ofChange fnExactEntryOfSpec)

/-- ITS FALSE NEIGHBOUR: 'it returns false'. Refute it at one input. -/
def fnExactEntryOfWrong : ChangeSpec := { name := "fnExactEntryOf", fn := fun _ => fun
  | [d] => { results := [.lit (.bool false)], args := [d] }
  | _ => none }
def FnExactEntryOfWrongFalsely : Prop := fnExactEntryOfRow.holds Try.pinned (OpenSpec.ofChange fnExactEntryOfWrong)

/-- 'laws.FnExactInsFault': WHATEVER THE INPUT: true; the input reads as it did. -/
def fnExactInsFaultSpec : ChangeSpec := { name := "fnExactInsFault", fn := fun _ => fun
  | [d] => { results := [.lit (.bool true)], args := [d] }
  | _ => none }
def fnExactInsFaultRow : OpenClaim := { program := "ytccaghkjaflnfaa", sum := "e549b51be0e3a20a3d70f01161c88f67b563bcd47422581a6c0fe7ebfe3727e4", func := "loop.example/g00213/laws.FnExactInsFault", spec := "fnExactInsFault", apart := false }
def FnExactInsFaultSaid : Prop := fnExactInsFaultRow.holds Try.pinned (OpenSpec.ofChange fnExactInsFaultSpec)

/-- ITS FALSE NEIGHBOUR: 'it returns false'. Refute it at one input. -/
def fnExactInsFaultWrong : ChangeSpec := { name := "fnExactInsFault", fn := fun _ => fun
  | [d] => { results := [.lit (.bool false)], args := [d] }
  | _ => none }
def FnExactInsFaultWrongFalsely : Prop := fnExactInsFaultRow.holds Try.pinned (OpenSpec.ofChange fnExactInsFaultWrong)

/-- 'laws.FnExactMemoryFault': WHATEVER THE INPUT: true; the input reads as it did. -/
def fnExactMemoryFaultSpec : ChangeSpec := { name := "fnExactMemoryFault", fn := fun _ => fun
  | [d] => { results := [.lit (.bool true)], args := [d] }
  | _ => none }
def fnExactMemoryFaultRow : OpenClaim := { program := "ytccaghkjaflnfaa", sum := "e549b51be0e3a20a3d70f01161c88f67b563bcd47422581a6c0fe7ebfe3727e4", func := "loop.example/g00213/laws.FnExactMemoryFault", spec := "fnExactMemoryFault", unfollowed := true, recurses := true, apart := false }
def FnExactMemoryFaultSaid : Prop := fnExactMemoryFaultRow.holds Try.pinned (OpenSpec.ofChange fnExactMemoryFaultSpec)

/-- ITS FALSE NEIGHBOUR: 'it returns false'. Refute it at one input. -/
def fnExactMemoryFaultWrong : ChangeSpec := { name := "fnExactMemoryFault", fn := fun _ => fun
  | [d] => { results := [.lit (.bool false)], args := [d] }
  | _ => none }
def FnExactMemoryFaultWrongFalsely : Prop := fnExactMemoryFaultRow.holds Try.pinned (OpenSpec.ofChange fnExactMemoryFaultWrong)

/-- 'laws.FnWords': WHATEVER THE INPUT: true; the input reads as it did. -/
def fnWordsSpec : ChangeSpec := { name := "fnWords", fn := fun _ => fun
  | [d] => { results := [.lit (.bool true)], args := [d] }
  | _ => none }
def fnWordsRow : OpenClaim := { program := "ytccaghkjaflnfaa", sum := "e549b51be0e3a20a3d70f01161c88f67b563bcd47422581a6c0fe7ebfe3727e4", func := "loop.example/g00213/laws.FnWords", spec := "fnWords", apart := false }
def FnWordsSaid : Prop := fnWordsRow.holds Try.pinned (OpenSpec.ofChange fnWordsSpec)

/-- ITS FALSE NEIGHBOUR: 'it returns false'. Refute it at one input. -/
def fnWordsWrong : ChangeSpec := { name := "fnWords", fn := fun _ => fun
  | [d] => { results := [.lit (.bool false)], args := [d] }
  | _ => none }
def FnWordsWrongFalsely : Prop := fnWordsRow.holds Try.pinned (OpenSpec.ofChange fnWordsWrong)

/- THE SECOND FORM. 'bulk': how many values and letters a reading holds, each counted each time it is reached (what is shared counts as often as it is met; a slice's spare places count too). A statement '..UptoSaid' is the law's where the arguments, and the package variables that the reading takes, are together of bulk at most 1048576: NARROWER than '..Said'. Prove '..Said' where nothing that the law and all that it calls make is longer than what came in: it says more and counts as full. Else prove '..UptoSaid'. A law counts once. -/
mutual
def uptoBulk {H : Type} : DataW H → Nat
  | .lit (.string bytes) => bytes.length + 1
  | .lit _ => 1
  | .nil => 1
  | .ptr d => uptoBulk d + 1
  | .slice elems spare => uptoBulkAll elems + uptoBulkAll spare + 1
  | .agg parts => uptoBulkAll parts + 1
  | .iface _ d => uptoBulk d + 1
  | .map entries => uptoBulkEntries entries + 1
  | .held _ => 1
def uptoBulkAll {H : Type} : List (DataW H) → Nat
  | [] => 0
  | d :: r => uptoBulk d + uptoBulkAll r
def uptoBulkEntries {H : Type} : List (Lit × DataW H) → Nat
  | [] => 0
  | x :: r => uptoBulkEntry x + uptoBulkEntries r
def uptoBulkEntry {H : Type} : Lit × DataW H → Nat
  | (.string bytes, d) => bytes.length + uptoBulk d + 1
  | (_, d) => uptoBulk d + 1
 end
def uptoSmall : (H : Type) → List (DataW H) → Bool := fun _ ds => decide (uptoBulkAll ds ≤ 1048576)
def OpenSpec.upto (s : _root_.Go.ChangeSpec) : _root_.Go.OpenSpec := { _root_.Go.OpenSpec.ofChange s with cond := some uptoSmall }

/-- 'laws.FnExactRegionsMeet', WHERE WHAT IT READS IS OF BULK AT MOST 1048576: true; the input reads as it did. -/
def fnExactRegionsMeetUptoRow : OpenClaim := { program := "ytccaghkjaflnfaa", sum := "e549b51be0e3a20a3d70f01161c88f67b563bcd47422581a6c0fe7ebfe3727e4", func := "loop.example/g00213/laws.FnExactRegionsMeet", spec := "fnExactRegionsMeet", apart := false, narrowed := true }
def FnExactRegionsMeetUptoSaid : Prop := fnExactRegionsMeetUptoRow.holds Try.pinned (OpenSpec.upto fnExactRegionsMeetSpec)

/-- 'laws.FnExactEntryWord', WHERE WHAT IT READS IS OF BULK AT MOST 1048576: true; the input reads as it did. -/
def fnExactEntryWordUptoRow : OpenClaim := { program := "ytccaghkjaflnfaa", sum := "e549b51be0e3a20a3d70f01161c88f67b563bcd47422581a6c0fe7ebfe3727e4", func := "loop.example/g00213/laws.FnExactEntryWord", spec := "fnExactEntryWord", apart := false, narrowed := true }
def FnExactEntryWordUptoSaid : Prop := fnExactEntryWordUptoRow.holds Try.pinned (OpenSpec.upto fnExactEntryWordSpec)

/-- 'laws.FnExactEntryOf', WHERE WHAT IT READS IS OF BULK AT MOST 1048576: true; the input reads as it did. -/
def fnExactEntryOfUptoRow : OpenClaim := { program := "ytccaghkjaflnfaa", sum := "e549b51be0e3a20a3d70f01161c88f67b563bcd47422581a6c0fe7ebfe3727e4", func := "loop.example/g00213/laws.FnExactEntryOf", spec := "fnExactEntryOf", apart := false, narrowed := true }
def FnExactEntryOfUptoSaid : Prop := fnExactEntryOfUptoRow.holds Try.pinned (OpenSpec.upto fnExactEntryOfSpec)

/-- 'laws.FnExactInsFault', WHERE WHAT IT READS IS OF BULK AT MOST 1048576: true; the input reads as it did. -/
def fnExactInsFaultUptoRow : OpenClaim := { program := "ytccaghkjaflnfaa", sum := "e549b51be0e3a20a3d70f01161c88f67b563bcd47422581a6c0fe7ebfe3727e4", func := "loop.example/g00213/laws.FnExactInsFault", spec := "fnExactInsFault", apart := false, narrowed := true }
def FnExactInsFaultUptoSaid : Prop := fnExactInsFaultUptoRow.holds Try.pinned (OpenSpec.upto fnExactInsFaultSpec)

/-- 'laws.FnExactMemoryFault', WHERE WHAT IT READS IS OF BULK AT MOST 1048576: true; the input reads as it did. -/
def fnExactMemoryFaultUptoRow : OpenClaim := { program := "ytccaghkjaflnfaa", sum := "e549b51be0e3a20a3d70f01161c88f67b563bcd47422581a6c0fe7ebfe3727e4", func := "loop.example/g00213/laws.FnExactMemoryFault", spec := "fnExactMemoryFault", unfollowed := true, recurses := true, apart := false, narrowed := true }
def FnExactMemoryFaultUptoSaid : Prop := fnExactMemoryFaultUptoRow.holds Try.pinned (OpenSpec.upto fnExactMemoryFaultSpec)

/-- 'laws.FnWords', WHERE WHAT IT READS IS OF BULK AT MOST 1048576: true; the input reads as it did. -/
def fnWordsUptoRow : OpenClaim := { program := "ytccaghkjaflnfaa", sum := "e549b51be0e3a20a3d70f01161c88f67b563bcd47422581a6c0fe7ebfe3727e4", func := "loop.example/g00213/laws.FnWords", spec := "fnWords", apart := false, narrowed := true }
def FnWordsUptoSaid : Prop := fnWordsUptoRow.holds Try.pinned (OpenSpec.upto fnWordsSpec)

end Rows
end Go.Proofs.Ytccaghkjaflnfaa
