/-
  No cell of these rows narrows 'for every input' (looked for: loops, veiled, ifaces, maps, wideKeys, modest, calm, conditions, laid).
  DERIVED. THE GIVEN ROWS OF THIS SEAT. 6 by the template 'for every input the law returns true; each argument reads behind the call as it read before'; 0 by the template 'total and deterministic' (their statements: YtccaghkjaflnfabTotals.lean).
  GIVEN WITH THE SEED: the statements are not yours to turn. If you find one false, say at which input.
  Laid BY PROGRAM, IN A SANDBOX (cutbox-rows.mjs): the forced cells as the released guide's own fill.sh prints them over the translation bbb7325b88eb36bf… (all of the seat's roots in one cut). By AI agents, Wed Nov 11 2026. No macro, syntax, notation, axiom, sorry.
-/
import Derived.Test.YtccaghkjaflnfabChecked
import GoSem.Claim
import GoSem.ClaimJoined
import GoSem.ClaimMapViews
import Derived.JoinedTies
import Derived.KernelRfl
namespace Go.Proofs.Ytccaghkjaflnfab
/- THE CELL 'sum', in the pinned program and in every row, IS THE sha256 OF THE DUMP (.gsa) THAT YtccaghkjaflnfabProg.lean LOADS. Nothing in Lean hashes anything: it is a label: what it is worth is what the hold of that sum in a sandbox is worth. -/
noncomputable def Try.pinned : Pinned := { name := "ytccaghkjaflnfab", sum := "bbb7325b88eb36bf0b4f6714235463c28a595d207e044e14247dd7cb559f1a75", checked := Try.checked }
namespace Rows
def none {H : Type} : Left H := { results := [], args := [] }

/-- 'laws.FnExactNewMemory': WHATEVER THE INPUT: true; the input reads as it did. -/
def fnExactNewMemorySpec : ChangeSpec := { name := "fnExactNewMemory", fn := fun _ => fun
  | [d] => { results := [.lit (.bool true)], args := [d] }
  | _ => none }
def fnExactNewMemoryRow : OpenClaim := { program := "ytccaghkjaflnfab", sum := "bbb7325b88eb36bf0b4f6714235463c28a595d207e044e14247dd7cb559f1a75", func := "loop.example/g00213/laws.FnExactNewMemory", spec := "fnExactNewMemory", apart := false }
def FnExactNewMemorySaid : Prop := fnExactNewMemoryRow.holds Try.pinned (OpenSpec.ofChange fnExactNewMemorySpec)

/-- ITS FALSE NEIGHBOUR: 'it returns false'. Refute it at one input. -/
def fnExactNewMemoryWrong : ChangeSpec := { name := "fnExactNewMemory", fn := fun _ => fun
  | [d] => { results := [.lit (.bool false)], args := [d] }
  | _ => none }
def FnExactNewMemoryWrongFalsely : Prop := fnExactNewMemoryRow.holds Try.pinned (OpenSpec.ofChange fnExactNewMemoryWrong)

/-- 'laws.FnBits': WHATEVER THE INPUT: true; the input reads as it did. -/
def fnBitsSpec : ChangeSpec := { name := "fnBits", fn := fun _ => fun
  | [d] => { results := [.lit (.bool true)], args := [d] }
  | _ => none }
def fnBitsRow : OpenClaim := { program := "ytccaghkjaflnfab", sum := "bbb7325b88eb36bf0b4f6714235463c28a595d207e044e14247dd7cb559f1a75", func := "loop.example/g00213/laws.FnBits", spec := "fnBits", apart := false }
def FnBitsSaid : Prop := fnBitsRow.holds Try.pinned (OpenSpec.ofChange fnBitsSpec)

/-- ITS FALSE NEIGHBOUR: 'it returns false'. Refute it at one input. -/
def fnBitsWrong : ChangeSpec := { name := "fnBits", fn := fun _ => fun
  | [d] => { results := [.lit (.bool false)], args := [d] }
  | _ => none }
def FnBitsWrongFalsely : Prop := fnBitsRow.holds Try.pinned (OpenSpec.ofChange fnBitsWrong)

/-- 'laws.FnExactEncodeIns': WHATEVER THE INPUT: true; the input reads as it did. -/
def fnExactEncodeInsSpec : ChangeSpec := { name := "fnExactEncodeIns", fn := fun _ => fun
  | [d] => { results := [.lit (.bool true)], args := [d] }
  | _ => none }
def fnExactEncodeInsRow : OpenClaim := { program := "ytccaghkjaflnfab", sum := "bbb7325b88eb36bf0b4f6714235463c28a595d207e044e14247dd7cb559f1a75", func := "loop.example/g00213/laws.FnExactEncodeIns", spec := "fnExactEncodeIns", apart := false }
def FnExactEncodeInsSaid : Prop := fnExactEncodeInsRow.holds Try.pinned (OpenSpec.ofChange fnExactEncodeInsSpec)

/-- ITS FALSE NEIGHBOUR: 'it returns false'. Refute it at one input. -/
def fnExactEncodeInsWrong : ChangeSpec := { name := "fnExactEncodeIns", fn := fun _ => fun
  | [d] => { results := [.lit (.bool false)], args := [d] }
  | _ => none }
def FnExactEncodeInsWrongFalsely : Prop := fnExactEncodeInsRow.holds Try.pinned (OpenSpec.ofChange fnExactEncodeInsWrong)

/-- 'laws.FnExactPagesFault': WHATEVER THE INPUT: true; the input reads as it did. -/
def fnExactPagesFaultSpec : ChangeSpec := { name := "fnExactPagesFault", fn := fun _ => fun
  | [d1, d2] => { results := [.lit (.bool true)], args := [d1, d2] }
  | _ => none }
def fnExactPagesFaultRow : OpenClaim := { program := "ytccaghkjaflnfab", sum := "bbb7325b88eb36bf0b4f6714235463c28a595d207e044e14247dd7cb559f1a75", func := "loop.example/g00213/laws.FnExactPagesFault", spec := "fnExactPagesFault", apart := false }
def FnExactPagesFaultSaid : Prop := fnExactPagesFaultRow.holds Try.pinned (OpenSpec.ofChange fnExactPagesFaultSpec)

/-- ITS FALSE NEIGHBOUR: 'it returns false'. Refute it at one input. -/
def fnExactPagesFaultWrong : ChangeSpec := { name := "fnExactPagesFault", fn := fun _ => fun
  | [d1, d2] => { results := [.lit (.bool false)], args := [d1, d2] }
  | _ => none }
def FnExactPagesFaultWrongFalsely : Prop := fnExactPagesFaultRow.holds Try.pinned (OpenSpec.ofChange fnExactPagesFaultWrong)

/-- 'laws.FnEntries': WHATEVER THE INPUT: true; the input reads as it did. -/
def fnEntriesSpec : ChangeSpec := { name := "fnEntries", fn := fun _ => fun
  | [d] => { results := [.lit (.bool true)], args := [d] }
  | _ => none }
def fnEntriesRow : OpenClaim := { program := "ytccaghkjaflnfab", sum := "bbb7325b88eb36bf0b4f6714235463c28a595d207e044e14247dd7cb559f1a75", func := "loop.example/g00213/laws.FnEntries", spec := "fnEntries", apart := false }
def FnEntriesSaid : Prop := fnEntriesRow.holds Try.pinned (OpenSpec.ofChange fnEntriesSpec)

/-- ITS FALSE NEIGHBOUR: 'it returns false'. Refute it at one input. -/
def fnEntriesWrong : ChangeSpec := { name := "fnEntries", fn := fun _ => fun
  | [d] => { results := [.lit (.bool false)], args := [d] }
  | _ => none }
def FnEntriesWrongFalsely : Prop := fnEntriesRow.holds Try.pinned (OpenSpec.ofChange fnEntriesWrong)

/-- 'laws.FnExactDecodeIns': WHATEVER THE INPUT: true; the input reads as it did. -/
def fnExactDecodeInsSpec : ChangeSpec := { name := "fnExactDecodeIns", fn := fun _ => fun
  | [d] => { results := [.lit (.bool true)], args := [d] }
  | _ => none }
def fnExactDecodeInsRow : OpenClaim := { program := "ytccaghkjaflnfab", sum := "bbb7325b88eb36bf0b4f6714235463c28a595d207e044e14247dd7cb559f1a75", func := "loop.example/g00213/laws.FnExactDecodeIns", spec := "fnExactDecodeIns", apart := false }
def FnExactDecodeInsSaid : Prop := fnExactDecodeInsRow.holds Try.pinned (OpenSpec.ofChange fnExactDecodeInsSpec)

/-- ITS FALSE NEIGHBOUR: 'it returns false'. Refute it at one input. -/
def fnExactDecodeInsWrong : ChangeSpec := { name := "fnExactDecodeIns", fn := fun _ => fun
  | [d] => { results := [.lit (.bool false)], args := [d] }
  | _ => none }
def FnExactDecodeInsWrongFalsely : Prop := fnExactDecodeInsRow.holds Try.pinned (OpenSpec.ofChange fnExactDecodeInsWrong)

/- THE SECOND FORM. 'bulk': how many values and letters a reading holds, each counted each time it is reached (what is shared counts as often as it is met; a slice's spare places count too). A statement '..UptoSaid' is the law's where the arguments, and the package variables that the reading takes, are together of bulk at most 1048576: NARROWER than '..Said'. Prove '..Said' where nothing that the law and all that it calls make is longer than what came in: it says more and counts as full. Else prove '..UptoSaid'. A law counts once. -/
mutual
def uptoBulk {H : Type} : DataW H → Nat
  | .lit (.string bytes) => bytes.length + 1
  | .lit _ => 1
  | .nil => 1
  | .ptr d => uptoBulk d + 1
  | .slice elems spare => uptoBulkAll elems + uptoBulkAll spare + 1
  | .agg parts => uptoBulkAll parts + 1
  | .iface _ d => uptoBulk d + 1
  | .map entries => uptoBulkEntries entries + 1
  | .held _ => 1
def uptoBulkAll {H : Type} : List (DataW H) → Nat
  | [] => 0
  | d :: r => uptoBulk d + uptoBulkAll r
def uptoBulkEntries {H : Type} : List (Lit × DataW H) → Nat
  | [] => 0
  | x :: r => uptoBulkEntry x + uptoBulkEntries r
def uptoBulkEntry {H : Type} : Lit × DataW H → Nat
  | (.string bytes, d) => bytes.length + uptoBulk d + 1
  | (_, d) => uptoBulk d + 1
 end
def uptoSmall : (H : Type) → List (DataW H) → Bool := fun _ ds => decide (uptoBulkAll ds ≤ 1048576)
def OpenSpec.upto (s : _root_.Go.ChangeSpec) : _root_.Go.OpenSpec := { _root_.Go.OpenSpec.ofChange s with cond := some uptoSmall }

/-- 'laws.FnExactNewMemory', WHERE WHAT IT READS IS OF BULK AT MOST 1048576: true; the input reads as it did. -/
def fnExactNewMemoryUptoRow : OpenClaim := { program := "ytccaghkjaflnfab", sum := "bbb7325b88eb36bf0b4f6714235463c28a595d207e044e14247dd7cb559f1a75", func := "loop.example/g00213/laws.FnExactNewMemory", spec := "fnExactNewMemory", apart := false, narrowed := true }
def FnExactNewMemoryUptoSaid : Prop := fnExactNewMemoryUptoRow.holds Try.pinned (OpenSpec.upto fnExactNewMemorySpec)

/-- 'laws.FnBits', WHERE WHAT IT READS IS OF BULK AT MOST 1048576: true; the input reads as it did. -/
def fnBitsUptoRow : OpenClaim := { program := "ytccaghkjaflnfab", sum := "bbb7325b88eb36bf0b4f6714235463c28a595d207e044e14247dd7cb559f1a75", func := "loop.example/g00213/laws.FnBits", spec := "fnBits", apart := false, narrowed := true }
def FnBitsUptoSaid : Prop := fnBitsUptoRow.holds Try.pinned (OpenSpec.upto fnBitsSpec)

/-- 'laws.FnExactEncodeIns', WHERE WHAT IT READS IS OF BULK AT MOST 1048576: true; the input reads as it did. -/
def fnExactEncodeInsUptoRow : OpenClaim := { program := "ytccaghkjaflnfab", sum := "bbb7325b88eb36bf0b4f6714235463c28a595d207e044e14247dd7cb559f1a75", func := "loop.example/g00213/laws.FnExactEncodeIns", spec := "fnExactEncodeIns", apart := false, narrowed := true }
def FnExactEncodeInsUptoSaid : Prop := fnExactEncodeInsUptoRow.holds Try.pinned (OpenSpec.upto fnExactEncodeInsSpec)

/-- 'laws.FnExactPagesFault', WHERE WHAT IT READS IS OF BULK AT MOST 1048576: true; the input reads as it did. -/
def fnExactPagesFaultUptoRow : OpenClaim := { program := "ytccaghkjaflnfab", sum := "bbb7325b88eb36bf0b4f6714235463c28a595d207e044e14247dd7cb559f1a75", func := "loop.example/g00213/laws.FnExactPagesFault", spec := "fnExactPagesFault", apart := false, narrowed := true }
def FnExactPagesFaultUptoSaid : Prop := fnExactPagesFaultUptoRow.holds Try.pinned (OpenSpec.upto fnExactPagesFaultSpec)

/-- 'laws.FnEntries', WHERE WHAT IT READS IS OF BULK AT MOST 1048576: true; the input reads as it did. -/
def fnEntriesUptoRow : OpenClaim := { program := "ytccaghkjaflnfab", sum := "bbb7325b88eb36bf0b4f6714235463c28a595d207e044e14247dd7cb559f1a75", func := "loop.example/g00213/laws.FnEntries", spec := "fnEntries", apart := false, narrowed := true }
def FnEntriesUptoSaid : Prop := fnEntriesUptoRow.holds Try.pinned (OpenSpec.upto fnEntriesSpec)

/-- 'laws.FnExactDecodeIns', WHERE WHAT IT READS IS OF BULK AT MOST 1048576: true; the input reads as it did. -/
def fnExactDecodeInsUptoRow : OpenClaim := { program := "ytccaghkjaflnfab", sum := "bbb7325b88eb36bf0b4f6714235463c28a595d207e044e14247dd7cb559f1a75", func := "loop.example/g00213/laws.FnExactDecodeIns", spec := "fnExactDecodeIns", apart := false, narrowed := true }
def FnExactDecodeInsUptoSaid : Prop := fnExactDecodeInsUptoRow.holds Try.pinned (OpenSpec.upto fnExactDecodeInsSpec)

end Rows
end Go.Proofs.Ytccaghkjaflnfab
