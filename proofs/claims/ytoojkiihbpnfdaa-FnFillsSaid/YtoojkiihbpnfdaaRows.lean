/-
  No cell of these rows narrows 'for every input' (looked for: loops, veiled, ifaces, maps, wideKeys, modest, calm, conditions, laid).
  DERIVED. THE GIVEN ROWS OF THIS SEAT. 6 by the template 'for every input the law returns true; each argument reads behind the call as it read before'; 0 by the template 'total and deterministic' (their statements: YtoojkiihbpnfdaaTotals.lean).
  GIVEN WITH THE SEED: the statements are not yours to turn. If you find one false, say at which input.
  Laid BY PROGRAM, IN A SANDBOX (cutbox-rows.mjs): the forced cells as the released guide's own fill.sh prints them over the translation 8373207120625fff… (all of the seat's roots in one cut). By AI agents, Wed Nov 11 2026. No macro, syntax, notation, axiom, sorry.
-/
import Derived.Test.YtoojkiihbpnfdaaChecked
import GoSem.Claim
import GoSem.ClaimJoined
import GoSem.ClaimMapViews
import Derived.JoinedTies
import Derived.KernelRfl
namespace Go.Proofs.Ytoojkiihbpnfdaa
/- THE CELL 'sum', in the pinned program and in every row, IS THE sha256 OF THE DUMP (.gsa) THAT YtoojkiihbpnfdaaProg.lean LOADS. Nothing in Lean hashes anything: it is a label: what it is worth is what the hold of that sum in a sandbox is worth. -/
noncomputable def Try.pinned : Pinned := { name := "ytoojkiihbpnfdaa", sum := "8373207120625fffb085ddf29ff56fbcc37a192376e38cecc1ae3a4c135ce6e9", checked := Try.checked }
namespace Rows
def none {H : Type} : Left H := { results := [], args := [] }

/-- 'laws.FnExactFillCache': WHATEVER THE INPUT: true; the input reads as it did. -/
def fnExactFillCacheSpec : ChangeSpec := { name := "fnExactFillCache", fn := fun _ => fun
  | [d1, d2] => { results := [.lit (.bool true)], args := [d1, d2] }
  | _ => none }
def fnExactFillCacheRow : OpenClaim := { program := "ytoojkiihbpnfdaa", sum := "8373207120625fffb085ddf29ff56fbcc37a192376e38cecc1ae3a4c135ce6e9", func := "loop.example/g00213/laws.FnExactFillCache", spec := "fnExactFillCache", unfollowed := true, recurses := true, apart := false }
def FnExactFillCacheSaid : Prop := fnExactFillCacheRow.holds Try.pinned (OpenSpec.ofChange fnExactFillCacheSpec)

/-- ITS FALSE NEIGHBOUR: 'it returns false'. Refute it at one input. -/
def fnExactFillCacheWrong : ChangeSpec := { name := "fnExactFillCache", fn := fun _ => fun
  | [d1, d2] => { results := [.lit (.bool false)], args := [d1, d2] }
  | _ => none }
def FnExactFillCacheWrongFalsely : Prop := fnExactFillCacheRow.holds Try.pinned (OpenSpec.ofChange fnExactFillCacheWrong)

/-- 'laws.FnExactCacheFault': WHATEVER THE INPUT: true; the input reads as it did. -/
def fnExactCacheFaultSpec : ChangeSpec := { name := "fnExactCacheFault", fn := fun _ => fun
  | [d] => { results := [.lit (.bool true)], args := [d] }
  | _ => none }
def fnExactCacheFaultRow : OpenClaim := { program := "ytoojkiihbpnfdaa", sum := "8373207120625fffb085ddf29ff56fbcc37a192376e38cecc1ae3a4c135ce6e9", func := "loop.example/g00213/laws.FnExactCacheFault", spec := "fnExactCacheFault", unfollowed := true, recurses := true, apart := false }
def FnExactCacheFaultSaid : Prop := fnExactCacheFaultRow.holds Try.pinned (OpenSpec.ofChange fnExactCacheFaultSpec)

/-- ITS FALSE NEIGHBOUR: 'it returns false'. Refute it at one input. -/
def fnExactCacheFaultWrong : ChangeSpec := { name := "fnExactCacheFault", fn := fun _ => fun
  | [d] => { results := [.lit (.bool false)], args := [d] }
  | _ => none }
def FnExactCacheFaultWrongFalsely : Prop := fnExactCacheFaultRow.holds Try.pinned (OpenSpec.ofChange fnExactCacheFaultWrong)

/-- 'laws.FnExactFindHit': WHATEVER THE INPUT: true; the input reads as it did. -/
def fnExactFindHitSpec : ChangeSpec := { name := "fnExactFindHit", fn := fun _ => fun
  | [d1, d2, d3] => { results := [.lit (.bool true)], args := [d1, d2, d3] }
  | _ => none }
def fnExactFindHitRow : OpenClaim := { program := "ytoojkiihbpnfdaa", sum := "8373207120625fffb085ddf29ff56fbcc37a192376e38cecc1ae3a4c135ce6e9", func := "loop.example/g00213/laws.FnExactFindHit", spec := "fnExactFindHit", unfollowed := true, recurses := true, apart := false }
def FnExactFindHitSaid : Prop := fnExactFindHitRow.holds Try.pinned (OpenSpec.ofChange fnExactFindHitSpec)

/-- ITS FALSE NEIGHBOUR: 'it returns false'. Refute it at one input. -/
def fnExactFindHitWrong : ChangeSpec := { name := "fnExactFindHit", fn := fun _ => fun
  | [d1, d2, d3] => { results := [.lit (.bool false)], args := [d1, d2, d3] }
  | _ => none }
def FnExactFindHitWrongFalsely : Prop := fnExactFindHitRow.holds Try.pinned (OpenSpec.ofChange fnExactFindHitWrong)

/-- 'laws.FnExactFlushCache': WHATEVER THE INPUT: true; the input reads as it did. -/
def fnExactFlushCacheSpec : ChangeSpec := { name := "fnExactFlushCache", fn := fun _ => fun
  | [d1, d2] => { results := [.lit (.bool true)], args := [d1, d2] }
  | _ => none }
def fnExactFlushCacheRow : OpenClaim := { program := "ytoojkiihbpnfdaa", sum := "8373207120625fffb085ddf29ff56fbcc37a192376e38cecc1ae3a4c135ce6e9", func := "loop.example/g00213/laws.FnExactFlushCache", spec := "fnExactFlushCache", unfollowed := true, recurses := true, apart := false }
def FnExactFlushCacheSaid : Prop := fnExactFlushCacheRow.holds Try.pinned (OpenSpec.ofChange fnExactFlushCacheSpec)

/-- ITS FALSE NEIGHBOUR: 'it returns false'. Refute it at one input. -/
def fnExactFlushCacheWrong : ChangeSpec := { name := "fnExactFlushCache", fn := fun _ => fun
  | [d1, d2] => { results := [.lit (.bool false)], args := [d1, d2] }
  | _ => none }
def FnExactFlushCacheWrongFalsely : Prop := fnExactFlushCacheRow.holds Try.pinned (OpenSpec.ofChange fnExactFlushCacheWrong)

/-- 'laws.FnExactCacheFits': WHATEVER THE INPUT: true; the input reads as it did. -/
def fnExactCacheFitsSpec : ChangeSpec := { name := "fnExactCacheFits", fn := fun _ => fun
  | [d1, d2, d3] => { results := [.lit (.bool true)], args := [d1, d2, d3] }
  | _ => none }
def fnExactCacheFitsRow : OpenClaim := { program := "ytoojkiihbpnfdaa", sum := "8373207120625fffb085ddf29ff56fbcc37a192376e38cecc1ae3a4c135ce6e9", func := "loop.example/g00213/laws.FnExactCacheFits", spec := "fnExactCacheFits", unfollowed := true, recurses := true, apart := false }
def FnExactCacheFitsSaid : Prop := fnExactCacheFitsRow.holds Try.pinned (OpenSpec.ofChange fnExactCacheFitsSpec)

/-- ITS FALSE NEIGHBOUR: 'it returns false'. Refute it at one input. -/
def fnExactCacheFitsWrong : ChangeSpec := { name := "fnExactCacheFits", fn := fun _ => fun
  | [d1, d2, d3] => { results := [.lit (.bool false)], args := [d1, d2, d3] }
  | _ => none }
def FnExactCacheFitsWrongFalsely : Prop := fnExactCacheFitsRow.holds Try.pinned (OpenSpec.ofChange fnExactCacheFitsWrong)

/-- 'laws.FnFills': WHATEVER THE INPUT: true; the input reads as it did. -/
def fnFillsSpec : ChangeSpec := { name := "fnFills", fn := fun _ => fun
  | [d] => { results := [.lit (.bool true)], args := [d] }
  | _ => none }
def fnFillsRow : OpenClaim := { program := "ytoojkiihbpnfdaa", sum := "8373207120625fffb085ddf29ff56fbcc37a192376e38cecc1ae3a4c135ce6e9", func := "loop.example/g00213/laws.FnFills", spec := "fnFills", unfollowed := true, recurses := true, apart := false }
def FnFillsSaid : Prop := fnFillsRow.holds Try.pinned (OpenSpec.ofChange fnFillsSpec)

/-- ITS FALSE NEIGHBOUR: 'it returns false'. Refute it at one input. -/
def fnFillsWrong : ChangeSpec := { name := "fnFills", fn := fun _ => fun
  | [d] => { results := [.lit (.bool false)], args := [d] }
  | _ => none }
def FnFillsWrongFalsely : Prop := fnFillsRow.holds Try.pinned (OpenSpec.ofChange fnFillsWrong)

/- THE SECOND FORM. 'bulk': how many values and letters a reading holds, each counted each time it is reached (what is shared counts as often as it is met; a slice's spare places count too). A statement '..UptoSaid' is the law's where the arguments, and the package variables that the reading takes, are together of bulk at most 1048576: NARROWER than '..Said'. Prove '..Said' where nothing that the law and all that it calls make is longer than what came in: it says more and counts as full. Else prove '..UptoSaid'. A law counts once. -/
mutual
def uptoBulk {H : Type} : DataW H → Nat
  | .lit (.string bytes) => bytes.length + 1
  | .lit _ => 1
  | .nil => 1
  | .ptr d => uptoBulk d + 1
  | .slice elems spare => uptoBulkAll elems + uptoBulkAll spare + 1
  | .agg parts => uptoBulkAll parts + 1
  | .iface _ d => uptoBulk d + 1
  | .map entries => uptoBulkEntries entries + 1
  | .held _ => 1
def uptoBulkAll {H : Type} : List (DataW H) → Nat
  | [] => 0
  | d :: r => uptoBulk d + uptoBulkAll r
def uptoBulkEntries {H : Type} : List (Lit × DataW H) → Nat
  | [] => 0
  | x :: r => uptoBulkEntry x + uptoBulkEntries r
def uptoBulkEntry {H : Type} : Lit × DataW H → Nat
  | (.string bytes, d) => bytes.length + uptoBulk d + 1
  | (_, d) => uptoBulk d + 1
 end
def uptoSmall : (H : Type) → List (DataW H) → Bool := fun _ ds => decide (uptoBulkAll ds ≤ 1048576)
def OpenSpec.upto (s : _root_.Go.ChangeSpec) : _root_.Go.OpenSpec := { _root_.Go.OpenSpec.ofChange s with cond := some uptoSmall }

/-- 'laws.FnExactFillCache', WHERE WHAT IT READS IS OF BULK AT MOST 1048576: true; the input reads as it did. -/
def fnExactFillCacheUptoRow : OpenClaim := { program := "ytoojkiihbpnfdaa", sum := "8373207120625fffb085ddf29ff56fbcc37a192376e38cecc1ae3a4c135ce6e9", func := "loop.example/g00213/laws.FnExactFillCache", spec := "fnExactFillCache", unfollowed := true, recurses := true, apart := false, narrowed := true }
def FnExactFillCacheUptoSaid : Prop := fnExactFillCacheUptoRow.holds Try.pinned (OpenSpec.upto fnExactFillCacheSpec)

/-- 'laws.FnExactCacheFault', WHERE WHAT IT READS IS OF BULK AT MOST 1048576: true; the input reads as it did. -/
def fnExactCacheFaultUptoRow : OpenClaim := { program := "ytoojkiihbpnfdaa", sum := "8373207120625fffb085ddf29ff56fbcc37a192376e38cecc1ae3a4c135ce6e9", func := "loop.example/g00213/laws.FnExactCacheFault", spec := "fnExactCacheFault", unfollowed := true, recurses := true, apart := false, narrowed := true }
def FnExactCacheFaultUptoSaid : Prop := fnExactCacheFaultUptoRow.holds Try.pinned (OpenSpec.upto fnExactCacheFaultSpec)

/-- 'laws.FnExactFindHit', WHERE WHAT IT READS IS OF BULK AT MOST 1048576: true; the input reads as it did. -/
def fnExactFindHitUptoRow : OpenClaim := { program := "ytoojkiihbpnfdaa", sum := "8373207120625fffb085ddf29ff56fbcc37a192376e38cecc1ae3a4c135ce6e9", func := "loop.example/g00213/laws.FnExactFindHit", spec := "fnExactFindHit", unfollowed := true, recurses := true, apart := false, narrowed := true }
def FnExactFindHitUptoSaid : Prop := fnExactFindHitUptoRow.holds Try.pinned (OpenSpec.upto fnExactFindHitSpec)

/-- 'laws.FnExactFlushCache', WHERE WHAT IT READS IS OF BULK AT MOST 1048576: true; the input reads as it did. -/
def fnExactFlushCacheUptoRow : OpenClaim := { program := "ytoojkiihbpnfdaa", sum := "8373207120625fffb085ddf29ff56fbcc37a192376e38cecc1ae3a4c135ce6e9", func := "loop.example/g00213/laws.FnExactFlushCache", spec := "fnExactFlushCache", unfollowed := true, recurses := true, apart := false, narrowed := true }
def FnExactFlushCacheUptoSaid : Prop := fnExactFlushCacheUptoRow.holds Try.pinned (OpenSpec.upto fnExactFlushCacheSpec)

/-- 'laws.FnExactCacheFits', WHERE WHAT IT READS IS OF BULK AT MOST 1048576: true; the input reads as it did. -/
def fnExactCacheFitsUptoRow : OpenClaim := { program := "ytoojkiihbpnfdaa", sum := "8373207120625fffb085ddf29ff56fbcc37a192376e38cecc1ae3a4c135ce6e9", func := "loop.example/g00213/laws.FnExactCacheFits", spec := "fnExactCacheFits", unfollowed := true, recurses := true, apart := false, narrowed := true }
def FnExactCacheFitsUptoSaid : Prop := fnExactCacheFitsUptoRow.holds Try.pinned (OpenSpec.upto fnExactCacheFitsSpec)

/-- 'laws.FnFills', WHERE WHAT IT READS IS OF BULK AT MOST 1048576: true; the input reads as it did. -/
def fnFillsUptoRow : OpenClaim := { program := "ytoojkiihbpnfdaa", sum := "8373207120625fffb085ddf29ff56fbcc37a192376e38cecc1ae3a4c135ce6e9", func := "loop.example/g00213/laws.FnFills", spec := "fnFills", unfollowed := true, recurses := true, apart := false, narrowed := true }
def FnFillsUptoSaid : Prop := fnFillsUptoRow.holds Try.pinned (OpenSpec.upto fnFillsSpec)

end Rows
end Go.Proofs.Ytoojkiihbpnfdaa
