/-
  No cell of these rows narrows 'for every input' (looked for: loops, veiled, ifaces, maps, wideKeys, modest, calm, conditions, laid).
  DERIVED. THE GIVEN ROWS OF THIS SEAT. 7 by the template 'for every input the law returns true; each argument reads behind the call as it read before'; 0 by the template 'total and deterministic' (their statements: YtddnkakkejeacaaTotals.lean).
  GIVEN WITH THE SEED: the statements are not yours to turn. If you find one false, say at which input.
  Laid BY PROGRAM, IN A SANDBOX (cutbox-rows.mjs): the forced cells as the released guide's own fill.sh prints them over the translation 83c4abce0f68ec3f… (all of the seat's roots in one cut). By AI agents, Wed Nov 11 2026. No macro, syntax, notation, axiom, sorry.
-/
import Derived.Test.YtddnkakkejeacaaChecked
import GoSem.Claim
import GoSem.ClaimJoined
import GoSem.ClaimMapViews
import Derived.JoinedTies
import Derived.KernelRfl
namespace Go.Proofs.Ytddnkakkejeacaa
/- THE CELL 'sum', in the pinned program and in every row, IS THE sha256 OF THE DUMP (.gsa) THAT YtddnkakkejeacaaProg.lean LOADS. Nothing in Lean hashes anything: it is a label: what it is worth is what the hold of that sum in a sandbox is worth. -/
noncomputable def Try.pinned : Pinned := { name := "ytddnkakkejeacaa", sum := "83c4abce0f68ec3f769f37ec0570efbedd9eb06c21733a751433e03d222fb57a", checked := Try.checked }
namespace Rows
def none {H : Type} : Left H := { results := [], args := [] }

/-- 'laws.FnExactReadWord': WHATEVER THE INPUT: true; the input reads as it did. -/
def fnExactReadWordSpec : ChangeSpec := { name := "fnExactReadWord", fn := fun _ => fun
  | [d1, d2] => { results := [.lit (.bool true)], args := [d1, d2] }
  | _ => none }
def fnExactReadWordRow : OpenClaim := { program := "ytddnkakkejeacaa", sum := "83c4abce0f68ec3f769f37ec0570efbedd9eb06c21733a751433e03d222fb57a", func := "loop.example/g00213/laws.FnExactReadWord", spec := "fnExactReadWord", unfollowed := true, recurses := true, apart := false }
def FnExactReadWordSaid : Prop := fnExactReadWordRow.holds Try.pinned (OpenSpec.ofChange fnExactReadWordSpec)

/-- ITS FALSE NEIGHBOUR: 'it returns false'. Refute it at one input. -/
def fnExactReadWordWrong : ChangeSpec := { name := "fnExactReadWord", fn := fun _ => fun
  | [d1, d2] => { results := [.lit (.bool false)], args := [d1, d2] }
  | _ => none }
def FnExactReadWordWrongFalsely : Prop := fnExactReadWordRow.holds Try.pinned (OpenSpec.ofChange fnExactReadWordWrong)

/-- 'laws.FnExactWriteWord': WHATEVER THE INPUT: true; the input reads as it did. -/
def fnExactWriteWordSpec : ChangeSpec := { name := "fnExactWriteWord", fn := fun _ => fun
  | [d1, d2, d3] => { results := [.lit (.bool true)], args := [d1, d2, d3] }
  | _ => none }
def fnExactWriteWordRow : OpenClaim := { program := "ytddnkakkejeacaa", sum := "83c4abce0f68ec3f769f37ec0570efbedd9eb06c21733a751433e03d222fb57a", func := "loop.example/g00213/laws.FnExactWriteWord", spec := "fnExactWriteWord", unfollowed := true, recurses := true, apart := false }
def FnExactWriteWordSaid : Prop := fnExactWriteWordRow.holds Try.pinned (OpenSpec.ofChange fnExactWriteWordSpec)

/-- ITS FALSE NEIGHBOUR: 'it returns false'. Refute it at one input. -/
def fnExactWriteWordWrong : ChangeSpec := { name := "fnExactWriteWord", fn := fun _ => fun
  | [d1, d2, d3] => { results := [.lit (.bool false)], args := [d1, d2, d3] }
  | _ => none }
def FnExactWriteWordWrongFalsely : Prop := fnExactWriteWordRow.holds Try.pinned (OpenSpec.ofChange fnExactWriteWordWrong)

/-- 'laws.FnMemories': WHATEVER THE INPUT: true; the input reads as it did. -/
def fnMemoriesSpec : ChangeSpec := { name := "fnMemories", fn := fun _ => fun
  | [d] => { results := [.lit (.bool true)], args := [d] }
  | _ => none }
def fnMemoriesRow : OpenClaim := { program := "ytddnkakkejeacaa", sum := "83c4abce0f68ec3f769f37ec0570efbedd9eb06c21733a751433e03d222fb57a", func := "loop.example/g00213/laws.FnMemories", spec := "fnMemories", unfollowed := true, recurses := true, apart := false }
def FnMemoriesSaid : Prop := fnMemoriesRow.holds Try.pinned (OpenSpec.ofChange fnMemoriesSpec)

/-- ITS FALSE NEIGHBOUR: 'it returns false'. Refute it at one input. -/
def fnMemoriesWrong : ChangeSpec := { name := "fnMemories", fn := fun _ => fun
  | [d] => { results := [.lit (.bool false)], args := [d] }
  | _ => none }
def FnMemoriesWrongFalsely : Prop := fnMemoriesRow.holds Try.pinned (OpenSpec.ofChange fnMemoriesWrong)

/-- 'laws.FnExactWipeRegion': WHATEVER THE INPUT: true; the input reads as it did. -/
def fnExactWipeRegionSpec : ChangeSpec := { name := "fnExactWipeRegion", fn := fun _ => fun
  | [d1, d2] => { results := [.lit (.bool true)], args := [d1, d2] }
  | _ => none }
def fnExactWipeRegionRow : OpenClaim := { program := "ytddnkakkejeacaa", sum := "83c4abce0f68ec3f769f37ec0570efbedd9eb06c21733a751433e03d222fb57a", func := "loop.example/g00213/laws.FnExactWipeRegion", spec := "fnExactWipeRegion", unfollowed := true, recurses := true, apart := false }
def FnExactWipeRegionSaid : Prop := fnExactWipeRegionRow.holds Try.pinned (OpenSpec.ofChange fnExactWipeRegionSpec)

/-- ITS FALSE NEIGHBOUR: 'it returns false'. Refute it at one input. -/
def fnExactWipeRegionWrong : ChangeSpec := { name := "fnExactWipeRegion", fn := fun _ => fun
  | [d1, d2] => { results := [.lit (.bool false)], args := [d1, d2] }
  | _ => none }
def FnExactWipeRegionWrongFalsely : Prop := fnExactWipeRegionRow.holds Try.pinned (OpenSpec.ofChange fnExactWipeRegionWrong)

/-- 'laws.FnRegions': WHATEVER THE INPUT: true; the input reads as it did. -/
def fnRegionsSpec : ChangeSpec := { name := "fnRegions", fn := fun _ => fun
  | [d] => { results := [.lit (.bool true)], args := [d] }
  | _ => none }
def fnRegionsRow : OpenClaim := { program := "ytddnkakkejeacaa", sum := "83c4abce0f68ec3f769f37ec0570efbedd9eb06c21733a751433e03d222fb57a", func := "loop.example/g00213/laws.FnRegions", spec := "fnRegions", unfollowed := true, recurses := true, apart := false }
def FnRegionsSaid : Prop := fnRegionsRow.holds Try.pinned (OpenSpec.ofChange fnRegionsSpec)

/-- ITS FALSE NEIGHBOUR: 'it returns false'. Refute it at one input. -/
def fnRegionsWrong : ChangeSpec := { name := "fnRegions", fn := fun _ => fun
  | [d] => { results := [.lit (.bool false)], args := [d] }
  | _ => none }
def FnRegionsWrongFalsely : Prop := fnRegionsRow.holds Try.pinned (OpenSpec.ofChange fnRegionsWrong)

/-- 'laws.FnExactRegionsApart': WHATEVER THE INPUT: true; the input reads as it did. -/
def fnExactRegionsApartSpec : ChangeSpec := { name := "fnExactRegionsApart", fn := fun _ => fun
  | [d] => { results := [.lit (.bool true)], args := [d] }
  | _ => none }
def fnExactRegionsApartRow : OpenClaim := { program := "ytddnkakkejeacaa", sum := "83c4abce0f68ec3f769f37ec0570efbedd9eb06c21733a751433e03d222fb57a", func := "loop.example/g00213/laws.FnExactRegionsApart", spec := "fnExactRegionsApart", unfollowed := true, recurses := true, apart := false }
def FnExactRegionsApartSaid : Prop := fnExactRegionsApartRow.holds Try.pinned (OpenSpec.ofChange fnExactRegionsApartSpec)

/-- ITS FALSE NEIGHBOUR: 'it returns false'. Refute it at one input. -/
def fnExactRegionsApartWrong : ChangeSpec := { name := "fnExactRegionsApart", fn := fun _ => fun
  | [d] => { results := [.lit (.bool false)], args := [d] }
  | _ => none }
def FnExactRegionsApartWrongFalsely : Prop := fnExactRegionsApartRow.holds Try.pinned (OpenSpec.ofChange fnExactRegionsApartWrong)

/-- 'laws.FnExactPagesOf': WHATEVER THE INPUT: true; the input reads as it did. -/
def fnExactPagesOfSpec : ChangeSpec := { name := "fnExactPagesOf", fn := fun _ => fun
  | [d] => { results := [.lit (.bool true)], args := [d] }
  | _ => none }
def fnExactPagesOfRow : OpenClaim := { program := "ytddnkakkejeacaa", sum := "83c4abce0f68ec3f769f37ec0570efbedd9eb06c21733a751433e03d222fb57a", func := "loop.example/g00213/laws.FnExactPagesOf", spec := "fnExactPagesOf", apart := false }
def FnExactPagesOfSaid : Prop := fnExactPagesOfRow.holds Try.pinned (OpenSpec.ofChange fnExactPagesOfSpec)

/-- ITS FALSE NEIGHBOUR: 'it returns false'. Refute it at one input. -/
def fnExactPagesOfWrong : ChangeSpec := { name := "fnExactPagesOf", fn := fun _ => fun
  | [d] => { results := [.lit (.bool false)], args := [d] }
  | _ => none }
def FnExactPagesOfWrongFalsely : Prop := fnExactPagesOfRow.holds Try.pinned (OpenSpec.ofChange fnExactPagesOfWrong)

/- THE SECOND FORM. 'bulk': how many values and letters a reading holds, each counted each time it is reached (what is shared counts as often as it is met; a slice's spare places count too). A statement '..UptoSaid' is the law's where the arguments, and the package variables that the reading takes, are together of bulk at most 1048576: NARROWER than '..Said'. Prove '..Said' where nothing that the law and all that it calls make is longer than what came in: it says more and counts as full. Else prove '..UptoSaid'. A law counts once. -/
mutual
def uptoBulk {H : Type} : DataW H → Nat
  | .lit (.string bytes) => bytes.length + 1
  | .lit _ => 1
  | .nil => 1
  | .ptr d => uptoBulk d + 1
  | .slice elems spare => uptoBulkAll elems + uptoBulkAll spare + 1
  | .agg parts => uptoBulkAll parts + 1
  | .iface _ d => uptoBulk d + 1
  | .map entries => uptoBulkEntries entries + 1
  | .held _ => 1
def uptoBulkAll {H : Type} : List (DataW H) → Nat
  | [] => 0
  | d :: r => uptoBulk d + uptoBulkAll r
def uptoBulkEntries {H : Type} : List (Lit × DataW H) → Nat
  | [] => 0
  | x :: r => uptoBulkEntry x + uptoBulkEntries r
def uptoBulkEntry {H : Type} : Lit × DataW H → Nat
  | (.string bytes, d) => bytes.length + uptoBulk d + 1
  | (_, d) => uptoBulk d + 1
 end
def uptoSmall : (H : Type) → List (DataW H) → Bool := fun _ ds => decide (uptoBulkAll ds ≤ 1048576)
def OpenSpec.upto (s : _root_.Go.ChangeSpec) : _root_.Go.OpenSpec := { _root_.Go.OpenSpec.ofChange s with cond := some uptoSmall }

/-- 'laws.FnExactReadWord', WHERE WHAT IT READS IS OF BULK AT MOST 1048576: true; the input reads as it did. -/
def fnExactReadWordUptoRow : OpenClaim := { program := "ytddnkakkejeacaa", sum := "83c4abce0f68ec3f769f37ec0570efbedd9eb06c21733a751433e03d222fb57a", func := "loop.example/g00213/laws.FnExactReadWord", spec := "fnExactReadWord", unfollowed := true, recurses := true, apart := false, narrowed := true }
def FnExactReadWordUptoSaid : Prop := fnExactReadWordUptoRow.holds Try.pinned (OpenSpec.upto fnExactReadWordSpec)

/-- 'laws.FnExactWriteWord', WHERE WHAT IT READS IS OF BULK AT MOST 1048576: true; the input reads as it did. -/
def fnExactWriteWordUptoRow : OpenClaim := { program := "ytddnkakkejeacaa", sum := "83c4abce0f68ec3f769f37ec0570efbedd9eb06c21733a751433e03d222fb57a", func := "loop.example/g00213/laws.FnExactWriteWord", spec := "fnExactWriteWord", unfollowed := true, recurses := true, apart := false, narrowed := true }
def FnExactWriteWordUptoSaid : Prop := fnExactWriteWordUptoRow.holds Try.pinned (OpenSpec.upto fnExactWriteWordSpec)

/-- 'laws.FnMemories', WHERE WHAT IT READS IS OF BULK AT MOST 1048576: true; the input reads as it did. -/
def fnMemoriesUptoRow : OpenClaim := { program := "ytddnkakkejeacaa", sum := "83c4abce0f68ec3f769f37ec0570efbedd9eb06c21733a751433e03d222fb57a", func := "loop.example/g00213/laws.FnMemories", spec := "fnMemories", unfollowed := true, recurses := true, apart := false, narrowed := true }
def FnMemoriesUptoSaid : Prop := fnMemoriesUptoRow.holds Try.pinned (OpenSpec.upto fnMemoriesSpec)

/-- 'laws.FnExactWipeRegion', WHERE WHAT IT READS IS OF BULK AT MOST 1048576: true; the input reads as it did. -/
def fnExactWipeRegionUptoRow : OpenClaim := { program := "ytddnkakkejeacaa", sum := "83c4abce0f68ec3f769f37ec0570efbedd9eb06c21733a751433e03d222fb57a", func := "loop.example/g00213/laws.FnExactWipeRegion", spec := "fnExactWipeRegion", unfollowed := true, recurses := true, apart := false, narrowed := true }
def FnExactWipeRegionUptoSaid : Prop := fnExactWipeRegionUptoRow.holds Try.pinned (OpenSpec.upto fnExactWipeRegionSpec)

/-- 'laws.FnRegions', WHERE WHAT IT READS IS OF BULK AT MOST 1048576: true; the input reads as it did. -/
def fnRegionsUptoRow : OpenClaim := { program := "ytddnkakkejeacaa", sum := "83c4abce0f68ec3f769f37ec0570efbedd9eb06c21733a751433e03d222fb57a", func := "loop.example/g00213/laws.FnRegions", spec := "fnRegions", unfollowed := true, recurses := true, apart := false, narrowed := true }
def FnRegionsUptoSaid : Prop := fnRegionsUptoRow.holds Try.pinned (OpenSpec.upto fnRegionsSpec)

/-- 'laws.FnExactRegionsApart', WHERE WHAT IT READS IS OF BULK AT MOST 1048576: true; the input reads as it did. -/
def fnExactRegionsApartUptoRow : OpenClaim := { program := "ytddnkakkejeacaa", sum := "83c4abce0f68ec3f769f37ec0570efbedd9eb06c21733a751433e03d222fb57a", func := "loop.example/g00213/laws.FnExactRegionsApart", spec := "fnExactRegionsApart", unfollowed := true, recurses := true, apart := false, narrowed := true }
def FnExactRegionsApartUptoSaid : Prop := fnExactRegionsApartUptoRow.holds Try.pinned (OpenSpec.upto fnExactRegionsApartSpec)

/-- 'laws.FnExactPagesOf', WHERE WHAT IT READS IS OF BULK AT MOST 1048576: true; the input reads as it did. -/
def fnExactPagesOfUptoRow : OpenClaim := { program := "ytddnkakkejeacaa", sum := "83c4abce0f68ec3f769f37ec0570efbedd9eb06c21733a751433e03d222fb57a", func := "loop.example/g00213/laws.FnExactPagesOf", spec := "fnExactPagesOf", apart := false, narrowed := true }
def FnExactPagesOfUptoSaid : Prop := fnExactPagesOfUptoRow.holds Try.pinned (OpenSpec.upto fnExactPagesOfSpec)

end Rows
end Go.Proofs.Ytddnkakkejeacaa
