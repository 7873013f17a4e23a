/- FnExactFlushCache returns true and changes nothing that was there, for every input. No condition. (The row; the walk and the pure statement stand in the texts that it imports.) -/
import Derived.Test.YtoojkiihbpnfdaaRows
import Derived.Test.YtoojkiihbpnfdaaPFnExactFlushCachex5
import Derived.Test.YtoojkiihbpnfdaaPureFnExactFlushCache
import Derived.Test.YtoojkiihbpnfdaaLemRow
import Derived.WalkKit
import Derived.ProofKit
import Derived.OpenShut
import Derived.ShutString
import Derived.ChangeOld
import Derived.Below
import Derived.SizedLaws
import Derived.Lib.SmallJoins
import Derived.Test.YtoojkiihbpnfdaaWSized
namespace Go.Proofs.Ytoojkiihbpnfdaa.fnExactFlushCache
open Go.ChangeShapes Go.WideShapes Go.ChangeAt Go.RowKit
open Go.Joins (open_agg2 open_agg3 open_agg4)
open Go.Proofs.Ytoojkiihbpnfdaa.LemRow Go.Proofs.Ytoojkiihbpnfdaa.PFnExactFlushCache Go.Proofs.YtoojkiihbpnfdaaW.PrintWords
set_option linter.unusedVariables false
theorem own : ownKnob Try.prog.godebug = none := by kernel_rfl
theorem laidOut : laidOutB Try.prog = true := by kernel_rfl
theorem cells24 : Try.prog.cellsOf 24 = 4 := by kernel_rfl
theorem fields_24 (j : Nat) (f : Field) (hj : ((Try.prog.underlying 24).bind (fun d => match d with | .struct fs => some fs | _ => none)).bind (fun fs => fs[j]?) = some f) : Try.prog.underlying f.type = some (.int .i64) := by
  rw [Try.underlying24] at hj
  match j, hj with
  | 0, hj => simp at hj; subst hj; exact Try.underlying2
  | 1, hj => simp at hj; subst hj; exact Try.underlying2
  | 2, hj => simp at hj; subst hj; exact Try.underlying2
  | 3, hj => simp at hj; subst hj; exact Try.underlying2
  | q + 4, hj => simp at hj
set_option maxRecDepth 100000 in
theorem lifted (os : Os) (started : os.Started) (H : Type) (enc : TypeId × Value → H) :
    ReturnsInHanded {} Try.checked os 6 .any (Rows.fnExactFlushCacheSpec.pre6 enc Try.prog Try.f6 Rows.fnExactFlushCacheRow.domain false) (Rows.fnExactFlushCacheSpec.post enc Try.prog Try.f6 false true false false) := by
  refine returnsInHanded_of_change_sized (C := Try.checked) own started (by kernel_rfl) Try.func6
    (ChangeSpec.witness6 (enc := enc) (C := Try.checked) false ⟨#[], #[.slice none 0 0, .int .i64 0], []⟩ 8 (by kernel_rfl) (by kernel_rfl) (by kernel_rfl) (by kernel_rfl)) ?_
  intro W base args ds gs before hval0 hW hcnd hsz0 _
  have hsz : (DataW.weightsEach Try.prog (Try.f6.params.toList ++ Rows.fnExactFlushCacheSpec.plain.varTypes Try.prog) (ds ++ gs)).all (· ≤ reachBytes) = true := hsz0
  have hval : ∀ (j : Nat) t v, Try.f6.params[j]? = some t → args[j]? = some v → Value.okWide Try.prog W .any base t v := hval0
  have hW' := hW
  obtain ⟨p, q, hA0, hV, rfl, hfz, hnd⟩ := hW
  have hA : DataW.TrodAll enc Try.prog W 0 (fun _ => true) true Try.f6.params.toList args.toList ds p := hA0
  rw [Try.params6] at hA hval hsz
  obtain ⟨v0, vs0, d0, ds0, p0, q0, hargs, rfl, rfl, h0, r0⟩ := trodAll_cons hA
  obtain ⟨v1, vs1, d1, ds1, p1, q1, rfl, rfl, rfl, h1, r1⟩ := trodAll_cons r0
  obtain ⟨rfl, rfl, rfl⟩ := trodAll_nil r1
  obtain rfl : args = #[v0, v1] := by cases args; simp_all
  obtain ⟨rfl, rfl⟩ := trodVars_none hV
  have k0 := h0
  have lt0 : ∀ x ∈ p0, x.block < W.heap.size := by obtain ⟨m, hm⟩ := k0; exact DataW.trod_lt m _ _ _ hm
  obtain ⟨A0, len0, cap0, rfl⟩ := okWide_slice Try.underlying22 (hval 0 22 v0 rfl rfl)
  obtain ⟨zs0, hl0, hlc0, hcm0, hz0⟩ := row_ints Try.underlying22 Try.underlying24 (by kernel_rfl) cells24 (by decide) (fun j f hj => fields_24 j f hj) h0
  obtain ⟨l0, rfl, hr0, hw0⟩ : ∃ l : List S24, l.length = len0 ∧ Kd.C k24 W A0 len0 l ∧ ∀ x ∈ l, (Lit.int .i64 x.f0).wf = true ∧ (Lit.int .i64 x.f1).wf = true ∧ (Lit.int .i64 x.f2).wf = true ∧ (Lit.int .i64 x.f3).wf = true := by
    refine ⟨zs0.map fun z => ⟨z.getD 0 0, z.getD 1 0, z.getD 2 0, z.getD 3 0⟩, by simpa using hl0, ⟨by simpa using hl0, by unfold maxLen at hcm0; omega, fun hpos => ?_⟩, fun x hx => ?_⟩
    · obtain ⟨a, rfl, hc⟩ := hz0 hpos
      refine ⟨a, rfl, fun j x hj => ?_⟩
      simp only [List.getElem?_map, Option.map_eq_some_iff] at hj
      obtain ⟨z, hz, rfl⟩ := hj
      obtain ⟨hzl, hzc⟩ := hc j z hz
      obtain ⟨b0, b1, b2, b3, rfl⟩ := len_4 hzl
      refine ⟨_, ?_, k24_mk W _, fun q u hu => ?_⟩
      · rfl
      · have key := hzc q
        match q, hu with
        | 0, hu => obtain rfl := Option.some.inj hu; exact (key b0 rfl).1
        | 1, hu => obtain rfl := Option.some.inj hu; exact (key b1 rfl).1
        | 2, hu => obtain rfl := Option.some.inj hu; exact (key b2 rfl).1
        | 3, hu => obtain rfl := Option.some.inj hu; exact (key b3 rfl).1
        | q + 4, hu => simp at hu
    · simp only [List.mem_map] at hx
      obtain ⟨z, hz, rfl⟩ := hx
      obtain ⟨j, hj, hjz⟩ := List.mem_iff_getElem.mp hz
      have hpos : 0 < len0 := by omega
      obtain ⟨a, rfl, hc⟩ := hz0 hpos
      obtain ⟨hzl, hzc⟩ := hc j z (by rw [List.getElem?_eq_getElem hj, hjz])
      obtain ⟨b0, b1, b2, b3, rfl⟩ := len_4 hzl
      exact ⟨(hzc 0 b0 rfl).2, (hzc 1 b1 rfl).2, (hzc 2 b2 rfl).2, (hzc 3 b3 rfl).2⟩
  have hm0 : l0.length ≤ maxLen := Nat.le_trans hlc0 hcm0
  obtain ⟨a1, rfl, rfl, rfl, w1⟩ := open_int Try.underlying2 (hval 1 2 v1 rfl rfl) h1
  clear hA0 hval0 hsz0 hsz
  refine (PFnExactFlushCache.laws_FnExactFlushCache.walk Pure.FnExactFlushCache l0 a1 W A0 cap0 hr0 hlc0 hm0 hw0 w1).mono fun e W' ⟨he, bel⟩ => ?_
  subst he
  exact ⟨_, rfl, _, _, _, [], _, [], hW', trodAll_mk1 (shut_bool Try.underlying4 _), (trodAll_cons_mk (Below.trod laidOut (by kernel_rfl) (of_decide_eq_true (by kernel_rfl)) k0 bel lt0) (trodAll_cons_mk (shut_int Try.underlying2 w1) trodAll_mk0)), rfl, bel.frame _, fun h => by cases h⟩
theorem over : Rows.fnExactFlushCacheRow.holds Try.pinned (OpenSpec.ofChange Rows.fnExactFlushCacheSpec) :=
  OpenClaim.holds_of_wide 6 Try.f6 rfl rfl rfl rfl rfl rfl rfl ⟨rfl, rfl, rfl, rfl, rfl⟩ rfl rfl rfl rfl rfl (by kernel_rfl) Try.func6 (by kernel_rfl)
    (of_decide_eq_true (by kernel_rfl)) (by unfold Func.isWrapper; first | (rw [if_pos (by decide +kernel)]; kernel_rfl) | (rw [if_neg (by decide +kernel)]; exact ⟨rfl, rfl⟩))
    (fun os started H enc _ => lifted os started H enc)
theorem proved : Rows.FnExactFlushCacheSaid := over
#print axioms proved
end Go.Proofs.Ytoojkiihbpnfdaa.fnExactFlushCache
namespace Go.Proofs.Ytoojkiihbpnfdaa
/-- The row, under a short name, for the claim. -/
theorem fnExactFlushCache_holds : Rows.FnExactFlushCacheSaid := fnExactFlushCache.proved
end Go.Proofs.Ytoojkiihbpnfdaa
