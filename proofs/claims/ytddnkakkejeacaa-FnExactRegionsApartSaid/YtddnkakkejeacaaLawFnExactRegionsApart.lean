/- FnExactRegionsApart returns true and changes nothing that was there, for every input. No condition. (The row; the walk and the pure statement stand in the texts that it imports.) -/
import Derived.Test.YtddnkakkejeacaaRows
import Derived.Test.YtddnkakkejeacaaPFnExactRegionsApartx3
import Derived.Test.YtddnkakkejeacaaPureFnExactRegionsApart
import Derived.Test.YtddnkakkejeacaaLemRow
import Derived.WalkKit
import Derived.ProofKit
import Derived.OpenShut
import Derived.ShutString
import Derived.ChangeOld
import Derived.Below
import Derived.SizedLaws
import Derived.Lib.SmallJoins
import Derived.Test.YtddnkakkejeacaaWSized
namespace Go.Proofs.Ytddnkakkejeacaa.fnExactRegionsApart
open Go.ChangeShapes Go.WideShapes Go.ChangeAt Go.RowKit
open Go.Joins (open_agg2 open_agg3 open_agg4)
open Go.Proofs.Ytddnkakkejeacaa.LemRow Go.Proofs.Ytddnkakkejeacaa.PFnExactRegionsApart Go.Proofs.YtddnkakkejeacaaW.PrintWords
set_option linter.unusedVariables false
theorem own : ownKnob Try.prog.godebug = none := by kernel_rfl
theorem laidOut : laidOutB Try.prog = true := by kernel_rfl
theorem cells45 : Try.prog.cellsOf 45 = 2 := by kernel_rfl
theorem fields_45 (j : Nat) (f : Field) (hj : ((Try.prog.underlying 45).bind (fun d => match d with | .struct fs => some fs | _ => none)).bind (fun fs => fs[j]?) = some f) : Try.prog.underlying f.type = some (.int .i64) := by
  rw [Try.underlying45] at hj
  match j, hj with
  | 0, hj => simp at hj; subst hj; exact Try.underlying2
  | 1, hj => simp at hj; subst hj; exact Try.underlying2
  | q + 2, hj => simp at hj
set_option maxRecDepth 100000 in
theorem lifted (os : Os) (started : os.Started) (H : Type) (enc : TypeId × Value → H) :
    ReturnsInHanded {} Try.checked os 8 .any (Rows.fnExactRegionsApartSpec.pre6 enc Try.prog Try.f8 Rows.fnExactRegionsApartRow.domain false) (Rows.fnExactRegionsApartSpec.post enc Try.prog Try.f8 false true false false) := by
  refine returnsInHanded_of_change_sized (C := Try.checked) own started (by kernel_rfl) Try.func8
    (ChangeSpec.witness6 (enc := enc) (C := Try.checked) false ⟨#[], #[.slice none 0 0], []⟩ 8 (by kernel_rfl) (by kernel_rfl) (by kernel_rfl) (by kernel_rfl)) ?_
  intro W base args ds gs before hval0 hW hcnd hsz0 _
  have hsz : (DataW.weightsEach Try.prog (Try.f8.params.toList ++ Rows.fnExactRegionsApartSpec.plain.varTypes Try.prog) (ds ++ gs)).all (· ≤ reachBytes) = true := hsz0
  have hval : ∀ (j : Nat) t v, Try.f8.params[j]? = some t → args[j]? = some v → Value.okWide Try.prog W .any base t v := hval0
  have hW' := hW
  obtain ⟨p, q, hA0, hV, rfl, hfz, hnd⟩ := hW
  have hA : DataW.TrodAll enc Try.prog W 0 (fun _ => true) true Try.f8.params.toList args.toList ds p := hA0
  rw [Try.params8] at hA hval hsz
  obtain ⟨v0, vs0, d0, ds0, p0, q0, hargs, rfl, rfl, h0, r0⟩ := trodAll_cons hA
  obtain ⟨rfl, rfl, rfl⟩ := trodAll_nil r0
  obtain rfl : args = #[v0] := by cases args; simp_all
  obtain ⟨rfl, rfl⟩ := trodVars_none hV
  have k0 := h0
  have lt0 : ∀ x ∈ p0, x.block < W.heap.size := by obtain ⟨m, hm⟩ := k0; exact DataW.trod_lt m _ _ _ hm
  obtain ⟨A0, len0, cap0, rfl⟩ := okWide_slice Try.underlying61 (hval 0 61 v0 rfl rfl)
  obtain ⟨zs0, hl0, hlc0, hcm0, hz0⟩ := row_ints Try.underlying61 Try.underlying45 (by kernel_rfl) cells45 (by decide) (fun j f hj => fields_45 j f hj) h0
  obtain ⟨l0, rfl, hr0, hw0⟩ : ∃ l : List S45, l.length = len0 ∧ Kd.C k45 W A0 len0 l ∧ ∀ x ∈ l, (Lit.int .i64 x.f0).wf = true ∧ (Lit.int .i64 x.f1).wf = true := by
    refine ⟨zs0.map fun z => ⟨z.getD 0 0, z.getD 1 0⟩, by simpa using hl0, ⟨by simpa using hl0, by unfold maxLen at hcm0; omega, fun hpos => ?_⟩, fun x hx => ?_⟩
    · obtain ⟨a, rfl, hc⟩ := hz0 hpos
      refine ⟨a, rfl, fun j x hj => ?_⟩
      simp only [List.getElem?_map, Option.map_eq_some_iff] at hj
      obtain ⟨z, hz, rfl⟩ := hj
      obtain ⟨hzl, hzc⟩ := hc j z hz
      obtain ⟨b0, b1, rfl⟩ := len_2 hzl
      refine ⟨_, ?_, k45_mk W _, fun q u hu => ?_⟩
      · rfl
      · have key := hzc q
        match q, hu with
        | 0, hu => obtain rfl := Option.some.inj hu; exact (key b0 rfl).1
        | 1, hu => obtain rfl := Option.some.inj hu; exact (key b1 rfl).1
        | q + 2, hu => simp at hu
    · simp only [List.mem_map] at hx
      obtain ⟨z, hz, rfl⟩ := hx
      obtain ⟨j, hj, hjz⟩ := List.mem_iff_getElem.mp hz
      have hpos : 0 < len0 := by omega
      obtain ⟨a, rfl, hc⟩ := hz0 hpos
      obtain ⟨hzl, hzc⟩ := hc j z (by rw [List.getElem?_eq_getElem hj, hjz])
      obtain ⟨b0, b1, rfl⟩ := len_2 hzl
      exact ⟨(hzc 0 b0 rfl).2, (hzc 1 b1 rfl).2⟩
  have hm0 : l0.length ≤ maxLen := Nat.le_trans hlc0 hcm0
  clear hA0 hval0 hsz0 hsz
  refine (PFnExactRegionsApart.laws_FnExactRegionsApart.walk Pure.FnExactRegionsApart l0 W A0 cap0 hr0 hlc0 hm0 hw0).mono fun e W' ⟨he, bel⟩ => ?_
  subst he
  exact ⟨_, rfl, _, _, _, [], _, [], hW', trodAll_mk1 (shut_bool Try.underlying4 _), (trodAll_cons_mk (Below.trod laidOut (by kernel_rfl) (of_decide_eq_true (by kernel_rfl)) k0 bel lt0) trodAll_mk0), rfl, bel.frame _, fun h => by cases h⟩
theorem over : Rows.fnExactRegionsApartRow.holds Try.pinned (OpenSpec.ofChange Rows.fnExactRegionsApartSpec) :=
  OpenClaim.holds_of_wide 8 Try.f8 rfl rfl rfl rfl rfl rfl rfl ⟨rfl, rfl, rfl, rfl, rfl⟩ rfl rfl rfl rfl rfl (by kernel_rfl) Try.func8 (by kernel_rfl)
    (of_decide_eq_true (by kernel_rfl)) (by unfold Func.isWrapper; first | (rw [if_pos (by decide +kernel)]; kernel_rfl) | (rw [if_neg (by decide +kernel)]; exact ⟨rfl, rfl⟩))
    (fun os started H enc _ => lifted os started H enc)
theorem proved : Rows.FnExactRegionsApartSaid := over
#print axioms proved
end Go.Proofs.Ytddnkakkejeacaa.fnExactRegionsApart
namespace Go.Proofs.Ytddnkakkejeacaa
/-- The row, under a short name, for the claim. -/
theorem fnExactRegionsApart_holds : Rows.FnExactRegionsApartSaid := fnExactRegionsApart.proved
end Go.Proofs.Ytddnkakkejeacaa
