-- The Go functions of FnFills as Lean functions, each with its proof. Written by the session's own program (wip/gen/hp.py), which drives the kit's print.py.
import Derived.Test.YtoojkiihbpnfdaaPFnFillsx0
import Derived.Test.YtoojkiihbpnfdaaPFnFillsx1
import Derived.Test.YtoojkiihbpnfdaaPFnFillsx2
import Derived.Test.YtoojkiihbpnfdaaPFnFillsx3
import Derived.Test.YtoojkiihbpnfdaaPFnFillsx4
import Derived.Test.YtoojkiihbpnfdaaPFnFillsx7
namespace Go.Proofs.Ytoojkiihbpnfdaa.PFnFills
open Go.RowKit Go.Proofs.YtoojkiihbpnfdaaW.PrintWords Go.Proofs.YtoojkiihbpnfdaaW.PrintLast Go.Proofs.YtoojkiihbpnfdaaW.PrintMore
attribute [local go_sem] max2_int min2_int max_two min_two max_three min_three max_four min_four   -- for this text's walks alone
set_option linter.unusedVariables false
set_option linter.unusedSimpArgs false

attribute [local go_sem high] eqA31
/-! ### laws_FnFills: function 8 -/
mutual
def laws_FnFills.j0 : Nat → List (S31) → Bool → Int → Int → Int → Int → Int → Int → Bool → List (S31) → Option (Bool)
  | 0, _, _, _, _, _, _, _, _, _, _ => none
  | k + 1, x3, x85, x322000, x322001, x322002, x322003, x329000, x329001, x329002, x329003 => if x85 = true then (some false) else (laws_FnFills.l0 k x3 0 0 x322000 x322001 x322002 x322003 x329000 x329001 x329002 x329003)
def laws_FnFills.l0 : Nat → List (S31) → Int → Int → Int → Int → Int → Int → Int → Int → Bool → List (S31) → Option (Bool)
  | 0, _, _, _, _, _, _, _, _, _, _, _ => none
  | k + 1, x3, x8, x9, x322000, x322001, x322002, x322003, x329000, x329001, x329002, x329003 => if x9 < (x3.length : Int) then (if 0 ≤ x9 then (if ((rd_T31 x3 x9).f0) = x322000 then (laws_FnFills.j2 k x3 x8 x9 (((rd_T31 x3 x9).f1) == x322001) x322000 x322001 x322002 x322003 x329000 x329001 x329002 x329003) else (laws_FnFills.j2 k x3 x8 x9 false x322000 x322001 x322002 x322003 x329000 x329001 x329002 x329003)) else (none)) else (if x8 ≤ 1 then (if x8 = 0 then (some true) else (some ((x3.length : Int) == 12))) else (some false))
def laws_FnFills.j2 : Nat → List (S31) → Int → Int → Bool → Int → Int → Int → Int → Int → Int → Bool → List (S31) → Option (Bool)
  | 0, _, _, _, _, _, _, _, _, _, _, _, _ => none
  | k + 1, x3, x8, x9, x109, x322000, x322001, x322002, x322003, x329000, x329001, x329002, x329003 => if x109 = true then (laws_FnFills.l0 k x3 x8 (wrap64 (x9 + 1)) x322000 x322001 x322002 x322003 x329000 x329001 x329002 x329003) else (if 0 ≤ x9 then (if x9 < (x3.length : Int) then ((impl_FindHit.f k x329003 ((rd_T31 x3 x9).f0) ((rd_T31 x3 x9).f1)).bind fun bt353 => (if bt353.1 = 0 then (if 0 ≤ bt353.2 then (if bt353.2 < (x329003.length : Int) then (if (!(((rd_T31 x329003 bt353.2).f0) == ((rd_T31 x3 x9).f0)) || (!(((rd_T31 x329003 bt353.2).f1) == ((rd_T31 x3 x9).f1)) || (!(((rd_T31 x329003 bt353.2).f2) == ((rd_T31 x3 x9).f2)) || (!(((rd_T31 x329003 bt353.2).f3) == ((rd_T31 x3 x9).f3)))))) = true then (some false) else (laws_FnFills.l0 k x3 x8 (wrap64 (x9 + 1)) x322000 x322001 x322002 x322003 x329000 x329001 x329002 x329003)) else (none)) else (none)) else (laws_FnFills.l0 k x3 (wrap64 (x8 + 1)) (wrap64 (x9 + 1)) x322000 x322001 x322002 x322003 x329000 x329001 x329002 x329003))) else (none)) else (none))
end
def laws_FnFills.f (k : Nat) (l0 : List Int) : Option (Bool) := (laws_lwBig.f l0).bind fun t313 => (if t313 = true then (some true) else ((spec_DrawFillCache.f k l0).bind fun bt314 => ((impl_FillCache.f k bt314.1 bt314.2.1 bt314.2.2.1 bt314.2.2.2.1 bt314.2.2.2.2).bind fun bt322 => (if bt322.1 = 0 then ((impl_FindHit.f k bt322.2.2.2 bt314.2.1 bt314.2.2.1).bind fun bt335 => ((impl_FlushCache.f k bt322.2.2.2 bt314.2.1).bind fun bt338 => ((impl_CacheFault.f k bt322.2.2.2).bind fun t345 => (if t345 = 0 then (if bt335.1 = 0 then (if 0 ≤ bt335.2 then (if bt335.2 < (bt322.2.2.2.length : Int) then (if (!(((rd_T31 bt322.2.2.2 bt335.2).f0) == bt314.2.1) || (!(((rd_T31 bt322.2.2.2 bt335.2).f1) == bt314.2.2.1) || (!(((rd_T31 bt322.2.2.2 bt335.2).f2) == bt314.2.2.2.1) || (!(((rd_T31 bt322.2.2.2 bt335.2).f3) == bt314.2.2.2.2))))) = true then (laws_FnFills.j0 k bt314.1 true bt314.2.1 bt314.2.2.1 bt314.2.2.2.1 bt314.2.2.2.2 bt322.1 bt322.2.1 bt322.2.2.1 bt322.2.2.2) else (if bt338.1 = 0 then ((impl_FindHit.f k bt338.2.2.2 bt314.2.1 bt314.2.2.1).bind fun bt347 => (if bt347.1 = 4 then (laws_FnFills.j0 k bt314.1 (decide ((bt322.2.2.2.length : Int) < (bt314.1.length : Int))) bt314.2.1 bt314.2.2.1 bt314.2.2.2.1 bt314.2.2.2.2 bt322.1 bt322.2.1 bt322.2.2.1 bt322.2.2.2) else (laws_FnFills.j0 k bt314.1 true bt314.2.1 bt314.2.2.1 bt314.2.2.2.1 bt314.2.2.2.2 bt322.1 bt322.2.1 bt322.2.2.1 bt322.2.2.2))) else (laws_FnFills.j0 k bt314.1 true bt314.2.1 bt314.2.2.1 bt314.2.2.2.1 bt314.2.2.2.2 bt322.1 bt322.2.1 bt322.2.2.1 bt322.2.2.2))) else (none)) else (none)) else (laws_FnFills.j0 k bt314.1 true bt314.2.1 bt314.2.2.1 bt314.2.2.2.1 bt314.2.2.2.2 bt322.1 bt322.2.1 bt322.2.2.1 bt322.2.2.2)) else (laws_FnFills.j0 k bt314.1 true bt314.2.1 bt314.2.2.1 bt314.2.2.2.1 bt314.2.2.2.2 bt322.1 bt322.2.1 bt322.2.2.1 bt322.2.2.2))))) else ((spec_FillCache.f k bt314.1 bt314.2.1 bt314.2.2.1 bt314.2.2.2.1 bt314.2.2.2.2).bind fun bt329 => (some (bt329.1 == bt322.1)))))))
theorem laws_FnFills.mono_l : ∀ k, (∀ y0 y1 y2 y3 y4 y5 y6 y7 y8 y9, LeO (laws_FnFills.j0 k y0 y1 y2 y3 y4 y5 y6 y7 y8 y9) (laws_FnFills.j0 (k + 1) y0 y1 y2 y3 y4 y5 y6 y7 y8 y9)) ∧ (∀ y0 y1 y2 y3 y4 y5 y6 y7 y8 y9 y10, LeO (laws_FnFills.l0 k y0 y1 y2 y3 y4 y5 y6 y7 y8 y9 y10) (laws_FnFills.l0 (k + 1) y0 y1 y2 y3 y4 y5 y6 y7 y8 y9 y10)) ∧ (∀ y0 y1 y2 y3 y4 y5 y6 y7 y8 y9 y10 y11, LeO (laws_FnFills.j2 k y0 y1 y2 y3 y4 y5 y6 y7 y8 y9 y10 y11) (laws_FnFills.j2 (k + 1) y0 y1 y2 y3 y4 y5 y6 y7 y8 y9 y10 y11))
  | 0 => ⟨fun _ _ _ _ _ _ _ _ _ _ r h => by simp [laws_FnFills.j0] at h, fun _ _ _ _ _ _ _ _ _ _ _ r h => by simp [laws_FnFills.l0] at h, fun _ _ _ _ _ _ _ _ _ _ _ _ r h => by simp [laws_FnFills.j2] at h⟩
  | k + 1 => by
    obtain ⟨ih0, ih1, ih2⟩ := laws_FnFills.mono_l k
    refine ⟨?_, ?_, ?_⟩
    · intro y0 y1 y2 y3 y4 y5 y6 y7 y8 y9
      unfold laws_FnFills.j0
      repeat' first
      | (with_reducible exact ih0 _ _ _ _ _ _ _ _ _ _)
      | (with_reducible exact ih1 _ _ _ _ _ _ _ _ _ _ _)
      | (with_reducible exact ih2 _ _ _ _ _ _ _ _ _ _ _ _)
      | (with_reducible exact impl_CacheFault.mono _ _)
      | (with_reducible exact impl_FillCache.mono _ _ _ _ _ _)
      | (with_reducible exact impl_FindHit.mono _ _ _ _)
      | (with_reducible exact impl_FlushCache.mono _ _ _)
      | (with_reducible exact spec_DrawFillCache.mono _ _)
      | (with_reducible exact spec_FillCache.mono _ _ _ _ _ _)
      | (with_reducible exact LeO.refl _)
      | (with_reducible exact LeO.none _)
      | (with_reducible refine LeO.ite ?_ ?_)
      | (with_reducible refine LeO.bind ?_ (fun _ => ?_))
      | exact ih0 _ _ _ _ _ _ _ _ _ _
      | exact ih1 _ _ _ _ _ _ _ _ _ _ _
      | exact ih2 _ _ _ _ _ _ _ _ _ _ _ _
      | exact impl_CacheFault.mono _ _
      | exact impl_FillCache.mono _ _ _ _ _ _
      | exact impl_FindHit.mono _ _ _ _
      | exact impl_FlushCache.mono _ _ _
      | exact spec_DrawFillCache.mono _ _
      | exact spec_FillCache.mono _ _ _ _ _ _
      | exact LeO.none _
      | refine LeO.ite ?_ ?_
      | refine LeO.bind ?_ (fun _ => ?_)
    · intro y0 y1 y2 y3 y4 y5 y6 y7 y8 y9 y10
      unfold laws_FnFills.l0
      repeat' first
      | (with_reducible exact ih0 _ _ _ _ _ _ _ _ _ _)
      | (with_reducible exact ih1 _ _ _ _ _ _ _ _ _ _ _)
      | (with_reducible exact ih2 _ _ _ _ _ _ _ _ _ _ _ _)
      | (with_reducible exact impl_CacheFault.mono _ _)
      | (with_reducible exact impl_FillCache.mono _ _ _ _ _ _)
      | (with_reducible exact impl_FindHit.mono _ _ _ _)
      | (with_reducible exact impl_FlushCache.mono _ _ _)
      | (with_reducible exact spec_DrawFillCache.mono _ _)
      | (with_reducible exact spec_FillCache.mono _ _ _ _ _ _)
      | (with_reducible exact LeO.refl _)
      | (with_reducible exact LeO.none _)
      | (with_reducible refine LeO.ite ?_ ?_)
      | (with_reducible refine LeO.bind ?_ (fun _ => ?_))
      | exact ih0 _ _ _ _ _ _ _ _ _ _
      | exact ih1 _ _ _ _ _ _ _ _ _ _ _
      | exact ih2 _ _ _ _ _ _ _ _ _ _ _ _
      | exact impl_CacheFault.mono _ _
      | exact impl_FillCache.mono _ _ _ _ _ _
      | exact impl_FindHit.mono _ _ _ _
      | exact impl_FlushCache.mono _ _ _
      | exact spec_DrawFillCache.mono _ _
      | exact spec_FillCache.mono _ _ _ _ _ _
      | exact LeO.none _
      | refine LeO.ite ?_ ?_
      | refine LeO.bind ?_ (fun _ => ?_)
    · intro y0 y1 y2 y3 y4 y5 y6 y7 y8 y9 y10 y11
      unfold laws_FnFills.j2
      repeat' first
      | (with_reducible exact ih0 _ _ _ _ _ _ _ _ _ _)
      | (with_reducible exact ih1 _ _ _ _ _ _ _ _ _ _ _)
      | (with_reducible exact ih2 _ _ _ _ _ _ _ _ _ _ _ _)
      | (with_reducible exact impl_CacheFault.mono _ _)
      | (with_reducible exact impl_FillCache.mono _ _ _ _ _ _)
      | (with_reducible exact impl_FindHit.mono _ _ _ _)
      | (with_reducible exact impl_FlushCache.mono _ _ _)
      | (with_reducible exact spec_DrawFillCache.mono _ _)
      | (with_reducible exact spec_FillCache.mono _ _ _ _ _ _)
      | (with_reducible exact LeO.refl _)
      | (with_reducible exact LeO.none _)
      | (with_reducible refine LeO.ite ?_ ?_)
      | (with_reducible refine LeO.bind ?_ (fun _ => ?_))
      | exact ih0 _ _ _ _ _ _ _ _ _ _
      | exact ih1 _ _ _ _ _ _ _ _ _ _ _
      | exact ih2 _ _ _ _ _ _ _ _ _ _ _ _
      | exact impl_CacheFault.mono _ _
      | exact impl_FillCache.mono _ _ _ _ _ _
      | exact impl_FindHit.mono _ _ _ _
      | exact impl_FlushCache.mono _ _ _
      | exact spec_DrawFillCache.mono _ _
      | exact spec_FillCache.mono _ _ _ _ _ _
      | exact LeO.none _
      | refine LeO.ite ?_ ?_
      | refine LeO.bind ?_ (fun _ => ?_)
theorem laws_FnFills.mono : ∀ a0 k, LeO (laws_FnFills.f k a0) (laws_FnFills.f (k + 1) a0) := by
  intro a0 k
  obtain ⟨ih0, ih1, ih2⟩ := laws_FnFills.mono_l k
  unfold laws_FnFills.f
  repeat' first
      | (with_reducible exact ih0 _ _ _ _ _ _ _ _ _ _)
      | (with_reducible exact ih1 _ _ _ _ _ _ _ _ _ _ _)
      | (with_reducible exact ih2 _ _ _ _ _ _ _ _ _ _ _ _)
      | (with_reducible exact impl_CacheFault.mono _ _)
      | (with_reducible exact impl_FillCache.mono _ _ _ _ _ _)
      | (with_reducible exact impl_FindHit.mono _ _ _ _)
      | (with_reducible exact impl_FlushCache.mono _ _ _)
      | (with_reducible exact spec_DrawFillCache.mono _ _)
      | (with_reducible exact spec_FillCache.mono _ _ _ _ _ _)
      | (with_reducible exact LeO.refl _)
      | (with_reducible exact LeO.none _)
      | (with_reducible refine LeO.ite ?_ ?_)
      | (with_reducible refine LeO.bind ?_ (fun _ => ?_))
      | exact ih0 _ _ _ _ _ _ _ _ _ _
      | exact ih1 _ _ _ _ _ _ _ _ _ _ _
      | exact ih2 _ _ _ _ _ _ _ _ _ _ _ _
      | exact impl_CacheFault.mono _ _
      | exact impl_FillCache.mono _ _ _ _ _ _
      | exact impl_FindHit.mono _ _ _ _
      | exact impl_FlushCache.mono _ _ _
      | exact spec_DrawFillCache.mono _ _
      | exact spec_FillCache.mono _ _ _ _ _ _
      | exact LeO.none _
      | refine LeO.ite ?_ ?_
      | refine LeO.bind ?_ (fun _ => ?_)
def laws_FnFills.T6 : Bool × List (List Nat × List Nat) := (true, [([], []), ([], []), ([0, 1], [0, 1]), ([2], [2]), ([], []), ([4], [4]), ([3, 5], [3, 5]), ([6, 2, 0, 1, 2, 3, 4, 5, 6], [6])])
def laws_FnFills.B6 : List Nat := [0, 0, 3, 7, 0, 16, 63, 127]
theorem laws_FnFills.tab6 : rtab .any (opsOf Try.f8 6) = laws_FnFills.T6 := by kernel_rfl
theorem laws_FnFills.bits6 : waitsOk laws_FnFills.T6.2 laws_FnFills.B6 = true := by kernel_rfl
def laws_FnFills.T9 : Bool × List (List Nat × List Nat) := (true, [([], []), ([0], [0]), ([1], [1]), ([2], [2]), ([3, 2], [3]), ([4], [4]), ([5, 4], [4, 5]), ([6, 4], [4, 6]), ([4, 7], [4, 7]), ([8, 4], [8]), ([9], [9]), ([10, 9], [9, 10]), ([9], [9]), ([12, 9], [9, 12]), ([11, 13, 9], [9, 11, 13]), ([14, 9], [9, 14]), ([9], [9]), ([15, 16, 9], [9, 15, 16]), ([9, 17], [9, 17]), ([18, 9], [18]), ([19], [19]), ([20, 19], [19, 20]), ([21, 19], [19, 21]), ([19, 22], [19, 22]), ([23, 19], [23]), ([24], [24]), ([25, 24], [24, 25]), ([24], [24]), ([27, 24], [24, 27]), ([24], [24]), ([29, 24], [24, 29]), ([26, 28, 30, 24, 24], [24, 26, 28, 30]), ([31, 24], [24, 31]), ([32, 24], [24, 32]), ([24, 33], [24, 33]), ([34, 31], [34]), ([35], [35]), ([36, 35], [35, 36]), ([37, 35], [35, 37]), ([35], [35]), ([39, 35], [35, 39]), ([38, 40, 35], [35, 38, 40]), ([35, 41], [35, 41])])
def laws_FnFills.B9 : List Nat := [0, 1, 3, 7, 15, 31, 63, 127, 255, 511, 1023, 2047, 1023, 5119, 16383, 32767, 1023, 131071, 262143, 524287, 1048575, 2097151, 4194303, 8388607, 16777215, 33554431, 67108863, 33554431, 167772159, 33554431, 570425343, 2147483647, 4294967295, 8589934591, 17179869183, 34359738367, 68719476735, 137438953471, 274877906943, 68719476735, 618475290623, 2199023255551, 4398046511103]
theorem laws_FnFills.tab9 : rtab .any (opsOf Try.f8 9) = laws_FnFills.T9 := by kernel_rfl
theorem laws_FnFills.bits9 : waitsOk laws_FnFills.T9.2 laws_FnFills.B9 = true := by kernel_rfl
def laws_FnFills.T15 : Bool × List (List Nat × List Nat) := (true, [([], []), ([], []), ([0, 1], [0, 1]), ([2], [2]), ([3], [3]), ([], []), ([5], [5]), ([4, 6], [4, 6]), ([7], [7]), ([8], [8]), ([8], [8]), ([9, 10, 8], [8, 9, 10]), ([11, 8], [8, 11]), ([12, 8], [8, 12]), ([8], [8]), ([14, 8], [8, 14]), ([13, 15, 8], [8, 13, 15]), ([8, 16], [8, 16])])
def laws_FnFills.B15 : List Nat := [0, 0, 3, 7, 15, 0, 32, 127, 255, 511, 511, 2047, 4095, 8191, 511, 16895, 65535, 131071]
theorem laws_FnFills.tab15 : rtab .any (opsOf Try.f8 15) = laws_FnFills.T15 := by kernel_rfl
theorem laws_FnFills.bits15 : waitsOk laws_FnFills.T15.2 laws_FnFills.B15 = true := by kernel_rfl
def laws_FnFills.T16 : Bool × List (List Nat × List Nat) := (true, [([], []), ([0], [0]), ([], []), ([], []), ([2, 3], [2, 3]), ([4], [4]), ([5], [5]), ([], []), ([], []), ([7, 8], [7, 8]), ([9], [9]), ([10], [10]), ([1, 6, 11], [1, 6, 11]), ([], []), ([13, 12, 12, 0, 1, 2, 3, 4, 5, 6, 7, 8, 9, 10, 11, 12, 13], [12, 13])])
def laws_FnFills.B16 : List Nat := [0, 1, 0, 0, 12, 28, 60, 0, 0, 384, 896, 1920, 4095, 0, 16383]
theorem laws_FnFills.tab16 : rtab .any (opsOf Try.f8 16) = laws_FnFills.T16 := by kernel_rfl
theorem laws_FnFills.bits16 : waitsOk laws_FnFills.T16.2 laws_FnFills.B16 = true := by kernel_rfl
def laws_FnFills.T19 : Bool × List (List Nat × List Nat) := (true, [([], []), ([0], [0]), ([], []), ([2], [2]), ([1, 3], [1, 3]), ([4], [4]), ([], []), ([], []), ([6, 7], [6, 7]), ([8], [8]), ([5, 9], [5, 9])])
def laws_FnFills.B19 : List Nat := [0, 1, 0, 4, 15, 31, 0, 0, 192, 448, 1023]
theorem laws_FnFills.tab19 : rtab .any (opsOf Try.f8 19) = laws_FnFills.T19 := by kernel_rfl
theorem laws_FnFills.bits19 : waitsOk laws_FnFills.T19.2 laws_FnFills.B19 = true := by kernel_rfl
theorem laws_FnFills.j0_dead : ∀ (k_ : Nat) (b0_ : List (S31)) (b2_ : Int) (b3_ : Int) (b4_ : Int) (b5_ : Int) (b6_ : Int) (b7_ : Int) (b8_ : Bool) (b9_ : List (S31)), ¬ laws_FnFills.j0 k_ b0_ true b2_ b3_ b4_ b5_ b6_ b7_ b8_ b9_ = some true := by
  intro k_ b0_ b2_ b3_ b4_ b5_ b6_ b7_ b8_ b9_ h_
  cases k_ <;> simp [laws_FnFills.j0] at h_
set_option maxHeartbeats 8000000 in
set_option maxRecDepth 100000 in
theorem laws_FnFills.calls (k : Nat) (A0 : Option Addr) (c0 : Nat) (l0 : List Int) (w : World) (hr0 : Kd.C (Kd.int .u8) w A0 l0.length l0) (hc0 : l0.length ≤ c0) (h : laws_FnFills.f k l0 = some true) :
  Calls Try.prog 8 #[.slice A0 l0.length c0] w fun e w' => e = .returned (.bool true) ∧ Below w.heap.size w w' := by
 have hfd28_0 : ∀ (c0_ c1_ c2_ c3_ : Value) (W : World), (Instr.field 28 (.agg #[c0_, c1_, c2_, c3_]) 0).run Try.prog W = .ok (c0_) W := fun c0_ c1_ c2_ c3_ W => by rfl
 have hfd41_0 : ∀ (c0_ c1_ : Value) (W : World), (Instr.field 41 (.agg #[c0_, c1_]) 0).run Try.prog W = .ok (c0_) W := fun c0_ c1_ W => by rfl
 have hu31 := Try.underlying31
 have hu28 := Try.underlying28
 have hu41 := Try.underlying41
 have HR0 := zm hr0
 have HC0 := zm hc0
 clear hr0 hc0
 have HB := zm (Below.refl w.heap.size w)
 have H : ((laws_lwBig.f l0).bind fun t313 => (if t313 = true then (some true) else ((spec_DrawFillCache.f k l0).bind fun bt314 => ((impl_FillCache.f k bt314.1 bt314.2.1 bt314.2.2.1 bt314.2.2.2.1 bt314.2.2.2.2).bind fun bt322 => (if bt322.1 = 0 then ((impl_FindHit.f k bt322.2.2.2 bt314.2.1 bt314.2.2.1).bind fun bt335 => ((impl_FlushCache.f k bt322.2.2.2 bt314.2.1).bind fun bt338 => ((impl_CacheFault.f k bt322.2.2.2).bind fun t345 => (if t345 = 0 then (if bt335.1 = 0 then (if 0 ≤ bt335.2 then (if bt335.2 < (bt322.2.2.2.length : Int) then (if (!(((rd_T31 bt322.2.2.2 bt335.2).f0) == bt314.2.1) || (!(((rd_T31 bt322.2.2.2 bt335.2).f1) == bt314.2.2.1) || (!(((rd_T31 bt322.2.2.2 bt335.2).f2) == bt314.2.2.2.1) || (!(((rd_T31 bt322.2.2.2 bt335.2).f3) == bt314.2.2.2.2))))) = true then (laws_FnFills.j0 k bt314.1 true bt314.2.1 bt314.2.2.1 bt314.2.2.2.1 bt314.2.2.2.2 bt322.1 bt322.2.1 bt322.2.2.1 bt322.2.2.2) else (if bt338.1 = 0 then ((impl_FindHit.f k bt338.2.2.2 bt314.2.1 bt314.2.2.1).bind fun bt347 => (if bt347.1 = 4 then (laws_FnFills.j0 k bt314.1 (decide ((bt322.2.2.2.length : Int) < (bt314.1.length : Int))) bt314.2.1 bt314.2.2.1 bt314.2.2.2.1 bt314.2.2.2.2 bt322.1 bt322.2.1 bt322.2.2.1 bt322.2.2.2) else (laws_FnFills.j0 k bt314.1 true bt314.2.1 bt314.2.2.1 bt314.2.2.2.1 bt314.2.2.2.2 bt322.1 bt322.2.1 bt322.2.2.1 bt322.2.2.2))) else (laws_FnFills.j0 k bt314.1 true bt314.2.1 bt314.2.2.1 bt314.2.2.2.1 bt314.2.2.2.2 bt322.1 bt322.2.1 bt322.2.2.1 bt322.2.2.2))) else (none)) else (none)) else (laws_FnFills.j0 k bt314.1 true bt314.2.1 bt314.2.2.1 bt314.2.2.2.1 bt314.2.2.2.2 bt322.1 bt322.2.1 bt322.2.2.1 bt322.2.2.2)) else (laws_FnFills.j0 k bt314.1 true bt314.2.1 bt314.2.2.1 bt314.2.2.2.1 bt314.2.2.2.2 bt322.1 bt322.2.1 bt322.2.2.1 bt322.2.2.2))))) else ((spec_FillCache.f k bt314.1 bt314.2.1 bt314.2.2.1 bt314.2.2.2.1 bt314.2.2.2.2).bind fun bt329 => (some (bt329.1 == bt322.1)))))))) = some true := h
 clear h
 replace H := yH.mp H
 obtain ⟨t313, A20, H⟩ := H
 try dsimp only at H
 have A2 := zm A20
 clear A20
 by_cases c3 : t313 = true
 ·subst c3
  have H1 : (some true) = some true := rfl
  clear H
  have H := H1
  clear H1
  clear H
  go_enter Try.func8, Try.ntmps8
  go_wp2_with (first | ((with_reducible refine gate_callee (f := 31) rfl ?_); refine goesL_ (some 12) rfl rfl Try.func31 (by kernel_rfl) rfl #[.slice A0 l0.length c0] rfl (by (try simp only [zA, zB, zC]); first | done | rfl | (simp only [zE, zD]; rfl)) ?_; (with_reducible refine (laws_lwBig.calls _ _ l0 true _ ?side1 ?side2 A2.out).mono ?_); (case side1 => repeat (first | exact HR0.out | (with_reducible first | refine zj ?_ _ | refine zk ?_ _ | refine zl ?_))); (case side2 => exact HC0.out); rintro e w' ⟨rfl, ⟨nd, rfl⟩⟩; refine ⟨_, rfl, ?_⟩))
  go_ret
  exact ⟨by first | rfl | (simp [errW_none, errW_some] <;> rfl) | (simp [*, errW_none, errW_some] <;> rfl), by repeat (first | (with_reducible first | exact HB.out | apply zg | apply zh | apply zi) | exact HB.out)⟩
 ·replace c3 := Bool.eq_false_iff.mpr c3
  subst c3
  rw [if_neg (show ¬ (false = true) by decide)] at H
  replace H := yH.mp H
  obtain ⟨⟨t314, t317, t318, t319, t320⟩, A40, H⟩ := H
  try dsimp only at H
  have A4 := zm A40
  clear A40
  replace H := yH.mp H
  obtain ⟨⟨t322, t323, t324, t325⟩, A50, H⟩ := H
  try dsimp only at H
  have A5 := zm A50
  clear A50
  by_cases c6 : t322 = 0
  ·rw [if_pos c6] at H
   have c6b0 : (t322 == 0) = true := beq_iff_eq.mpr c6
   have c6b1 : (t322 != 0) = false := bne_eq_false_iff_eq.mpr c6
   clear c6
   replace H := yH.mp H
   obtain ⟨⟨t335, t336⟩, A70, H⟩ := H
   try dsimp only at H
   have A7 := zm A70
   clear A70
   replace H := yH.mp H
   obtain ⟨⟨t338, t339, t340, t341⟩, A80, H⟩ := H
   try dsimp only at H
   have A8 := zm A80
   clear A80
   have HC9 := zm H
   clear H
   go_enter Try.func8, Try.ntmps8
   go_upto_region 9 with (first | ((with_reducible refine gate_callee (f := 31) rfl ?_); refine goesL_ (some 12) rfl rfl Try.func31 (by kernel_rfl) rfl #[.slice A0 l0.length c0] rfl (by (try simp only [zA, zB, zC]); first | done | rfl | (simp only [zE, zD]; rfl)) ?_; (with_reducible refine (laws_lwBig.calls _ _ l0 false _ ?side1 ?side2 A2.out).mono ?_); (case side1 => repeat (first | exact HR0.out | (with_reducible first | refine zj ?_ _ | refine zk ?_ _ | refine zl ?_))); (case side2 => exact HC0.out); rintro e w' ⟨rfl, ⟨nd, rfl⟩⟩; refine ⟨_, rfl, ?_⟩) | ((with_reducible refine gate_callee (f := 32) rfl ?_); refine goesL_ (some 15) rfl rfl Try.func32 (by kernel_rfl) rfl #[.slice A0 l0.length c0] rfl (by (try simp only [zA, zB, zC]); first | done | rfl | (simp only [zE, zD]; rfl)) ?_; (with_reducible refine (spec_DrawFillCache.calls k _ _ l0 t314 t317 t318 t319 t320 _ ?side1 ?side2 A4.out).mono ?_); (case side1 => repeat (first | exact HR0.out | (with_reducible first | refine zj ?_ _ | refine zk ?_ _ | refine zl ?_))); (case side2 => exact HC0.out); rintro e w10 ⟨v315, rfl, ho0, hb⟩; refine ⟨_, rfl, ?_⟩; have n0_ := zm (zz ho0 (zx (by repeat (first | (with_reducible first | exact HB.out | apply zg | apply zh | apply zi) | exact HB.out)))); have n1_ := zm (zw (by repeat (first | (with_reducible first | exact HB.out | apply zg | apply zh | apply zi) | exact HB.out)) hb); clear HB; have HO316 := n0_; have HB := n1_; clear n0_ n1_; (try clear hb); (try clear hb2); (try clear hk); (try clear hi); (try clear ho0)) | ((with_reducible refine gate_dst (N := 4) rfl ?_); (try (refine gate_guard (by rfl) ?_; dsimp only)); refine box_event ?hg (N := 4) ?hd (cs := #[.int .i64 0, .int .i64 0, .int .i64 0, .int .i64 0]) (t := 31) ?hr ?_; (case hd => rfl); (case hg => rfl); (case hr => first | (go_simp; done) | (go_simp; rfl)); intro gb321 hg w11 hbox hb; have n0_ := zm (zp (Kd.R_elderB (by (with_reducible repeat (first | apply za | apply zb | apply zc)); exact HO316.out) gb321 (Nat.le_of_eq hg.symm)) hb); have n1_ := zm (zw (by repeat (first | (with_reducible first | exact HB.out | apply zg | apply zh | apply zi) | exact HB.out)) hb); have n2_ := zm (hbox); have n3_ := zm ((by rw [hg]; exact (zx (by repeat (first | (with_reducible first | exact HB.out | apply zg | apply zh | apply zi) | exact HB.out))) : w.heap.size ≤ gb321)); have n4_ := zm ((by rw [hg]; exact (zx (by repeat (first | (with_reducible first | exact HB.out | apply zg | apply zh | apply zi) | exact HB.out))) : w.heap.size ≤ gb321)); clear HO316; clear HB; have HO316 := n0_; have HB := n1_; have BK321 := n2_; have GW321 := n3_; have GE321 := n4_; clear n0_ n1_ n2_ n3_ n4_; clear hb hbox hg; have hcz12_0 : w11.cell? ⟨gb321, 0, none⟩ = some (.int .i64 0) := (yG BK321.out 0).trans rfl; have hcz12_1 : w11.cell? ⟨gb321, 1, none⟩ = some (.int .i64 0) := (yG BK321.out 1).trans rfl; have hcz12_2 : w11.cell? ⟨gb321, 2, none⟩ = some (.int .i64 0) := (yG BK321.out 2).trans rfl; have hcz12_3 : w11.cell? ⟨gb321, 3, none⟩ = some (.int .i64 0) := (yG BK321.out 3).trans rfl; have hfz12_0 := zH BK321.out 0; have hfz12_1 := zH BK321.out 1; have hfz12_2 := zH BK321.out 2; have hfz12_3 := zH BK321.out 3; obtain ⟨Ao13, co13, eo13⟩ := Kd.R_slice HO316.out; subst eo13) | ((with_reducible refine gate_callee (f := 13) rfl ?_); refine goesL_ (some 20) rfl rfl Try.func13 (by kernel_rfl) rfl #[.slice Ao13 t314.length co13, .agg #[.int .i64 t317, .int .i64 t318, .int .i64 t319, .int .i64 t320]] rfl (by (try simp only [zA, zB, zC]); first | done | rfl | (simp only [zE, zD]; rfl)) ?_; (with_reducible refine (impl_FillCache.calls k _ _ t314 t317 t318 t319 t320 t322 t323 t324 t325 _ ?side1 ?side2 A5.out).mono ?_); (case side1 => refine (zF (e := 31) (base := w.heap.size) (ok := fun k_ => (True ∧ k_ ≠ gb321)) (n := t314.length) (c := co13) ?_).2.2; exact (by (with_reducible repeat (first | apply za | apply zb | apply zc)); exact (zr (zn (p := ⟨gb321, 3, none⟩) (zn (p := ⟨gb321, 2, none⟩) (zn (p := ⟨gb321, 1, none⟩) (zn (p := ⟨gb321, 0, none⟩) (zr HO316.out (fun k_ hk => (⟨hk, hk.2⟩ : _ ∧ k_ ≠ gb321))) (fun _ hk => hk.2) (.int .i64 t317)) (fun _ hk => hk.2) (.int .i64 t318)) (fun _ hk => hk.2) (.int .i64 t319)) (fun _ hk => hk.2) (.int .i64 t320)) (fun _ h_ => h_.1)))); (case side2 => exact (zF HO316.out).2.1); rintro e w14 ⟨v326, rfl, ho0, hb⟩; refine ⟨_, rfl, ?_⟩; have n0_ := zm (zo (by (with_reducible repeat (first | apply za | apply zb | apply zc)); exact (zr (zn (p := ⟨gb321, 3, none⟩) (zn (p := ⟨gb321, 2, none⟩) (zn (p := ⟨gb321, 1, none⟩) (zn (p := ⟨gb321, 0, none⟩) (zr HO316.out (fun k_ hk => (⟨hk, hk.2⟩ : _ ∧ k_ ≠ gb321))) (fun _ hk => hk.2) (.int .i64 t317)) (fun _ hk => hk.2) (.int .i64 t318)) (fun _ hk => hk.2) (.int .i64 t319)) (fun _ hk => hk.2) (.int .i64 t320)) (fun _ h_ => h_.1))) (zt ho0) hb); have n1_ := zm (zz (Kd.R_newB (zs ho0 (zG (by (with_reducible repeat (first | apply za | apply zb | apply zc)); exact (zr (zn (p := ⟨gb321, 3, none⟩) (zn (p := ⟨gb321, 2, none⟩) (zn (p := ⟨gb321, 1, none⟩) (zn (p := ⟨gb321, 0, none⟩) (zr HO316.out (fun k_ hk => (⟨hk, hk.2⟩ : _ ∧ k_ ≠ gb321))) (fun _ hk => hk.2) (.int .i64 t317)) (fun _ hk => hk.2) (.int .i64 t318)) (fun _ hk => hk.2) (.int .i64 t319)) (fun _ hk => hk.2) (.int .i64 t320)) (fun _ h_ => h_.1))))) (g := gb321) (o := .cells #[.int .i64 t317, .int .i64 t318, .int .i64 t319, .int .i64 t320] 31 (0, 0)) (by (with_reducible repeat (first | refine zd ?_ _ | refine ze ?_ | refine zf ?_ _)); refine blk_put (cs := #[.int .i64 t317, .int .i64 t318, .int .i64 t319, .int .i64 0]) ?_ 3 _ rfl; (with_reducible repeat (first | refine zd ?_ _ | refine ze ?_ | refine zf ?_ _)); refine blk_put (cs := #[.int .i64 t317, .int .i64 t318, .int .i64 0, .int .i64 0]) ?_ 2 _ rfl; (with_reducible repeat (first | refine zd ?_ _ | refine ze ?_ | refine zf ?_ _)); refine blk_put (cs := #[.int .i64 t317, .int .i64 0, .int .i64 0, .int .i64 0]) ?_ 1 _ rfl; (with_reducible repeat (first | refine zd ?_ _ | refine ze ?_ | refine zf ?_ _)); refine blk_put (cs := #[.int .i64 0, .int .i64 0, .int .i64 0, .int .i64 0]) ?_ 0 _ rfl; (with_reducible repeat (first | refine zd ?_ _ | refine ze ?_ | refine zf ?_ _)); exact BK321.out)) (zx (by repeat (first | (with_reducible first | exact HB.out | apply zg | apply zh | apply zi | refine zy ?_ GE321.out) | exact HB.out)))); have n2_ := zm (zu (g := gb321) (o := .cells #[.int .i64 t317, .int .i64 t318, .int .i64 t319, .int .i64 t320] 31 (0, 0)) (by (with_reducible repeat (first | refine zd ?_ _ | refine ze ?_ | refine zf ?_ _)); refine blk_put (cs := #[.int .i64 t317, .int .i64 t318, .int .i64 t319, .int .i64 0]) ?_ 3 _ rfl; (with_reducible repeat (first | refine zd ?_ _ | refine ze ?_ | refine zf ?_ _)); refine blk_put (cs := #[.int .i64 t317, .int .i64 t318, .int .i64 0, .int .i64 0]) ?_ 2 _ rfl; (with_reducible repeat (first | refine zd ?_ _ | refine ze ?_ | refine zf ?_ _)); refine blk_put (cs := #[.int .i64 t317, .int .i64 0, .int .i64 0, .int .i64 0]) ?_ 1 _ rfl; (with_reducible repeat (first | refine zd ?_ _ | refine ze ?_ | refine zf ?_ _)); refine blk_put (cs := #[.int .i64 0, .int .i64 0, .int .i64 0, .int .i64 0]) ?_ 0 _ rfl; (with_reducible repeat (first | refine zd ?_ _ | refine ze ?_ | refine zf ?_ _)); exact BK321.out) hb); have n3_ := zm (zw (by repeat (first | (with_reducible first | exact HB.out | apply zg | apply zh | apply zi | refine zy ?_ GE321.out) | exact HB.out)) hb); clear HO316; clear BK321; clear HB; have HO316 := n0_; have HO327 := n1_; have BK321 := n2_; have HB := n3_; clear n0_ n1_ n2_ n3_; (try clear hb); (try clear hb2); (try clear hk); (try clear hi); (try clear ho0)) | ((with_reducible refine gate_dst (N := 5) rfl ?_); (try (refine gate_guard (by rfl) ?_; dsimp only)); refine box_event ?hg (N := 5) ?hd (cs := #[.int .i64 0, .int .i64 0, .bool false, .slice none 0 0]) (t := 28) ?hr ?_; (case hd => rfl); (case hg => rfl); (case hr => first | (go_simp; done) | (go_simp; rfl)); intro gb328 hg w15 hbox hb; have n0_ := zm (zp (by (with_reducible repeat (first | apply za | apply zb | apply zc)); exact HO316.out) hb); have n1_ := zm (zp (by (with_reducible repeat (first | apply za | apply zb | apply zc)); exact HO327.out) hb); have n2_ := zm (zu (g := gb321) (o := .cells #[.int .i64 t317, .int .i64 t318, .int .i64 t319, .int .i64 t320] 31 (0, 0)) (by (with_reducible repeat (first | refine zd ?_ _ | refine ze ?_ | refine zf ?_ _)); exact BK321.out) hb); have n3_ := zm (zw (by repeat (first | (with_reducible first | exact HB.out | apply zg | apply zh | apply zi | refine zy ?_ GE321.out) | exact HB.out)) hb); have n4_ := zm (hbox); have n5_ := zm ((by rw [hg]; exact (zx (by repeat (first | (with_reducible first | exact HB.out | apply zg | apply zh | apply zi | refine zy ?_ GE321.out) | exact HB.out))) : w.heap.size ≤ gb328)); have n6_ := zm ((by rw [hg]; exact (zx (by repeat (first | (with_reducible first | exact HB.out | apply zg | apply zh | apply zi | refine zy ?_ GE321.out) | exact HB.out))) : w.heap.size ≤ gb328)); have n7_ := zm ((by rw [hg]; exact Nat.ne_of_lt (zv (g := gb321) (o := .cells #[.int .i64 t317, .int .i64 t318, .int .i64 t319, .int .i64 t320] 31 (0, 0)) (by (with_reducible repeat (first | refine zd ?_ _ | refine ze ?_ | refine zf ?_ _)); exact BK321.out)) : gb321 ≠ gb328)); have n8_ := zm ((by rw [hg]; exact Nat.ne_of_gt (zv (g := gb321) (o := .cells #[.int .i64 t317, .int .i64 t318, .int .i64 t319, .int .i64 t320] 31 (0, 0)) (by (with_reducible repeat (first | refine zd ?_ _ | refine ze ?_ | refine zf ?_ _)); exact BK321.out)) : gb328 ≠ gb321)); clear HO316; clear HO327; clear BK321; clear HB; have HO316 := n0_; have HO327 := n1_; have BK321 := n2_; have HB := n3_; have BK328 := n4_; have GW328 := n5_; have GE328 := n6_; have NB321_328 := n7_; have NB328_321 := n8_; clear n0_ n1_ n2_ n3_ n4_ n5_ n6_ n7_ n8_; clear hb hbox hg; have hnb16 := NB328_321.out; have hnc16 := NB321_328.out; have hcz17_0 : w15.cell? ⟨gb328, 0, none⟩ = some (.int .i64 0) := (yG BK328.out 0).trans rfl; have hcz17_1 : w15.cell? ⟨gb328, 1, none⟩ = some (.int .i64 0) := (yG BK328.out 1).trans rfl; have hcz17_2 : w15.cell? ⟨gb328, 2, none⟩ = some (.bool false) := (yG BK328.out 2).trans rfl; have hcz17_3 : w15.cell? ⟨gb328, 3, none⟩ = some (.slice none 0 0) := (yG BK328.out 3).trans rfl; have hfz17_0 := zH BK328.out 0; have hfz17_1 := zH BK328.out 1; have hfz17_2 := zH BK328.out 2; have hfz17_3 := zH BK328.out 3; obtain ⟨Ao18, co18, eo18⟩ := Kd.R_slice HO327.out; subst eo18; have hcz19_0 : w15.cell? ⟨gb321, 0, none⟩ = some (.int .i64 t317) := (yG BK321.out 0).trans rfl; have hcz19_1 : w15.cell? ⟨gb321, 1, none⟩ = some (.int .i64 t318) := (yG BK321.out 1).trans rfl; have hcz19_2 : w15.cell? ⟨gb321, 2, none⟩ = some (.int .i64 t319) := (yG BK321.out 2).trans rfl; have hcz19_3 : w15.cell? ⟨gb321, 3, none⟩ = some (.int .i64 t320) := (yG BK321.out 3).trans rfl; have hfz19_0 := zH BK321.out 0; have hfz19_1 := zH BK321.out 1; have hfz19_2 := zH BK321.out 2; have hfz19_3 := zH BK321.out 3) | ((with_reducible refine gate_callee (f := 22) rfl ?_); refine goesL_ (some 37) rfl rfl Try.func22 (by kernel_rfl) rfl #[.slice Ao18 t325.length co18, .int .i64 t317, .int .i64 t318] rfl (by (try simp only [zA, zB, zC]); first | done | rfl | (simp only [zE, zD]; rfl)) ?_; (with_reducible refine (impl_FindHit.calls k _ _ t325 t317 t318 t335 t336 _ ?side1 ?side2 A7.out).mono ?_); (case side1 => refine (zF (e := 31) (base := w.heap.size) (ok := fun k_ => ((True ∧ some k_ ≠ (.slice Ao13 t314.length co13 : Value).ownBlock) ∧ k_ ≠ gb321)) (n := t325.length) (c := co18) ?_).2.2; exact (by (with_reducible repeat (first | apply za | apply zb | apply zc)); exact (zr (zn (p := ⟨gb328, 3, none⟩) (zn (p := ⟨gb328, 2, none⟩) (zn (p := ⟨gb328, 1, none⟩) (zn (p := ⟨gb328, 0, none⟩) (zq HO327.out BK328.out (by decide)) (fun _ hk => hk.2) (.int .i64 t322)) (fun _ hk => hk.2) (.int .i64 t323)) (fun _ hk => hk.2) (.bool t324)) (fun _ hk => hk.2) (.slice Ao18 t325.length co18)) (fun _ h_ => h_.1)))); (case side2 => exact (zF HO327.out).2.1); rintro e w20 ⟨rfl, hb⟩; refine ⟨_, rfl, ?_⟩; have n0_ := zm (zp (by (with_reducible repeat (first | apply za | apply zb | apply zc)); exact (zr (zn (p := ⟨gb328, 3, none⟩) (zn (p := ⟨gb328, 2, none⟩) (zn (p := ⟨gb328, 1, none⟩) (zn (p := ⟨gb328, 0, none⟩) (zq HO316.out BK328.out (by decide)) (fun _ hk => hk.2) (.int .i64 t322)) (fun _ hk => hk.2) (.int .i64 t323)) (fun _ hk => hk.2) (.bool t324)) (fun _ hk => hk.2) (.slice Ao18 t325.length co18)) (fun _ h_ => h_.1))) hb); have n1_ := zm (zp (by (with_reducible repeat (first | apply za | apply zb | apply zc)); exact (zr (zn (p := ⟨gb328, 3, none⟩) (zn (p := ⟨gb328, 2, none⟩) (zn (p := ⟨gb328, 1, none⟩) (zn (p := ⟨gb328, 0, none⟩) (zq HO327.out BK328.out (by decide)) (fun _ hk => hk.2) (.int .i64 t322)) (fun _ hk => hk.2) (.int .i64 t323)) (fun _ hk => hk.2) (.bool t324)) (fun _ hk => hk.2) (.slice Ao18 t325.length co18)) (fun _ h_ => h_.1))) hb); have n2_ := zm (zu (g := gb321) (o := .cells #[.int .i64 t317, .int .i64 t318, .int .i64 t319, .int .i64 t320] 31 (0, 0)) (by (with_reducible repeat (first | refine zd ?_ _ | refine ze ?_ | refine zf ?_ _)); refine blk_far ?_ NB321_328.out _; (with_reducible repeat (first | refine zd ?_ _ | refine ze ?_ | refine zf ?_ _)); refine blk_far ?_ NB321_328.out _; (with_reducible repeat (first | refine zd ?_ _ | refine ze ?_ | refine zf ?_ _)); refine blk_far ?_ NB321_328.out _; (with_reducible repeat (first | refine zd ?_ _ | refine ze ?_ | refine zf ?_ _)); refine blk_far ?_ NB321_328.out _; (with_reducible repeat (first | refine zd ?_ _ | refine ze ?_ | refine zf ?_ _)); exact BK321.out) hb); have n3_ := zm (zu (g := gb328) (o := .cells #[.int .i64 t322, .int .i64 t323, .bool t324, .slice Ao18 t325.length co18] 28 (0, 0)) (by (with_reducible repeat (first | refine zd ?_ _ | refine ze ?_ | refine zf ?_ _)); refine blk_put (cs := #[.int .i64 t322, .int .i64 t323, .bool t324, .slice none 0 0]) ?_ 3 _ rfl; (with_reducible repeat (first | refine zd ?_ _ | refine ze ?_ | refine zf ?_ _)); refine blk_put (cs := #[.int .i64 t322, .int .i64 t323, .bool false, .slice none 0 0]) ?_ 2 _ rfl; (with_reducible repeat (first | refine zd ?_ _ | refine ze ?_ | refine zf ?_ _)); refine blk_put (cs := #[.int .i64 t322, .int .i64 0, .bool false, .slice none 0 0]) ?_ 1 _ rfl; (with_reducible repeat (first | refine zd ?_ _ | refine ze ?_ | refine zf ?_ _)); refine blk_put (cs := #[.int .i64 0, .int .i64 0, .bool false, .slice none 0 0]) ?_ 0 _ rfl; (with_reducible repeat (first | refine zd ?_ _ | refine ze ?_ | refine zf ?_ _)); exact BK328.out) hb); have n4_ := zm (zw (by repeat (first | (with_reducible first | exact HB.out | apply zg | apply zh | apply zi | refine zy ?_ GE321.out | refine zy ?_ GE328.out) | exact HB.out)) hb); clear HO316; clear HO327; clear BK321; clear BK328; clear HB; have HO316 := n0_; have HO327 := n1_; have BK321 := n2_; have BK328 := n3_; have HB := n4_; clear n0_ n1_ n2_ n3_ n4_; (try clear hb); (try clear hb2); (try clear hk); (try clear hi)) | ((with_reducible refine gate_dst (N := 6) rfl ?_); (try (refine gate_guard (by rfl) ?_; dsimp only)); refine box_event ?hg (N := 6) ?hd (cs := #[.int .i64 0, .int .i64 0]) (t := 41) ?hr ?_; (case hd => rfl); (case hg => rfl); (case hr => first | (go_simp; done) | (go_simp; rfl)); intro gb337 hg w21 hbox hb; have n0_ := zm (zp (by (with_reducible repeat (first | apply za | apply zb | apply zc)); exact HO316.out) hb); have n1_ := zm (zp (by (with_reducible repeat (first | apply za | apply zb | apply zc)); exact HO327.out) hb); have n2_ := zm (zu (g := gb321) (o := .cells #[.int .i64 t317, .int .i64 t318, .int .i64 t319, .int .i64 t320] 31 (0, 0)) (by (with_reducible repeat (first | refine zd ?_ _ | refine ze ?_ | refine zf ?_ _)); exact BK321.out) hb); have n3_ := zm (zu (g := gb328) (o := .cells #[.int .i64 t322, .int .i64 t323, .bool t324, .slice Ao18 t325.length co18] 28 (0, 0)) (by (with_reducible repeat (first | refine zd ?_ _ | refine ze ?_ | refine zf ?_ _)); exact BK328.out) hb); have n4_ := zm (zw (by repeat (first | (with_reducible first | exact HB.out | apply zg | apply zh | apply zi | refine zy ?_ GE321.out | refine zy ?_ GE328.out) | exact HB.out)) hb); have n5_ := zm (hbox); have n6_ := zm ((by rw [hg]; exact (zx (by repeat (first | (with_reducible first | exact HB.out | apply zg | apply zh | apply zi | refine zy ?_ GE321.out | refine zy ?_ GE328.out) | exact HB.out))) : w.heap.size ≤ gb337)); have n7_ := zm ((by rw [hg]; exact (zx (by repeat (first | (with_reducible first | exact HB.out | apply zg | apply zh | apply zi | refine zy ?_ GE321.out | refine zy ?_ GE328.out) | exact HB.out))) : w.heap.size ≤ gb337)); have n8_ := zm ((by rw [hg]; exact Nat.ne_of_lt (zv (g := gb321) (o := .cells #[.int .i64 t317, .int .i64 t318, .int .i64 t319, .int .i64 t320] 31 (0, 0)) (by (with_reducible repeat (first | refine zd ?_ _ | refine ze ?_ | refine zf ?_ _)); exact BK321.out)) : gb321 ≠ gb337)); have n9_ := zm ((by rw [hg]; exact Nat.ne_of_gt (zv (g := gb321) (o := .cells #[.int .i64 t317, .int .i64 t318, .int .i64 t319, .int .i64 t320] 31 (0, 0)) (by (with_reducible repeat (first | refine zd ?_ _ | refine ze ?_ | refine zf ?_ _)); exact BK321.out)) : gb337 ≠ gb321)); have n10_ := zm ((by rw [hg]; exact Nat.ne_of_lt (zv (g := gb328) (o := .cells #[.int .i64 t322, .int .i64 t323, .bool t324, .slice Ao18 t325.length co18] 28 (0, 0)) (by (with_reducible repeat (first | refine zd ?_ _ | refine ze ?_ | refine zf ?_ _)); exact BK328.out)) : gb328 ≠ gb337)); have n11_ := zm ((by rw [hg]; exact Nat.ne_of_gt (zv (g := gb328) (o := .cells #[.int .i64 t322, .int .i64 t323, .bool t324, .slice Ao18 t325.length co18] 28 (0, 0)) (by (with_reducible repeat (first | refine zd ?_ _ | refine ze ?_ | refine zf ?_ _)); exact BK328.out)) : gb337 ≠ gb328)); clear HO316; clear HO327; clear BK321; clear BK328; clear HB; have HO316 := n0_; have HO327 := n1_; have BK321 := n2_; have BK328 := n3_; have HB := n4_; have BK337 := n5_; have GW337 := n6_; have GE337 := n7_; have NB321_337 := n8_; have NB337_321 := n9_; have NB328_337 := n10_; have NB337_328 := n11_; clear n0_ n1_ n2_ n3_ n4_ n5_ n6_ n7_ n8_ n9_ n10_ n11_; clear hb hbox hg; have hnb22 := NB337_321.out; have hnc22 := NB321_337.out; have hnb23 := NB337_328.out; have hnc23 := NB328_337.out; have hcz24_0 : w21.cell? ⟨gb337, 0, none⟩ = some (.int .i64 0) := (yG BK337.out 0).trans rfl; have hcz24_1 : w21.cell? ⟨gb337, 1, none⟩ = some (.int .i64 0) := (yG BK337.out 1).trans rfl; have hfz24_0 := zH BK337.out 0; have hfz24_1 := zH BK337.out 1; have hcz25_0 : w21.cell? ⟨gb328, 0, none⟩ = some (.int .i64 t322) := (yG BK328.out 0).trans rfl; have hcz25_1 : w21.cell? ⟨gb328, 1, none⟩ = some (.int .i64 t323) := (yG BK328.out 1).trans rfl; have hcz25_2 : w21.cell? ⟨gb328, 2, none⟩ = some (.bool t324) := (yG BK328.out 2).trans rfl; have hcz25_3 : w21.cell? ⟨gb328, 3, none⟩ = some (.slice Ao18 t325.length co18) := (yG BK328.out 3).trans rfl; have hfz25_0 := zH BK328.out 0; have hfz25_1 := zH BK328.out 1; have hfz25_2 := zH BK328.out 2; have hfz25_3 := zH BK328.out 3; have hcz26_0 : w21.cell? ⟨gb321, 0, none⟩ = some (.int .i64 t317) := (yG BK321.out 0).trans rfl; have hcz26_1 : w21.cell? ⟨gb321, 1, none⟩ = some (.int .i64 t318) := (yG BK321.out 1).trans rfl; have hcz26_2 : w21.cell? ⟨gb321, 2, none⟩ = some (.int .i64 t319) := (yG BK321.out 2).trans rfl; have hcz26_3 : w21.cell? ⟨gb321, 3, none⟩ = some (.int .i64 t320) := (yG BK321.out 3).trans rfl; have hfz26_0 := zH BK321.out 0; have hfz26_1 := zH BK321.out 1; have hfz26_2 := zH BK321.out 2; have hfz26_3 := zH BK321.out 3) | ((with_reducible refine gate_callee (f := 25) rfl ?_); refine goesL_ (some 42) rfl rfl Try.func25 (by kernel_rfl) rfl #[.slice Ao18 t325.length co18, .int .i64 t317] rfl (by (try simp only [zA, zB, zC]); first | done | rfl | (simp only [zE, zD]; rfl)) ?_; (with_reducible refine (impl_FlushCache.calls k _ _ t325 t317 t338 t339 t340 t341 _ ?side1 ?side2 A8.out).mono ?_); (case side1 => refine (zF (e := 31) (base := w.heap.size) (ok := fun k_ => ((True ∧ some k_ ≠ (.slice Ao13 t314.length co13 : Value).ownBlock) ∧ k_ ≠ gb321)) (n := t325.length) (c := co18) ?_).2.2; exact (by (with_reducible repeat (first | apply za | apply zb | apply zc)); exact (zr (zn (p := ⟨gb337, 1, none⟩) (zn (p := ⟨gb337, 0, none⟩) (zq HO327.out BK337.out (by decide)) (fun _ hk => hk.2) (.int .i64 t335)) (fun _ hk => hk.2) (.int .i64 t336)) (fun _ h_ => h_.1)))); (case side2 => exact (zF HO327.out).2.1); rintro e w27 ⟨v342, rfl, ho0, hb⟩; refine ⟨_, rfl, ?_⟩; have n0_ := zm (zo (by (with_reducible repeat (first | apply za | apply zb | apply zc)); exact (zr (zn (p := ⟨gb337, 1, none⟩) (zn (p := ⟨gb337, 0, none⟩) (zq HO316.out BK337.out (by decide)) (fun _ hk => hk.2) (.int .i64 t335)) (fun _ hk => hk.2) (.int .i64 t336)) (fun _ h_ => h_.1))) (zt ho0) hb); have n1_ := zm (zo (by (with_reducible repeat (first | apply za | apply zb | apply zc)); exact (zr (zn (p := ⟨gb337, 1, none⟩) (zn (p := ⟨gb337, 0, none⟩) (zq HO327.out BK337.out (by decide)) (fun _ hk => hk.2) (.int .i64 t335)) (fun _ hk => hk.2) (.int .i64 t336)) (fun _ h_ => h_.1))) (zt ho0) hb); have n2_ := zm (zz (Kd.R_newB (zs (zs ho0 (zG (by (with_reducible repeat (first | apply za | apply zb | apply zc)); exact (zr (zn (p := ⟨gb337, 1, none⟩) (zn (p := ⟨gb337, 0, none⟩) (zq HO316.out BK337.out (by decide)) (fun _ hk => hk.2) (.int .i64 t335)) (fun _ hk => hk.2) (.int .i64 t336)) (fun _ h_ => h_.1))))) (zG (by (with_reducible repeat (first | apply za | apply zb | apply zc)); exact (zr (zn (p := ⟨gb337, 1, none⟩) (zn (p := ⟨gb337, 0, none⟩) (zq HO327.out BK337.out (by decide)) (fun _ hk => hk.2) (.int .i64 t335)) (fun _ hk => hk.2) (.int .i64 t336)) (fun _ h_ => h_.1))))) (g := gb321) (o := .cells #[.int .i64 t317, .int .i64 t318, .int .i64 t319, .int .i64 t320] 31 (0, 0)) (by (with_reducible repeat (first | refine zd ?_ _ | refine ze ?_ | refine zf ?_ _)); refine blk_far ?_ NB321_337.out _; (with_reducible repeat (first | refine zd ?_ _ | refine ze ?_ | refine zf ?_ _)); refine blk_far ?_ NB321_337.out _; (with_reducible repeat (first | refine zd ?_ _ | refine ze ?_ | refine zf ?_ _)); exact BK321.out)) (zx (by repeat (first | (with_reducible first | exact HB.out | apply zg | apply zh | apply zi | refine zy ?_ GE321.out | refine zy ?_ GE328.out | refine zy ?_ GE337.out) | exact HB.out)))); have n3_ := zm (zu (g := gb321) (o := .cells #[.int .i64 t317, .int .i64 t318, .int .i64 t319, .int .i64 t320] 31 (0, 0)) (by (with_reducible repeat (first | refine zd ?_ _ | refine ze ?_ | refine zf ?_ _)); refine blk_far ?_ NB321_337.out _; (with_reducible repeat (first | refine zd ?_ _ | refine ze ?_ | refine zf ?_ _)); refine blk_far ?_ NB321_337.out _; (with_reducible repeat (first | refine zd ?_ _ | refine ze ?_ | refine zf ?_ _)); exact BK321.out) hb); have n4_ := zm (zu (g := gb328) (o := .cells #[.int .i64 t322, .int .i64 t323, .bool t324, .slice Ao18 t325.length co18] 28 (0, 0)) (by (with_reducible repeat (first | refine zd ?_ _ | refine ze ?_ | refine zf ?_ _)); refine blk_far ?_ NB328_337.out _; (with_reducible repeat (first | refine zd ?_ _ | refine ze ?_ | refine zf ?_ _)); refine blk_far ?_ NB328_337.out _; (with_reducible repeat (first | refine zd ?_ _ | refine ze ?_ | refine zf ?_ _)); exact BK328.out) hb); have n5_ := zm (zu (g := gb337) (o := .cells #[.int .i64 t335, .int .i64 t336] 41 (0, 0)) (by (with_reducible repeat (first | refine zd ?_ _ | refine ze ?_ | refine zf ?_ _)); refine blk_put (cs := #[.int .i64 t335, .int .i64 0]) ?_ 1 _ rfl; (with_reducible repeat (first | refine zd ?_ _ | refine ze ?_ | refine zf ?_ _)); refine blk_put (cs := #[.int .i64 0, .int .i64 0]) ?_ 0 _ rfl; (with_reducible repeat (first | refine zd ?_ _ | refine ze ?_ | refine zf ?_ _)); exact BK337.out) hb); have n6_ := zm (zw (by repeat (first | (with_reducible first | exact HB.out | apply zg | apply zh | apply zi | refine zy ?_ GE321.out | refine zy ?_ GE328.out | refine zy ?_ GE337.out) | exact HB.out)) hb); clear HO316; clear HO327; clear BK321; clear BK328; clear BK337; clear HB; have HO316 := n0_; have HO327 := n1_; have HO343 := n2_; have BK321 := n3_; have BK328 := n4_; have BK337 := n5_; have HB := n6_; clear n0_ n1_ n2_ n3_ n4_ n5_ n6_; (try clear hb); (try clear hb2); (try clear hk); (try clear hi); (try clear ho0)) | ((with_reducible refine gate_dst (N := 7) rfl ?_); (try (refine gate_guard (by rfl) ?_; dsimp only)); refine box_event ?hg (N := 7) ?hd (cs := #[.int .i64 0, .int .i64 0, .bool false, .slice none 0 0]) (t := 28) ?hr ?_; (case hd => rfl); (case hg => rfl); (case hr => first | (go_simp; done) | (go_simp; rfl)); intro gb344 hg w28 hbox hb; have n0_ := zm (zp (by (with_reducible repeat (first | apply za | apply zb | apply zc)); exact HO316.out) hb); have n1_ := zm (zp (by (with_reducible repeat (first | apply za | apply zb | apply zc)); exact HO327.out) hb); have n2_ := zm (zp (by (with_reducible repeat (first | apply za | apply zb | apply zc)); exact HO343.out) hb); have n3_ := zm (zu (g := gb321) (o := .cells #[.int .i64 t317, .int .i64 t318, .int .i64 t319, .int .i64 t320] 31 (0, 0)) (by (with_reducible repeat (first | refine zd ?_ _ | refine ze ?_ | refine zf ?_ _)); exact BK321.out) hb); have n4_ := zm (zu (g := gb328) (o := .cells #[.int .i64 t322, .int .i64 t323, .bool t324, .slice Ao18 t325.length co18] 28 (0, 0)) (by (with_reducible repeat (first | refine zd ?_ _ | refine ze ?_ | refine zf ?_ _)); exact BK328.out) hb); have n5_ := zm (zu (g := gb337) (o := .cells #[.int .i64 t335, .int .i64 t336] 41 (0, 0)) (by (with_reducible repeat (first | refine zd ?_ _ | refine ze ?_ | refine zf ?_ _)); exact BK337.out) hb); have n6_ := zm (zw (by repeat (first | (with_reducible first | exact HB.out | apply zg | apply zh | apply zi | refine zy ?_ GE321.out | refine zy ?_ GE328.out | refine zy ?_ GE337.out) | exact HB.out)) hb); have n7_ := zm (hbox); have n8_ := zm ((by rw [hg]; exact (zx (by repeat (first | (with_reducible first | exact HB.out | apply zg | apply zh | apply zi | refine zy ?_ GE321.out | refine zy ?_ GE328.out | refine zy ?_ GE337.out) | exact HB.out))) : w.heap.size ≤ gb344)); have n9_ := zm ((by rw [hg]; exact (zx (by repeat (first | (with_reducible first | exact HB.out | apply zg | apply zh | apply zi | refine zy ?_ GE321.out | refine zy ?_ GE328.out | refine zy ?_ GE337.out) | exact HB.out))) : w.heap.size ≤ gb344)); have n10_ := zm ((by rw [hg]; exact Nat.ne_of_lt (zv (g := gb321) (o := .cells #[.int .i64 t317, .int .i64 t318, .int .i64 t319, .int .i64 t320] 31 (0, 0)) (by (with_reducible repeat (first | refine zd ?_ _ | refine ze ?_ | refine zf ?_ _)); exact BK321.out)) : gb321 ≠ gb344)); have n11_ := zm ((by rw [hg]; exact Nat.ne_of_gt (zv (g := gb321) (o := .cells #[.int .i64 t317, .int .i64 t318, .int .i64 t319, .int .i64 t320] 31 (0, 0)) (by (with_reducible repeat (first | refine zd ?_ _ | refine ze ?_ | refine zf ?_ _)); exact BK321.out)) : gb344 ≠ gb321)); have n12_ := zm ((by rw [hg]; exact Nat.ne_of_lt (zv (g := gb328) (o := .cells #[.int .i64 t322, .int .i64 t323, .bool t324, .slice Ao18 t325.length co18] 28 (0, 0)) (by (with_reducible repeat (first | refine zd ?_ _ | refine ze ?_ | refine zf ?_ _)); exact BK328.out)) : gb328 ≠ gb344)); have n13_ := zm ((by rw [hg]; exact Nat.ne_of_gt (zv (g := gb328) (o := .cells #[.int .i64 t322, .int .i64 t323, .bool t324, .slice Ao18 t325.length co18] 28 (0, 0)) (by (with_reducible repeat (first | refine zd ?_ _ | refine ze ?_ | refine zf ?_ _)); exact BK328.out)) : gb344 ≠ gb328)); have n14_ := zm ((by rw [hg]; exact Nat.ne_of_lt (zv (g := gb337) (o := .cells #[.int .i64 t335, .int .i64 t336] 41 (0, 0)) (by (with_reducible repeat (first | refine zd ?_ _ | refine ze ?_ | refine zf ?_ _)); exact BK337.out)) : gb337 ≠ gb344)); have n15_ := zm ((by rw [hg]; exact Nat.ne_of_gt (zv (g := gb337) (o := .cells #[.int .i64 t335, .int .i64 t336] 41 (0, 0)) (by (with_reducible repeat (first | refine zd ?_ _ | refine ze ?_ | refine zf ?_ _)); exact BK337.out)) : gb344 ≠ gb337)); clear HO316; clear HO327; clear HO343; clear BK321; clear BK328; clear BK337; clear HB; have HO316 := n0_; have HO327 := n1_; have HO343 := n2_; have BK321 := n3_; have BK328 := n4_; have BK337 := n5_; have HB := n6_; have BK344 := n7_; have GW344 := n8_; have GE344 := n9_; have NB321_344 := n10_; have NB344_321 := n11_; have NB328_344 := n12_; have NB344_328 := n13_; have NB337_344 := n14_; have NB344_337 := n15_; clear n0_ n1_ n2_ n3_ n4_ n5_ n6_ n7_ n8_ n9_ n10_ n11_ n12_ n13_ n14_ n15_; clear hb hbox hg; have hnb29 := NB344_321.out; have hnc29 := NB321_344.out; have hnb30 := NB344_328.out; have hnc30 := NB328_344.out; have hnb31 := NB344_337.out; have hnc31 := NB337_344.out; have hcz32_0 : w28.cell? ⟨gb344, 0, none⟩ = some (.int .i64 0) := (yG BK344.out 0).trans rfl; have hcz32_1 : w28.cell? ⟨gb344, 1, none⟩ = some (.int .i64 0) := (yG BK344.out 1).trans rfl; have hcz32_2 : w28.cell? ⟨gb344, 2, none⟩ = some (.bool false) := (yG BK344.out 2).trans rfl; have hcz32_3 : w28.cell? ⟨gb344, 3, none⟩ = some (.slice none 0 0) := (yG BK344.out 3).trans rfl; have hfz32_0 := zH BK344.out 0; have hfz32_1 := zH BK344.out 1; have hfz32_2 := zH BK344.out 2; have hfz32_3 := zH BK344.out 3; obtain ⟨Ao33, co33, eo33⟩ := Kd.R_slice HO343.out; subst eo33))
   (try simp only [Act.put, yA, yB, yC])
   go_cut [85] (fun v85 wc => ∃ (kq : Nat) (x85_8 : Bool), v85 = .bool x85_8 ∧ Aside0 (laws_FnFills.j0 kq t314 x85_8 t317 t318 t319 t320 t322 t323 t324 t325 = some true) ∧ Aside0 (kq ≤ k) ∧ Aside0 (Kd.R k31 31 wc w.heap.size (fun k_ => some k_ ≠ ((.slice Ao18 t325.length co18) : Value).ownBlock ∧ some k_ ≠ ((.slice Ao33 t341.length co33) : Value).ownBlock ∧ k_ ≠ gb321) (.slice Ao13 t314.length co13) t314) ∧ Aside0 (Kd.R k31 31 wc w.heap.size (fun k_ => some k_ ≠ ((.slice Ao13 t314.length co13) : Value).ownBlock ∧ some k_ ≠ ((.slice Ao33 t341.length co33) : Value).ownBlock ∧ k_ ≠ gb321) (.slice Ao18 t325.length co18) t325) ∧ Aside0 (Kd.R k31 31 wc w.heap.size (fun k_ => some k_ ≠ ((.slice Ao13 t314.length co13) : Value).ownBlock ∧ some k_ ≠ ((.slice Ao18 t325.length co18) : Value).ownBlock ∧ k_ ≠ gb321) (.slice Ao33 t341.length co33) t341) ∧ Aside0 (wc.heap[gb321]? = some (.cells #[.int .i64 t317, .int .i64 t318, .int .i64 t319, .int .i64 t320] 31 (0, 0))) ∧ Aside0 (wc.heap[gb328]? = some (.cells #[.int .i64 t322, .int .i64 t323, .bool t324, (.slice Ao18 t325.length co18)] 28 (0, 0))) ∧ Aside0 (wc.heap[gb337]? = some (.cells #[.int .i64 t335, .int .i64 t336] 41 (0, 0))) ∧ Aside0 (wc.heap[gb344]? = some (.cells #[.int .i64 t338, .int .i64 t339, .bool t340, (.slice Ao33 t341.length co33)] 28 (0, 0))) ∧ Aside0 (Below w.heap.size w wc))
   case first =>
    have H := HC9.out
    clear HC9
    replace H := yH.mp H
    obtain ⟨t345, A340, H⟩ := H
    try dsimp only at H
    have A34 := zm A340
    clear A340
    by_cases c35 : t345 = 0
    ·rw [if_pos c35] at H
     have c35b0 : (t345 == 0) = true := beq_iff_eq.mpr c35
     have c35b1 : (t345 != 0) = false := bne_eq_false_iff_eq.mpr c35
     clear c35
     (first | rw [c35b0] | (simp only [i64_w, i32_w]; rw [c35b0]) | skip)
     by_cases c36 : t335 = 0
     ·rw [if_pos c36] at H
      have c36b0 : (t335 == 0) = true := beq_iff_eq.mpr c36
      have c36b1 : (t335 != 0) = false := bne_eq_false_iff_eq.mpr c36
      clear c36
      by_cases c37 : 0 ≤ t336
      ·rw [if_pos c37] at H
       have c37b0 : decide (0 ≤ t336) = true := decide_eq_true c37
       clear c37
       by_cases c38 : t336 < (t325.length : Int)
       ·rw [if_pos c38] at H
        have c38b0 : decide (t336 < (t325.length : Int)) = true := decide_eq_true c38
        clear c38
        by_cases c39 : (!(((rd_T31 t325 t336).f0) == t317) || (!(((rd_T31 t325 t336).f1) == t318) || (!(((rd_T31 t325 t336).f2) == t319) || (!(((rd_T31 t325 t336).f3) == t320))))) = true
        ·rw [if_pos c39] at H
         have c39b0 : (!(((rd_T31 t325 t336).f0) == t317) || (!(((rd_T31 t325 t336).f1) == t318) || (!(((rd_T31 t325 t336).f2) == t319) || (!(((rd_T31 t325 t336).f3) == t320))))) = true := c39
         clear c39
         exact absurd H (laws_FnFills.j0_dead _ _ _ _ _ _ _ _ _ _)
        ·rw [if_neg c39] at H
         have c39b0 : (!(((rd_T31 t325 t336).f0) == t317) || (!(((rd_T31 t325 t336).f1) == t318) || (!(((rd_T31 t325 t336).f2) == t319) || (!(((rd_T31 t325 t336).f3) == t320))))) = false := by simpa using c39
         clear c39
         by_cases c43 : t338 = 0
         ·rw [if_pos c43] at H
          have c43b0 : (t338 == 0) = true := beq_iff_eq.mpr c43
          have c43b1 : (t338 != 0) = false := bne_eq_false_iff_eq.mpr c43
          clear c43
          replace H := yH.mp H
          obtain ⟨⟨t347, t348⟩, A440, H⟩ := H
          try dsimp only at H
          have A44 := zm A440
          clear A440
          by_cases c45 : t347 = 4
          ·rw [if_pos c45] at H
           have c45b0 : (t347 == 4) = true := beq_iff_eq.mpr c45
           have c45b1 : (t347 != 4) = false := bne_eq_false_iff_eq.mpr c45
           clear c45
           have H' := zm H
           clear H
           try go_wp2
           have n0_ : Aside0 (Kd.R k31 31 ((((w28.setCell ⟨gb344, 0, none⟩ (.int .i64 t338)).setCell ⟨gb344, 1, none⟩ (.int .i64 t339)).setCell ⟨gb344, 2, none⟩ (.bool t340)).setCell ⟨gb344, 3, none⟩ (.slice Ao33 t341.length co33)) w.heap.size (fun k_ => some k_ ≠ (.slice Ao18 t325.length co18 : Value).ownBlock ∧ some k_ ≠ (.slice Ao33 t341.length co33 : Value).ownBlock ∧ k_ ≠ gb321) (.slice Ao13 t314.length co13) t314) := ⟨by (with_reducible repeat (first | apply za | apply zb | apply zc)); exact zr (zn (p := ⟨gb344, 3, none⟩) (zn (p := ⟨gb344, 2, none⟩) (zn (p := ⟨gb344, 1, none⟩) (zn (p := ⟨gb344, 0, none⟩) (zq HO316.out BK344.out (by decide)) (fun _ hk => hk.2) (.int .i64 t338)) (fun _ hk => hk.2) (.int .i64 t339)) (fun _ hk => hk.2) (.bool t340)) (fun _ hk => hk.2) (.slice Ao33 t341.length co33)) (fun _ hk => ⟨hk.1.1.2, ⟨hk.1.2, hk.1.1.1.2⟩⟩)⟩
           have n1_ : Aside0 (Kd.R k31 31 ((((w28.setCell ⟨gb344, 0, none⟩ (.int .i64 t338)).setCell ⟨gb344, 1, none⟩ (.int .i64 t339)).setCell ⟨gb344, 2, none⟩ (.bool t340)).setCell ⟨gb344, 3, none⟩ (.slice Ao33 t341.length co33)) w.heap.size (fun k_ => some k_ ≠ (.slice Ao13 t314.length co13 : Value).ownBlock ∧ some k_ ≠ (.slice Ao33 t341.length co33 : Value).ownBlock ∧ k_ ≠ gb321) (.slice Ao18 t325.length co18) t325) := ⟨by (with_reducible repeat (first | apply za | apply zb | apply zc)); exact zr (zn (p := ⟨gb344, 3, none⟩) (zn (p := ⟨gb344, 2, none⟩) (zn (p := ⟨gb344, 1, none⟩) (zn (p := ⟨gb344, 0, none⟩) (zq HO327.out BK344.out (by decide)) (fun _ hk => hk.2) (.int .i64 t338)) (fun _ hk => hk.2) (.int .i64 t339)) (fun _ hk => hk.2) (.bool t340)) (fun _ hk => hk.2) (.slice Ao33 t341.length co33)) (fun _ hk => ⟨hk.1.1.1.2, ⟨hk.1.2, hk.1.1.2⟩⟩)⟩
           have n2_ : Aside0 (Kd.R k31 31 ((((w28.setCell ⟨gb344, 0, none⟩ (.int .i64 t338)).setCell ⟨gb344, 1, none⟩ (.int .i64 t339)).setCell ⟨gb344, 2, none⟩ (.bool t340)).setCell ⟨gb344, 3, none⟩ (.slice Ao33 t341.length co33)) w.heap.size (fun k_ => some k_ ≠ (.slice Ao13 t314.length co13 : Value).ownBlock ∧ some k_ ≠ (.slice Ao18 t325.length co18 : Value).ownBlock ∧ k_ ≠ gb321) (.slice Ao33 t341.length co33) t341) := ⟨by (with_reducible repeat (first | apply za | apply zb | apply zc)); exact zr (zn (p := ⟨gb344, 3, none⟩) (zn (p := ⟨gb344, 2, none⟩) (zn (p := ⟨gb344, 1, none⟩) (zn (p := ⟨gb344, 0, none⟩) (zq HO343.out BK344.out (by decide)) (fun _ hk => hk.2) (.int .i64 t338)) (fun _ hk => hk.2) (.int .i64 t339)) (fun _ hk => hk.2) (.bool t340)) (fun _ hk => hk.2) (.slice Ao33 t341.length co33)) (fun _ hk => ⟨hk.1.1.1.2, ⟨hk.1.1.2, hk.1.2⟩⟩)⟩
           have n3_ : Aside0 (((((w28.setCell ⟨gb344, 0, none⟩ (.int .i64 t338)).setCell ⟨gb344, 1, none⟩ (.int .i64 t339)).setCell ⟨gb344, 2, none⟩ (.bool t340)).setCell ⟨gb344, 3, none⟩ (.slice Ao33 t341.length co33)).heap[gb321]? = some (.cells #[.int .i64 t317, .int .i64 t318, .int .i64 t319, .int .i64 t320] 31 (0, 0))) := ⟨by (with_reducible repeat (first | refine zd ?_ _ | refine ze ?_ | refine zf ?_ _)); refine blk_far ?_ NB321_344.out _; (with_reducible repeat (first | refine zd ?_ _ | refine ze ?_ | refine zf ?_ _)); refine blk_far ?_ NB321_344.out _; (with_reducible repeat (first | refine zd ?_ _ | refine ze ?_ | refine zf ?_ _)); refine blk_far ?_ NB321_344.out _; (with_reducible repeat (first | refine zd ?_ _ | refine ze ?_ | refine zf ?_ _)); refine blk_far ?_ NB321_344.out _; (with_reducible repeat (first | refine zd ?_ _ | refine ze ?_ | refine zf ?_ _)); exact BK321.out⟩
           have n4_ : Aside0 (((((w28.setCell ⟨gb344, 0, none⟩ (.int .i64 t338)).setCell ⟨gb344, 1, none⟩ (.int .i64 t339)).setCell ⟨gb344, 2, none⟩ (.bool t340)).setCell ⟨gb344, 3, none⟩ (.slice Ao33 t341.length co33)).heap[gb328]? = some (.cells #[.int .i64 t322, .int .i64 t323, .bool t324, .slice Ao18 t325.length co18] 28 (0, 0))) := ⟨by (with_reducible repeat (first | refine zd ?_ _ | refine ze ?_ | refine zf ?_ _)); refine blk_far ?_ NB328_344.out _; (with_reducible repeat (first | refine zd ?_ _ | refine ze ?_ | refine zf ?_ _)); refine blk_far ?_ NB328_344.out _; (with_reducible repeat (first | refine zd ?_ _ | refine ze ?_ | refine zf ?_ _)); refine blk_far ?_ NB328_344.out _; (with_reducible repeat (first | refine zd ?_ _ | refine ze ?_ | refine zf ?_ _)); refine blk_far ?_ NB328_344.out _; (with_reducible repeat (first | refine zd ?_ _ | refine ze ?_ | refine zf ?_ _)); exact BK328.out⟩
           have n5_ : Aside0 (((((w28.setCell ⟨gb344, 0, none⟩ (.int .i64 t338)).setCell ⟨gb344, 1, none⟩ (.int .i64 t339)).setCell ⟨gb344, 2, none⟩ (.bool t340)).setCell ⟨gb344, 3, none⟩ (.slice Ao33 t341.length co33)).heap[gb337]? = some (.cells #[.int .i64 t335, .int .i64 t336] 41 (0, 0))) := ⟨by (with_reducible repeat (first | refine zd ?_ _ | refine ze ?_ | refine zf ?_ _)); refine blk_far ?_ NB337_344.out _; (with_reducible repeat (first | refine zd ?_ _ | refine ze ?_ | refine zf ?_ _)); refine blk_far ?_ NB337_344.out _; (with_reducible repeat (first | refine zd ?_ _ | refine ze ?_ | refine zf ?_ _)); refine blk_far ?_ NB337_344.out _; (with_reducible repeat (first | refine zd ?_ _ | refine ze ?_ | refine zf ?_ _)); refine blk_far ?_ NB337_344.out _; (with_reducible repeat (first | refine zd ?_ _ | refine ze ?_ | refine zf ?_ _)); exact BK337.out⟩
           have n6_ : Aside0 (((((w28.setCell ⟨gb344, 0, none⟩ (.int .i64 t338)).setCell ⟨gb344, 1, none⟩ (.int .i64 t339)).setCell ⟨gb344, 2, none⟩ (.bool t340)).setCell ⟨gb344, 3, none⟩ (.slice Ao33 t341.length co33)).heap[gb344]? = some (.cells #[.int .i64 t338, .int .i64 t339, .bool t340, .slice Ao33 t341.length co33] 28 (0, 0))) := ⟨by (with_reducible repeat (first | refine zd ?_ _ | refine ze ?_ | refine zf ?_ _)); refine blk_put (cs := #[.int .i64 t338, .int .i64 t339, .bool t340, .slice none 0 0]) ?_ 3 _ rfl; (with_reducible repeat (first | refine zd ?_ _ | refine ze ?_ | refine zf ?_ _)); refine blk_put (cs := #[.int .i64 t338, .int .i64 t339, .bool false, .slice none 0 0]) ?_ 2 _ rfl; (with_reducible repeat (first | refine zd ?_ _ | refine ze ?_ | refine zf ?_ _)); refine blk_put (cs := #[.int .i64 t338, .int .i64 0, .bool false, .slice none 0 0]) ?_ 1 _ rfl; (with_reducible repeat (first | refine zd ?_ _ | refine ze ?_ | refine zf ?_ _)); refine blk_put (cs := #[.int .i64 0, .int .i64 0, .bool false, .slice none 0 0]) ?_ 0 _ rfl; (with_reducible repeat (first | refine zd ?_ _ | refine ze ?_ | refine zf ?_ _)); exact BK344.out⟩
           have n7_ : Aside0 (Below w.heap.size w ((((w28.setCell ⟨gb344, 0, none⟩ (.int .i64 t338)).setCell ⟨gb344, 1, none⟩ (.int .i64 t339)).setCell ⟨gb344, 2, none⟩ (.bool t340)).setCell ⟨gb344, 3, none⟩ (.slice Ao33 t341.length co33))) := ⟨by repeat (first | (with_reducible first | exact HB.out | apply zg | apply zh | apply zi | refine zy ?_ GE321.out | refine zy ?_ GE328.out | refine zy ?_ GE337.out | refine zy ?_ GE344.out) | exact HB.out)⟩
           (try clear HO316)
           (try clear HO327)
           (try clear HO343)
           (try clear BK321)
           (try clear BK328)
           (try clear BK337)
           (try clear BK344)
           (try clear HB)
           generalize ((((w28.setCell ⟨gb344, 0, none⟩ (.int .i64 t338)).setCell ⟨gb344, 1, none⟩ (.int .i64 t339)).setCell ⟨gb344, 2, none⟩ (.bool t340)).setCell ⟨gb344, 3, none⟩ (.slice Ao33 t341.length co33)) = w46 at n0_ n1_ n2_ n3_ n4_ n5_ n6_ n7_ ⊢
           have HO316 := n0_
           have HO327 := n1_
           have HO343 := n2_
           have BK321 := n3_
           have BK328 := n4_
           have BK337 := n5_
           have BK344 := n6_
           have HB := n7_
           clear n0_ n1_ n2_ n3_ n4_ n5_ n6_ n7_
           have n0_ := zm (Kd.R_drew HO316.out)
           have n1_ := zm (Kd.R_drew HO327.out)
           have n2_ := zm (Kd.R_drew HO343.out)
           have n3_ := zm (blk_drew BK321.out)
           have n4_ := zm (blk_drew BK328.out)
           have n5_ := zm (blk_drew BK337.out)
           have n6_ := zm (blk_drew BK344.out)
           have n7_ := zm (below_drew1 HB.out)
           clear HO316
           clear HO327
           clear HO343
           clear BK321
           clear BK328
           clear BK337
           clear BK344
           clear HB
           have HO316 := n0_
           have HO327 := n1_
           have HO343 := n2_
           have BK321 := n3_
           have BK328 := n4_
           have BK337 := n5_
           have BK344 := n6_
           have HB := n7_
           clear n0_ n1_ n2_ n3_ n4_ n5_ n6_ n7_
           have p346 : 0 ≤ (t336 : Int) := of_decide_eq_true (by first | (with_reducible assumption) | assumption)
           have q346 : t336 < (t325.length : Int) := of_decide_eq_true (by first | (with_reducible assumption) | assumption)
           obtain ⟨ad346, e346, hx346_0, hx346_1, hx346_2, hx346_3⟩ := at_T31 (zF HO327.out).2.2 t336 p346 q346
           cases e346
           replace p346 := eq_true p346
           replace q346 := eq_true q346
           refine start_ (n := 43) (S := fun w' => w'.cell? ⟨gb328, 0, none⟩ = some (.int .i64 t322) ∧ w'.cell? ⟨gb328, 1, none⟩ = some (.int .i64 t323) ∧ w'.cell? ⟨gb328, 2, none⟩ = some (.bool t324) ∧ w'.cell? ⟨gb328, 3, none⟩ = some (.slice (some ad346) t325.length co18) ∧ w'.cell? ⟨gb337, 0, none⟩ = some (.int .i64 t335) ∧ w'.cell? ⟨gb337, 1, none⟩ = some (.int .i64 t336) ∧ w'.cell? ⟨gb321, 0, none⟩ = some (.int .i64 t317) ∧ w'.cell? ⟨gb321, 1, none⟩ = some (.int .i64 t318) ∧ w'.cell? ⟨gb321, 2, none⟩ = some (.int .i64 t319) ∧ w'.cell? ⟨gb321, 3, none⟩ = some (.int .i64 t320) ∧ w'.cell? ⟨gb344, 0, none⟩ = some (.int .i64 t338) ∧ w'.cell? ⟨gb344, 1, none⟩ = some (.int .i64 t339) ∧ w'.cell? ⟨gb344, 2, none⟩ = some (.bool t340) ∧ w'.cell? ⟨gb344, 3, none⟩ = some (.slice Ao33 t341.length co33) ∧ w'.cell? (ad346.add ((t336).toNat * 4)) = some (.int .i64 ((rd_T31 t325 t336).f0)) ∧ w'.cell? ⟨(ad346.add ((t336).toNat * 4)).block, (ad346.add ((t336).toNat * 4)).off + 1, none⟩ = some (.int .i64 ((rd_T31 t325 t336).f1)) ∧ w'.cell? ⟨(ad346.add ((t336).toNat * 4)).block, (ad346.add ((t336).toNat * 4)).off + 2, none⟩ = some (.int .i64 ((rd_T31 t325 t336).f2)) ∧ w'.cell? ⟨(ad346.add ((t336).toNat * 4)).block, (ad346.add ((t336).toNat * 4)).off + 3, none⟩ = some (.int .i64 ((rd_T31 t325 t336).f3))) (ds := []) #[false, false, false, false, false, false, false, false, false, false, false, false, false, false, false, false, false, false, false, false, false, false, false, false, false, false, false, false, false, false, false, false, false, false, false, false, false, false, false, false, false, false, false] (by kernel_rfl) rfl rfl ⟨(yG BK328.out 0).trans rfl, (yG BK328.out 1).trans rfl, (yG BK328.out 2).trans rfl, (yG BK328.out 3).trans rfl, (yG BK337.out 0).trans rfl, (yG BK337.out 1).trans rfl, (yG BK321.out 0).trans rfl, (yG BK321.out 1).trans rfl, (yG BK321.out 2).trans rfl, (yG BK321.out 3).trans rfl, (yG BK344.out 0).trans rfl, (yG BK344.out 1).trans rfl, (yG BK344.out 2).trans rfl, (yG BK344.out 3).trans rfl, hx346_0, hx346_1, hx346_2, hx346_3⟩ (fun hHeld => ?_); refine with_tabW laws_FnFills.tab9 laws_FnFills.bits9 (fun HT_ HW_ => ?_)
           generalize w46.drew = w47 at HO316 HO327 HO343 BK321 BK328 BK337 BK344 HB hx346_0 hx346_1 hx346_2 hx346_3 hHeld ⊢
           refine pure_ (i := 0) (N := some 43) (v := ?_) (a' := ?_) #[true, false, false, false, false, false, false, false, false, false, false, false, false, false, false, false, false, false, false, false, false, false, false, false, false, false, false, false, false, false, false, false, false, false, false, false, false, false, false, false, false, false, false] rfl rfl (any_of HT_.out (by kernel_rfl)) (fun _ _ _ h => h) (Or.inl ⟨by rfl, ?_⟩) ?_ ?_; rotate_left; (intro w'; go_simp; with_reducible rfl); rotate_left; (simp only [Act.put, yA, yB, yC, i64_w, i32_w]; rfl)
           refine take_ (i := 1) (N := some 44) (v := ?_) (a' := ?_) #[true, true, false, false, false, false, false, false, false, false, false, false, false, false, false, false, false, false, false, false, false, false, false, false, false, false, false, false, false, false, false, false, false, false, false, false, false, false, false, false, false, false, false] rfl rfl (take_ofW HT_.out HW_.out (by kernel_rfl)) (fun _ _ _ h => h) (Or.inl ⟨by rfl, ?_⟩) hHeld ?_ ?_; rotate_left; (rintro w' ⟨s0, s1, s2, s3, s4, s5, s6, s7, s8, s9, s10, s11, s12, s13, s14, s15, s16, s17⟩; go_simp; with_reducible rfl); rotate_left; (simp only [Act.put, yA, yB, yC, i64_w, i32_w]; rfl)
           refine one_ (i := 2) (N := some 45) #[true, true, true, false, false, false, false, false, false, false, false, false, false, false, false, false, false, false, false, false, false, false, false, false, false, false, false, false, false, false, false, false, false, false, false, false, false, false, false, false, false, false, false] rfl rfl (one_of HT_.out (by kernel_rfl)) (by decide) (fun K hK => ?_)
           refine goes_ Try.func20 (by kernel_rfl) rfl #[.slice (some ad346) t325.length co18] (by rfl) rfl rfl (by (try simp only [zA, zB, zC]); first | done | rfl | (simp only [zE, zD]; rfl)) ?_
           with_reducible refine (impl_CacheFault.calls k _ _ t325 t345 _ ?side1 ?side2 A34.out).mono ?_
           (case side1 => repeat (first | exact (zF HO327.out).2.2 | (with_reducible first | refine zj ?_ _ | refine zk ?_ _ | refine zl ?_)))
           (case side2 => exact (zF HO327.out).2.1)
           rintro e w48 ⟨rfl, hb⟩
           have HS14_ := (hb.cell (yF _ _ (hHeld.2.2.2.2.2.2.2.2.2.2.2.2.2.2.1))).trans (hHeld.2.2.2.2.2.2.2.2.2.2.2.2.2.2.1)
           have HS15_ := (hb.cell (yF _ _ (hHeld.2.2.2.2.2.2.2.2.2.2.2.2.2.2.2.1))).trans (hHeld.2.2.2.2.2.2.2.2.2.2.2.2.2.2.2.1)
           have HS16_ := (hb.cell (yF _ _ (hHeld.2.2.2.2.2.2.2.2.2.2.2.2.2.2.2.2.1))).trans (hHeld.2.2.2.2.2.2.2.2.2.2.2.2.2.2.2.2.1)
           have HS17_ := (hb.cell (yF _ _ (hHeld.2.2.2.2.2.2.2.2.2.2.2.2.2.2.2.2.2))).trans (hHeld.2.2.2.2.2.2.2.2.2.2.2.2.2.2.2.2.2)
           refine ⟨_, rfl, ?_⟩
           have n0_ := zm (zp (by (with_reducible repeat (first | apply za | apply zb | apply zc)); exact HO316.out) hb)
           have n1_ := zm (zp (by (with_reducible repeat (first | apply za | apply zb | apply zc)); exact HO327.out) hb)
           have n2_ := zm (zp (by (with_reducible repeat (first | apply za | apply zb | apply zc)); exact HO343.out) hb)
           have n3_ := zm (zu (g := gb321) (o := .cells #[.int .i64 t317, .int .i64 t318, .int .i64 t319, .int .i64 t320] 31 (0, 0)) (by (with_reducible repeat (first | refine zd ?_ _ | refine ze ?_ | refine zf ?_ _)); exact BK321.out) hb)
           have n4_ := zm (zu (g := gb328) (o := .cells #[.int .i64 t322, .int .i64 t323, .bool t324, .slice (some ad346) t325.length co18] 28 (0, 0)) (by (with_reducible repeat (first | refine zd ?_ _ | refine ze ?_ | refine zf ?_ _)); exact BK328.out) hb)
           have n5_ := zm (zu (g := gb337) (o := .cells #[.int .i64 t335, .int .i64 t336] 41 (0, 0)) (by (with_reducible repeat (first | refine zd ?_ _ | refine ze ?_ | refine zf ?_ _)); exact BK337.out) hb)
           have n6_ := zm (zu (g := gb344) (o := .cells #[.int .i64 t338, .int .i64 t339, .bool t340, .slice Ao33 t341.length co33] 28 (0, 0)) (by (with_reducible repeat (first | refine zd ?_ _ | refine ze ?_ | refine zf ?_ _)); exact BK344.out) hb)
           have n7_ := zm (zw (by repeat (first | (with_reducible first | exact HB.out | apply zg | apply zh | apply zi | refine zy ?_ GE321.out | refine zy ?_ GE328.out | refine zy ?_ GE337.out | refine zy ?_ GE344.out) | exact HB.out)) hb)
           clear HO316
           clear HO327
           clear HO343
           clear BK321
           clear BK328
           clear BK337
           clear BK344
           clear HB
           have HO316 := n0_
           have HO327 := n1_
           have HO343 := n2_
           have BK321 := n3_
           have BK328 := n4_
           have BK337 := n5_
           have BK344 := n6_
           have HB := n7_
           clear n0_ n1_ n2_ n3_ n4_ n5_ n6_ n7_
           (try clear hb)
           (try clear hb2)
           (try clear hk)
           (try clear hi)
           refine hK.out _ _ ⟨(yG BK328.out 0).trans rfl, (yG BK328.out 1).trans rfl, (yG BK328.out 2).trans rfl, (yG BK328.out 3).trans rfl, (yG BK337.out 0).trans rfl, (yG BK337.out 1).trans rfl, (yG BK321.out 0).trans rfl, (yG BK321.out 1).trans rfl, (yG BK321.out 2).trans rfl, (yG BK321.out 3).trans rfl, (yG BK344.out 0).trans rfl, (yG BK344.out 1).trans rfl, (yG BK344.out 2).trans rfl, (yG BK344.out 3).trans rfl, HS14_, HS15_, HS16_, HS17_⟩ (fun hHeld => ?_)
           clear hK K
           refine norm_ (a' := ?_) ?_ ?_; rotate_left; (show Act.put _ (some 45) _ = _; simp only [Act.put, yA, yB, yC, i64_w, i32_w]; rfl)
           refine pure_ (i := 3) (N := some 46) (v := ?_) (a' := ?_) #[true, true, true, true, false, false, false, false, false, false, false, false, false, false, false, false, false, false, false, false, false, false, false, false, false, false, false, false, false, false, false, false, false, false, false, false, false, false, false, false, false, false, false] rfl rfl (any_of HT_.out (by kernel_rfl)) (fun _ _ _ h => h) (Or.inl ⟨by rfl, ?_⟩) ?_ ?_; rotate_left; (intro w'; go_simp; with_reducible rfl); rotate_left; (simp only [Act.put, yA, yB, yC, i64_w, i32_w]; rfl)
           refine pure_ (i := 4) (N := some 47) (v := ?_) (a' := ?_) #[true, true, true, true, true, false, false, false, false, false, false, false, false, false, false, false, false, false, false, false, false, false, false, false, false, false, false, false, false, false, false, false, false, false, false, false, false, false, false, false, false, false, false] rfl rfl (any_of HT_.out (by kernel_rfl)) (fun _ _ _ h => h) (Or.inl ⟨by rfl, ?_⟩) ?_ ?_; rotate_left; (intro w'; go_simp; with_reducible rfl); rotate_left; (simp only [Act.put, yA, yB, yC, i64_w, i32_w]; rfl)
           refine pure_ (i := 5) (N := some 48) (v := ?_) (a' := ?_) #[true, true, true, true, true, true, false, false, false, false, false, false, false, false, false, false, false, false, false, false, false, false, false, false, false, false, false, false, false, false, false, false, false, false, false, false, false, false, false, false, false, false, false] rfl rfl (any_of HT_.out (by kernel_rfl)) (fun _ _ _ h => h) (Or.inl ⟨by rfl, ?_⟩) ?_ ?_; rotate_left; (intro w'; go_simp; with_reducible rfl); rotate_left; (simp only [Act.put, yA, yB, yC, i64_w, i32_w]; rfl)
           refine take_ (i := 6) (N := some 49) (v := ?_) (a' := ?_) #[true, true, true, true, true, true, true, false, false, false, false, false, false, false, false, false, false, false, false, false, false, false, false, false, false, false, false, false, false, false, false, false, false, false, false, false, false, false, false, false, false, false, false] rfl rfl (take_ofW HT_.out HW_.out (by kernel_rfl)) (fun _ _ _ h => h) (Or.inl ⟨by rfl, ?_⟩) hHeld ?_ ?_; rotate_left; (rintro w' ⟨s0, s1, s2, s3, s4, s5, s6, s7, s8, s9, s10, s11, s12, s13, s14, s15, s16, s17⟩; go_simp; with_reducible rfl); rotate_left; (simp only [Act.put, yA, yB, yC, i64_w, i32_w]; rfl)
           refine pure_ (i := 7) (N := some 50) (v := ?_) (a' := ?_) #[true, true, true, true, true, true, true, true, false, false, false, false, false, false, false, false, false, false, false, false, false, false, false, false, false, false, false, false, false, false, false, false, false, false, false, false, false, false, false, false, false, false, false] rfl rfl (any_of HT_.out (by kernel_rfl)) (fun _ _ _ h => h) (Or.inl ⟨by rfl, ?_⟩) ?_ ?_; rotate_left; (intro w'; go_simp; with_reducible rfl); rotate_left; (simp only [Act.put, yA, yB, yC, i64_w, i32_w]; rfl)
           refine pure_ (i := 8) (N := some 51) (v := ?_) (a' := ?_) #[true, true, true, true, true, true, true, true, true, false, false, false, false, false, false, false, false, false, false, false, false, false, false, false, false, false, false, false, false, false, false, false, false, false, false, false, false, false, false, false, false, false, false] rfl rfl (any_of HT_.out (by kernel_rfl)) (fun _ _ _ h => h) (Or.inl ⟨by rfl, ?_⟩) ?_ ?_; rotate_left; (intro w'; go_simp; with_reducible rfl); rotate_left; (simp only [Act.put, yA, yB, yC, i64_w, i32_w]; rfl)
           refine pure_ (i := 9) (N := some 52) (v := ?_) (a' := ?_) #[true, true, true, true, true, true, true, true, true, true, false, false, false, false, false, false, false, false, false, false, false, false, false, false, false, false, false, false, false, false, false, false, false, false, false, false, false, false, false, false, false, false, false] rfl rfl (any_of HT_.out (by kernel_rfl)) (fun _ _ _ h => h) (Or.inl ⟨by rfl, ?_⟩) ?_ ?_; rotate_left; (intro w'; go_simp; with_reducible rfl); rotate_left; (simp only [Act.put, yA, yB, yC, i64_w, i32_w]; rfl)
           refine pure_ (i := 10) (N := some 53) (v := ?_) (a' := ?_) #[true, true, true, true, true, true, true, true, true, true, true, false, false, false, false, false, false, false, false, false, false, false, false, false, false, false, false, false, false, false, false, false, false, false, false, false, false, false, false, false, false, false, false] rfl rfl (any_of HT_.out (by kernel_rfl)) (fun _ _ _ h => h) (Or.inl ⟨by rfl, ?_⟩) ?_ ?_; rotate_left; (intro w'; go_simp; with_reducible rfl); rotate_left; (simp only [Act.put, yA, yB, yC, i64_w, i32_w]; rfl)
           refine pure_ (i := 12) (N := some 55) (v := ?_) (a' := ?_) #[true, true, true, true, true, true, true, true, true, true, true, false, true, false, false, false, false, false, false, false, false, false, false, false, false, false, false, false, false, false, false, false, false, false, false, false, false, false, false, false, false, false, false] rfl rfl (any_of HT_.out (by kernel_rfl)) (fun _ _ _ h => h) (Or.inl ⟨by rfl, ?_⟩) ?_ ?_; rotate_left; (intro w'; go_simp; with_reducible rfl); rotate_left; (simp only [Act.put, yA, yB, yC, i64_w, i32_w]; rfl)
           refine take_ (i := 11) (N := some 54) (v := ?_) (a' := ?_) #[true, true, true, true, true, true, true, true, true, true, true, true, true, false, false, false, false, false, false, false, false, false, false, false, false, false, false, false, false, false, false, false, false, false, false, false, false, false, false, false, false, false, false] rfl rfl (take_ofW HT_.out HW_.out (by kernel_rfl)) (fun _ _ _ h => h) (Or.inl ⟨by rfl, ?_⟩) hHeld ?_ ?_; rotate_left; (rintro w' ⟨s0, s1, s2, s3, s4, s5, s6, s7, s8, s9, s10, s11, s12, s13, s14, s15, s16, s17⟩; go_simp; with_reducible rfl); rotate_left; (simp only [Act.put, yA, yB, yC, i64_w, i32_w]; rfl)
           refine take_ (i := 13) (N := some 56) (v := ?_) (a' := ?_) #[true, true, true, true, true, true, true, true, true, true, true, true, true, true, false, false, false, false, false, false, false, false, false, false, false, false, false, false, false, false, false, false, false, false, false, false, false, false, false, false, false, false, false] rfl rfl (take_ofW HT_.out HW_.out (by kernel_rfl)) (fun _ _ _ h => h) (Or.inl ⟨by rfl, ?_⟩) hHeld ?_ ?_; rotate_left; (rintro w' ⟨s0, s1, s2, s3, s4, s5, s6, s7, s8, s9, s10, s11, s12, s13, s14, s15, s16, s17⟩; go_simp; with_reducible rfl); rotate_left; (simp only [Act.put, yA, yB, yC, i64_w, i32_w]; rfl)
           refine pure_ (i := 14) (N := some 57) (v := ?_) (a' := ?_) #[true, true, true, true, true, true, true, true, true, true, true, true, true, true, true, false, false, false, false, false, false, false, false, false, false, false, false, false, false, false, false, false, false, false, false, false, false, false, false, false, false, false, false] rfl rfl (any_of HT_.out (by kernel_rfl)) (fun _ _ _ h => h) (Or.inl ⟨by rfl, ?_⟩) ?_ ?_; rotate_left; (intro w'; go_simp; with_reducible rfl); rotate_left; (simp only [Act.put, yA, yB, yC, i64_w, i32_w]; rfl)
           refine take_ (i := 15) (N := some 58) (v := ?_) (a' := ?_) #[true, true, true, true, true, true, true, true, true, true, true, true, true, true, true, true, false, false, false, false, false, false, false, false, false, false, false, false, false, false, false, false, false, false, false, false, false, false, false, false, false, false, false] rfl rfl (take_ofW HT_.out HW_.out (by kernel_rfl)) (fun _ _ _ h => h) (Or.inl ⟨by rfl, ?_⟩) hHeld ?_ ?_; rotate_left; (rintro w' ⟨s0, s1, s2, s3, s4, s5, s6, s7, s8, s9, s10, s11, s12, s13, s14, s15, s16, s17⟩; go_simp; with_reducible rfl); rotate_left; (simp only [Act.put, yA, yB, yC, i64_w, i32_w]; rfl)
           refine take_ (i := 16) (N := some 59) (v := ?_) (a' := ?_) #[true, true, true, true, true, true, true, true, true, true, true, true, true, true, true, true, true, false, false, false, false, false, false, false, false, false, false, false, false, false, false, false, false, false, false, false, false, false, false, false, false, false, false] rfl rfl (take_ofW HT_.out HW_.out (by kernel_rfl)) (fun _ _ _ h => h) (Or.inl ⟨by rfl, ?_⟩) hHeld ?_ ?_; rotate_left; (rintro w' ⟨s0, s1, s2, s3, s4, s5, s6, s7, s8, s9, s10, s11, s12, s13, s14, s15, s16, s17⟩; go_simp; with_reducible rfl); rotate_left; (simp only [Act.put, yA, yB, yC, i64_w, i32_w]; rfl)
           refine pure_ (i := 17) (N := some 60) (v := ?_) (a' := ?_) #[true, true, true, true, true, true, true, true, true, true, true, true, true, true, true, true, true, true, false, false, false, false, false, false, false, false, false, false, false, false, false, false, false, false, false, false, false, false, false, false, false, false, false] rfl rfl (any_of HT_.out (by kernel_rfl)) (fun _ _ _ h => h) (Or.inl ⟨by rfl, ?_⟩) ?_ ?_; rotate_left; (intro w'; go_simp; with_reducible rfl); rotate_left; (simp only [Act.put, yA, yB, yC, i64_w, i32_w]; rfl)
           refine pure_ (i := 18) (N := some 61) (v := ?_) (a' := ?_) #[true, true, true, true, true, true, true, true, true, true, true, true, true, true, true, true, true, true, true, false, false, false, false, false, false, false, false, false, false, false, false, false, false, false, false, false, false, false, false, false, false, false, false] rfl rfl (any_of HT_.out (by kernel_rfl)) (fun _ _ _ h => h) (Or.inl ⟨by rfl, ?_⟩) ?_ ?_; rotate_left; (intro w'; go_simp; with_reducible rfl); rotate_left; (simp only [Act.put, yA, yB, yC, i64_w, i32_w]; rfl)
           refine pure_ (i := 19) (N := some 62) (v := ?_) (a' := ?_) #[true, true, true, true, true, true, true, true, true, true, true, true, true, true, true, true, true, true, true, true, false, false, false, false, false, false, false, false, false, false, false, false, false, false, false, false, false, false, false, false, false, false, false] rfl rfl (any_of HT_.out (by kernel_rfl)) (fun _ _ _ h => h) (Or.inl ⟨by rfl, ?_⟩) ?_ ?_; rotate_left; (intro w'; go_simp; with_reducible rfl); rotate_left; (simp only [Act.put, yA, yB, yC, i64_w, i32_w]; rfl)
           refine pure_ (i := 20) (N := some 63) (v := ?_) (a' := ?_) #[true, true, true, true, true, true, true, true, true, true, true, true, true, true, true, true, true, true, true, true, true, false, false, false, false, false, false, false, false, false, false, false, false, false, false, false, false, false, false, false, false, false, false] rfl rfl (any_of HT_.out (by kernel_rfl)) (fun _ _ _ h => h) (Or.inl ⟨by rfl, ?_⟩) ?_ ?_; rotate_left; (intro w'; go_simp; with_reducible rfl); rotate_left; (simp only [Act.put, yA, yB, yC, i64_w, i32_w]; rfl)
           refine take_ (i := 21) (N := some 64) (v := ?_) (a' := ?_) #[true, true, true, true, true, true, true, true, true, true, true, true, true, true, true, true, true, true, true, true, true, true, false, false, false, false, false, false, false, false, false, false, false, false, false, false, false, false, false, false, false, false, false] rfl rfl (take_ofW HT_.out HW_.out (by kernel_rfl)) (fun _ _ _ h => h) (Or.inl ⟨by rfl, ?_⟩) hHeld ?_ ?_; rotate_left; (rintro w' ⟨s0, s1, s2, s3, s4, s5, s6, s7, s8, s9, s10, s11, s12, s13, s14, s15, s16, s17⟩; go_simp; with_reducible rfl); rotate_left; (simp only [Act.put, yA, yB, yC, i64_w, i32_w]; rfl)
           refine pure_ (i := 22) (N := some 65) (v := ?_) (a' := ?_) #[true, true, true, true, true, true, true, true, true, true, true, true, true, true, true, true, true, true, true, true, true, true, true, false, false, false, false, false, false, false, false, false, false, false, false, false, false, false, false, false, false, false, false] rfl rfl (any_of HT_.out (by kernel_rfl)) (fun _ _ _ h => h) (Or.inl ⟨by rfl, ?_⟩) ?_ ?_; rotate_left; (intro w'; go_simp; with_reducible rfl); rotate_left; (simp only [Act.put, yA, yB, yC, i64_w, i32_w]; rfl)
           refine pure_ (i := 23) (N := some 66) (v := ?_) (a' := ?_) #[true, true, true, true, true, true, true, true, true, true, true, true, true, true, true, true, true, true, true, true, true, true, true, true, false, false, false, false, false, false, false, false, false, false, false, false, false, false, false, false, false, false, false] rfl rfl (any_of HT_.out (by kernel_rfl)) (fun _ _ _ h => h) (Or.inl ⟨by rfl, ?_⟩) ?_ ?_; rotate_left; (intro w'; go_simp; with_reducible rfl); rotate_left; (simp only [Act.put, yA, yB, yC, i64_w, i32_w]; rfl)
           refine pure_ (i := 24) (N := some 67) (v := ?_) (a' := ?_) #[true, true, true, true, true, true, true, true, true, true, true, true, true, true, true, true, true, true, true, true, true, true, true, true, true, false, false, false, false, false, false, false, false, false, false, false, false, false, false, false, false, false, false] rfl rfl (any_of HT_.out (by kernel_rfl)) (fun _ _ _ h => h) (Or.inl ⟨by rfl, ?_⟩) ?_ ?_; rotate_left; (intro w'; go_simp; with_reducible rfl); rotate_left; (simp only [Act.put, yA, yB, yC, i64_w, i32_w]; rfl)
           refine pure_ (i := 25) (N := some 68) (v := ?_) (a' := ?_) #[true, true, true, true, true, true, true, true, true, true, true, true, true, true, true, true, true, true, true, true, true, true, true, true, true, true, false, false, false, false, false, false, false, false, false, false, false, false, false, false, false, false, false] rfl rfl (any_of HT_.out (by kernel_rfl)) (fun _ _ _ h => h) (Or.inl ⟨by rfl, ?_⟩) ?_ ?_; rotate_left; (intro w'; go_simp; with_reducible rfl); rotate_left; (simp only [Act.put, yA, yB, yC, i64_w, i32_w]; rfl)
           refine pure_ (i := 27) (N := some 70) (v := ?_) (a' := ?_) #[true, true, true, true, true, true, true, true, true, true, true, true, true, true, true, true, true, true, true, true, true, true, true, true, true, true, false, true, false, false, false, false, false, false, false, false, false, false, false, false, false, false, false] rfl rfl (any_of HT_.out (by kernel_rfl)) (fun _ _ _ h => h) (Or.inl ⟨by rfl, ?_⟩) ?_ ?_; rotate_left; (intro w'; go_simp; with_reducible rfl); rotate_left; (simp only [Act.put, yA, yB, yC, i64_w, i32_w]; rfl)
           refine pure_ (i := 29) (N := some 72) (v := ?_) (a' := ?_) #[true, true, true, true, true, true, true, true, true, true, true, true, true, true, true, true, true, true, true, true, true, true, true, true, true, true, false, true, false, true, false, false, false, false, false, false, false, false, false, false, false, false, false] rfl rfl (any_of HT_.out (by kernel_rfl)) (fun _ _ _ h => h) (Or.inl ⟨by rfl, ?_⟩) ?_ ?_; rotate_left; (intro w'; go_simp; with_reducible rfl); rotate_left; (simp only [Act.put, yA, yB, yC, i64_w, i32_w]; rfl)
           refine take_ (i := 26) (N := some 69) (v := ?_) (a' := ?_) #[true, true, true, true, true, true, true, true, true, true, true, true, true, true, true, true, true, true, true, true, true, true, true, true, true, true, true, true, false, true, false, false, false, false, false, false, false, false, false, false, false, false, false] rfl rfl (take_ofW HT_.out HW_.out (by kernel_rfl)) (fun _ _ _ h => h) (Or.inl ⟨by rfl, ?_⟩) hHeld ?_ ?_; rotate_left; (rintro w' ⟨s0, s1, s2, s3, s4, s5, s6, s7, s8, s9, s10, s11, s12, s13, s14, s15, s16, s17⟩; go_simp; with_reducible rfl); rotate_left; (simp only [Act.put, yA, yB, yC, i64_w, i32_w]; rfl)
           refine take_ (i := 28) (N := some 71) (v := ?_) (a' := ?_) #[true, true, true, true, true, true, true, true, true, true, true, true, true, true, true, true, true, true, true, true, true, true, true, true, true, true, true, true, true, true, false, false, false, false, false, false, false, false, false, false, false, false, false] rfl rfl (take_ofW HT_.out HW_.out (by kernel_rfl)) (fun _ _ _ h => h) (Or.inl ⟨by rfl, ?_⟩) hHeld ?_ ?_; rotate_left; (rintro w' ⟨s0, s1, s2, s3, s4, s5, s6, s7, s8, s9, s10, s11, s12, s13, s14, s15, s16, s17⟩; go_simp; with_reducible rfl); rotate_left; (simp only [Act.put, yA, yB, yC, i64_w, i32_w]; rfl)
           refine take_ (i := 30) (N := some 73) (v := ?_) (a' := ?_) #[true, true, true, true, true, true, true, true, true, true, true, true, true, true, true, true, true, true, true, true, true, true, true, true, true, true, true, true, true, true, true, false, false, false, false, false, false, false, false, false, false, false, false] rfl rfl (take_ofW HT_.out HW_.out (by kernel_rfl)) (fun _ _ _ h => h) (Or.inl ⟨by rfl, ?_⟩) hHeld ?_ ?_; rotate_left; (rintro w' ⟨s0, s1, s2, s3, s4, s5, s6, s7, s8, s9, s10, s11, s12, s13, s14, s15, s16, s17⟩; go_simp; with_reducible rfl); rotate_left; (simp only [Act.put, yA, yB, yC, i64_w, i32_w]; rfl)
           refine one_ (i := 31) (N := some 74) #[true, true, true, true, true, true, true, true, true, true, true, true, true, true, true, true, true, true, true, true, true, true, true, true, true, true, true, true, true, true, true, true, false, false, false, false, false, false, false, false, false, false, false] rfl rfl (one_of HT_.out (by kernel_rfl)) (by decide) (fun K hK => ?_)
           refine goes_ Try.func22 (by kernel_rfl) rfl #[.slice Ao33 t341.length co33, .int .i64 t317, .int .i64 t318] (by rfl) rfl rfl (by (try simp only [zA, zB, zC]); first | done | rfl | (simp only [zE, zD]; rfl)) ?_
           with_reducible refine (impl_FindHit.calls k _ _ t341 t317 t318 t347 t348 _ ?side1 ?side2 A44.out).mono ?_
           (case side1 => repeat (first | exact (zF HO343.out).2.2 | (with_reducible first | refine zj ?_ _ | refine zk ?_ _ | refine zl ?_)))
           (case side2 => exact (zF HO343.out).2.1)
           rintro e w49 ⟨rfl, hb⟩
           have HS14_ := (hb.cell (yF _ _ (hHeld.2.2.2.2.2.2.2.2.2.2.2.2.2.2.1))).trans (hHeld.2.2.2.2.2.2.2.2.2.2.2.2.2.2.1)
           have HS15_ := (hb.cell (yF _ _ (hHeld.2.2.2.2.2.2.2.2.2.2.2.2.2.2.2.1))).trans (hHeld.2.2.2.2.2.2.2.2.2.2.2.2.2.2.2.1)
           have HS16_ := (hb.cell (yF _ _ (hHeld.2.2.2.2.2.2.2.2.2.2.2.2.2.2.2.2.1))).trans (hHeld.2.2.2.2.2.2.2.2.2.2.2.2.2.2.2.2.1)
           have HS17_ := (hb.cell (yF _ _ (hHeld.2.2.2.2.2.2.2.2.2.2.2.2.2.2.2.2.2))).trans (hHeld.2.2.2.2.2.2.2.2.2.2.2.2.2.2.2.2.2)
           refine ⟨_, rfl, ?_⟩
           have n0_ := zm (zp (by (with_reducible repeat (first | apply za | apply zb | apply zc)); exact HO316.out) hb)
           have n1_ := zm (zp (by (with_reducible repeat (first | apply za | apply zb | apply zc)); exact HO327.out) hb)
           have n2_ := zm (zp (by (with_reducible repeat (first | apply za | apply zb | apply zc)); exact HO343.out) hb)
           have n3_ := zm (zu (g := gb321) (o := .cells #[.int .i64 t317, .int .i64 t318, .int .i64 t319, .int .i64 t320] 31 (0, 0)) (by (with_reducible repeat (first | refine zd ?_ _ | refine ze ?_ | refine zf ?_ _)); exact BK321.out) hb)
           have n4_ := zm (zu (g := gb328) (o := .cells #[.int .i64 t322, .int .i64 t323, .bool t324, .slice (some ad346) t325.length co18] 28 (0, 0)) (by (with_reducible repeat (first | refine zd ?_ _ | refine ze ?_ | refine zf ?_ _)); exact BK328.out) hb)
           have n5_ := zm (zu (g := gb337) (o := .cells #[.int .i64 t335, .int .i64 t336] 41 (0, 0)) (by (with_reducible repeat (first | refine zd ?_ _ | refine ze ?_ | refine zf ?_ _)); exact BK337.out) hb)
           have n6_ := zm (zu (g := gb344) (o := .cells #[.int .i64 t338, .int .i64 t339, .bool t340, .slice Ao33 t341.length co33] 28 (0, 0)) (by (with_reducible repeat (first | refine zd ?_ _ | refine ze ?_ | refine zf ?_ _)); exact BK344.out) hb)
           have n7_ := zm (zw (by repeat (first | (with_reducible first | exact HB.out | apply zg | apply zh | apply zi | refine zy ?_ GE321.out | refine zy ?_ GE328.out | refine zy ?_ GE337.out | refine zy ?_ GE344.out) | exact HB.out)) hb)
           clear HO316
           clear HO327
           clear HO343
           clear BK321
           clear BK328
           clear BK337
           clear BK344
           clear HB
           have HO316 := n0_
           have HO327 := n1_
           have HO343 := n2_
           have BK321 := n3_
           have BK328 := n4_
           have BK337 := n5_
           have BK344 := n6_
           have HB := n7_
           clear n0_ n1_ n2_ n3_ n4_ n5_ n6_ n7_
           (try clear hb)
           (try clear hb2)
           (try clear hk)
           (try clear hi)
           refine hK.out _ _ ⟨(yG BK328.out 0).trans rfl, (yG BK328.out 1).trans rfl, (yG BK328.out 2).trans rfl, (yG BK328.out 3).trans rfl, (yG BK337.out 0).trans rfl, (yG BK337.out 1).trans rfl, (yG BK321.out 0).trans rfl, (yG BK321.out 1).trans rfl, (yG BK321.out 2).trans rfl, (yG BK321.out 3).trans rfl, (yG BK344.out 0).trans rfl, (yG BK344.out 1).trans rfl, (yG BK344.out 2).trans rfl, (yG BK344.out 3).trans rfl, HS14_, HS15_, HS16_, HS17_⟩ (fun hHeld => ?_)
           clear hK K
           refine norm_ (a' := ?_) ?_ ?_; rotate_left; (show Act.put _ (some 74) _ = _; simp only [Act.put, yA, yB, yC, i64_w, i32_w]; rfl)
           refine pure_ (i := 32) (N := some 75) (v := ?_) (a' := ?_) #[true, true, true, true, true, true, true, true, true, true, true, true, true, true, true, true, true, true, true, true, true, true, true, true, true, true, true, true, true, true, true, true, true, false, false, false, false, false, false, false, false, false, false] rfl rfl (any_of HT_.out (by kernel_rfl)) (fun _ _ _ h => h) (Or.inl ⟨by rfl, ?_⟩) ?_ ?_; rotate_left; (intro w'; go_simp; with_reducible rfl); rotate_left; (simp only [Act.put, yA, yB, yC, i64_w, i32_w]; rfl)
           refine pure_ (i := 33) (N := some 76) (v := ?_) (a' := ?_) #[true, true, true, true, true, true, true, true, true, true, true, true, true, true, true, true, true, true, true, true, true, true, true, true, true, true, true, true, true, true, true, true, true, true, false, false, false, false, false, false, false, false, false] rfl rfl (any_of HT_.out (by kernel_rfl)) (fun _ _ _ h => h) (Or.inl ⟨by rfl, ?_⟩) ?_ ?_; rotate_left; (intro w'; go_simp; with_reducible rfl); rotate_left; (simp only [Act.put, yA, yB, yC, i64_w, i32_w]; rfl)
           refine pure_ (i := 34) (N := some 77) (v := ?_) (a' := ?_) #[true, true, true, true, true, true, true, true, true, true, true, true, true, true, true, true, true, true, true, true, true, true, true, true, true, true, true, true, true, true, true, true, true, true, true, false, false, false, false, false, false, false, false] rfl rfl (any_of HT_.out (by kernel_rfl)) (fun _ _ _ h => h) (Or.inl ⟨by rfl, ?_⟩) ?_ ?_; rotate_left; (intro w'; go_simp; with_reducible rfl); rotate_left; (simp only [Act.put, yA, yB, yC, i64_w, i32_w]; rfl)
           refine pure_ (i := 35) (N := some 78) (v := ?_) (a' := ?_) #[true, true, true, true, true, true, true, true, true, true, true, true, true, true, true, true, true, true, true, true, true, true, true, true, true, true, true, true, true, true, true, true, true, true, true, true, false, false, false, false, false, false, false] rfl rfl (any_of HT_.out (by kernel_rfl)) (fun _ _ _ h => h) (Or.inl ⟨by rfl, ?_⟩) ?_ ?_; rotate_left; (intro w'; go_simp; with_reducible rfl); rotate_left; (simp only [Act.put, yA, yB, yC, i64_w, i32_w]; rfl)
           refine pure_ (i := 36) (N := some 79) (v := ?_) (a' := ?_) #[true, true, true, true, true, true, true, true, true, true, true, true, true, true, true, true, true, true, true, true, true, true, true, true, true, true, true, true, true, true, true, true, true, true, true, true, true, false, false, false, false, false, false] rfl rfl (any_of HT_.out (by kernel_rfl)) (fun _ _ _ h => h) (Or.inl ⟨by rfl, ?_⟩) ?_ ?_; rotate_left; (intro w'; go_simp; with_reducible rfl); rotate_left; (simp only [Act.put, yA, yB, yC, i64_w, i32_w]; rfl)
           refine pure_ (i := 39) (N := some 82) (v := ?_) (a' := ?_) #[true, true, true, true, true, true, true, true, true, true, true, true, true, true, true, true, true, true, true, true, true, true, true, true, true, true, true, true, true, true, true, true, true, true, true, true, true, false, false, true, false, false, false] rfl rfl (any_of HT_.out (by kernel_rfl)) (fun _ _ _ h => h) (Or.inl ⟨by rfl, ?_⟩) ?_ ?_; rotate_left; (intro w'; go_simp; with_reducible rfl); rotate_left; (simp only [Act.put, yA, yB, yC, i64_w, i32_w]; rfl)
           refine pure_ (i := 40) (N := some 83) (v := ?_) (a' := ?_) #[true, true, true, true, true, true, true, true, true, true, true, true, true, true, true, true, true, true, true, true, true, true, true, true, true, true, true, true, true, true, true, true, true, true, true, true, true, false, false, true, true, false, false] rfl rfl (any_of HT_.out (by kernel_rfl)) (fun _ _ _ h => h) (Or.inl ⟨by rfl, ?_⟩) ?_ ?_; rotate_left; (intro w'; go_simp; with_reducible rfl); rotate_left; (simp only [Act.put, yA, yB, yC, i64_w, i32_w]; rfl)
           refine take_ (i := 37) (N := some 80) (v := ?_) (a' := ?_) #[true, true, true, true, true, true, true, true, true, true, true, true, true, true, true, true, true, true, true, true, true, true, true, true, true, true, true, true, true, true, true, true, true, true, true, true, true, true, false, true, true, false, false] rfl rfl (take_ofW HT_.out HW_.out (by kernel_rfl)) (fun _ _ _ h => h) (Or.inl ⟨by rfl, ?_⟩) hHeld ?_ ?_; rotate_left; (rintro w' ⟨s0, s1, s2, s3, s4, s5, s6, s7, s8, s9, s10, s11, s12, s13, s14, s15, s16, s17⟩; go_simp; with_reducible rfl); rotate_left; (simp only [Act.put, yA, yB, yC, i64_w, i32_w]; rfl)
           refine pure_ (i := 38) (N := some 81) (v := ?_) (a' := ?_) #[true, true, true, true, true, true, true, true, true, true, true, true, true, true, true, true, true, true, true, true, true, true, true, true, true, true, true, true, true, true, true, true, true, true, true, true, true, true, true, true, true, false, false] rfl rfl (any_of HT_.out (by kernel_rfl)) (fun _ _ _ h => h) (Or.inl ⟨by rfl, ?_⟩) ?_ ?_; rotate_left; (intro w'; go_simp; with_reducible rfl); rotate_left; (simp only [Act.put, yA, yB, yC, i64_w, i32_w]; rfl)
           refine pure_ (i := 41) (N := some 84) (v := ?_) (a' := ?_) #[true, true, true, true, true, true, true, true, true, true, true, true, true, true, true, true, true, true, true, true, true, true, true, true, true, true, true, true, true, true, true, true, true, true, true, true, true, true, true, true, true, true, false] rfl rfl (any_of HT_.out (by kernel_rfl)) (fun _ _ _ h => h) (Or.inl ⟨by rfl, ?_⟩) ?_ ?_; rotate_left; (intro w'; go_simp; with_reducible rfl); rotate_left; (simp only [Act.put, yA, yB, yC, i64_w, i32_w]; rfl)
           refine pure_ (i := 42) (N := some 85) (v := ?_) (a' := ?_) #[true, true, true, true, true, true, true, true, true, true, true, true, true, true, true, true, true, true, true, true, true, true, true, true, true, true, true, true, true, true, true, true, true, true, true, true, true, true, true, true, true, true, true] rfl rfl (any_of HT_.out (by kernel_rfl)) (fun _ _ _ h => h) (Or.inl ⟨by rfl, ?_⟩) ?_ ?_; rotate_left; (intro w'; go_simp; with_reducible rfl); rotate_left; (simp only [Act.put, yA, yB, yC, i64_w, i32_w]; rfl)
           refine done_ (done_of HT_.out (by kernel_rfl)) ?_
           try go_wp2
           go_meet
           case rel => exact ⟨_, (decide ((t325.length : Int) < (t314.length : Int))), (by first | rfl | (simp; done) | (simp [*]; done)), H', ⟨by first | omega | exact Nat.le_refl _⟩, ⟨by (with_reducible repeat (first | apply za | apply zb | apply zc)); exact HO316.out⟩, ⟨by (with_reducible repeat (first | apply za | apply zb | apply zc)); exact HO327.out⟩, ⟨by (with_reducible repeat (first | apply za | apply zb | apply zc)); exact HO343.out⟩, ⟨by (with_reducible repeat (first | refine zd ?_ _ | refine ze ?_ | refine zf ?_ _)); exact BK321.out⟩, ⟨by (with_reducible repeat (first | refine zd ?_ _ | refine ze ?_ | refine zf ?_ _)); exact BK328.out⟩, ⟨by (with_reducible repeat (first | refine zd ?_ _ | refine ze ?_ | refine zf ?_ _)); exact BK337.out⟩, ⟨by (with_reducible repeat (first | refine zd ?_ _ | refine ze ?_ | refine zf ?_ _)); exact BK344.out⟩, ⟨by repeat (first | (with_reducible first | exact HB.out | apply zg | apply zh | apply zi | refine zy ?_ GE321.out | refine zy ?_ GE328.out | refine zy ?_ GE337.out | refine zy ?_ GE344.out) | exact HB.out)⟩⟩
          ·rw [if_neg c45] at H
           have c45b0 : (t347 == 4) = false := beq_eq_false_iff_ne.mpr c45
           have c45b1 : (t347 != 4) = true := bne_iff_ne.mpr c45
           exact absurd H (laws_FnFills.j0_dead _ _ _ _ _ _ _ _ _ _)
         ·rw [if_neg c43] at H
          have c43b0 : (t338 == 0) = false := beq_eq_false_iff_ne.mpr c43
          have c43b1 : (t338 != 0) = true := bne_iff_ne.mpr c43
          exact absurd H (laws_FnFills.j0_dead _ _ _ _ _ _ _ _ _ _)
       ·rw [if_neg c38] at H
        exact absurd H (by simp)
      ·rw [if_neg c37] at H
       exact absurd H (by simp)
     ·rw [if_neg c36] at H
      have c36b0 : (t335 == 0) = false := beq_eq_false_iff_ne.mpr c36
      have c36b1 : (t335 != 0) = true := bne_iff_ne.mpr c36
      exact absurd H (laws_FnFills.j0_dead _ _ _ _ _ _ _ _ _ _)
    ·rw [if_neg c35] at H
     have c35b0 : (t345 == 0) = false := beq_eq_false_iff_ne.mpr c35
     have c35b1 : (t345 != 0) = true := bne_iff_ne.mpr c35
     (first | rw [c35b0] | (simp only [i64_w, i32_w]; rw [c35b0]) | skip)
     exact absurd H (laws_FnFills.j0_dead _ _ _ _ _ _ _ _ _ _)
   case rest =>
    clear HC9
    try clear c2
    try clear p2
    try clear c3
    try clear c20
    try clear c35
    try clear c35b0
    try clear c35b1
    obtain ⟨kq, x85_8, rfl, HA, HJ8, HO_3, HO_329003, HO_345003, BK321, BK328, BK337, BK344, HB⟩ := hcut
    cases kq with
    | zero => exact absurd HA.out (by simp [laws_FnFills.j0])
    | succ kj8 =>
     have H := HA.out
     clear HA
     simp only [laws_FnFills.j0] at H
     by_cases c63 : x85_8 = true
     ·subst c63
      rw [if_pos rfl] at H
      exact absurd H (by simp)
     ·replace c63 := Bool.eq_false_iff.mpr c63
      subst c63
      rw [if_neg (show ¬ (false = true) by decide)] at H
      have H' := zm H
      clear H
      go_wp2
      go_loopg [8, 9] kj8 (fun kq v8 v9 w' => ∃ (x8_2 : Int) (x9_2 : Int), v8 = .int .i64 x8_2 ∧ v9 = .int .i64 x9_2 ∧ Aside0 (laws_FnFills.l0 kq t314 x8_2 x9_2 t317 t318 t319 t320 t322 t323 t324 t325 = some true) ∧ Aside0 (kq ≤ kj8) ∧ Aside0 (Kd.R k31 31 w' w.heap.size (fun k_ => some k_ ≠ ((.slice Ao18 t325.length co18) : Value).ownBlock ∧ some k_ ≠ ((.slice Ao33 t341.length co33) : Value).ownBlock ∧ k_ ≠ gb321) (.slice Ao13 t314.length co13) t314) ∧ Aside0 (Kd.R k31 31 w' w.heap.size (fun k_ => some k_ ≠ ((.slice Ao13 t314.length co13) : Value).ownBlock ∧ some k_ ≠ ((.slice Ao33 t341.length co33) : Value).ownBlock ∧ k_ ≠ gb321) (.slice Ao18 t325.length co18) t325) ∧ Aside0 (Kd.R k31 31 w' w.heap.size (fun k_ => some k_ ≠ ((.slice Ao13 t314.length co13) : Value).ownBlock ∧ some k_ ≠ ((.slice Ao18 t325.length co18) : Value).ownBlock ∧ k_ ≠ gb321) (.slice Ao33 t341.length co33) t341) ∧ Aside0 (w'.heap[gb321]? = some (.cells #[.int .i64 t317, .int .i64 t318, .int .i64 t319, .int .i64 t320] 31 (0, 0))) ∧ Aside0 (w'.heap[gb328]? = some (.cells #[.int .i64 t322, .int .i64 t323, .bool t324, (.slice Ao18 t325.length co18)] 28 (0, 0))) ∧ Aside0 (w'.heap[gb337]? = some (.cells #[.int .i64 t335, .int .i64 t336] 41 (0, 0))) ∧ Aside0 (w'.heap[gb344]? = some (.cells #[.int .i64 t338, .int .i64 t339, .bool t340, (.slice Ao33 t341.length co33)] 28 (0, 0))) ∧ Aside0 (Below w.heap.size w w'))
      case atStart => exact ⟨(0), (0), (by first | rfl | (simp; done) | (simp [*]; done)), (by first | rfl | (simp; done) | (simp [*]; done)), H', ⟨Nat.le_refl _⟩, ⟨by (with_reducible repeat (first | apply za | apply zb | apply zc)); exact HO_3.out⟩, ⟨by (with_reducible repeat (first | apply za | apply zb | apply zc)); exact HO_329003.out⟩, ⟨by (with_reducible repeat (first | apply za | apply zb | apply zc)); exact HO_345003.out⟩, ⟨by (with_reducible repeat (first | refine zd ?_ _ | refine ze ?_ | refine zf ?_ _)); exact BK321.out⟩, ⟨by (with_reducible repeat (first | refine zd ?_ _ | refine ze ?_ | refine zf ?_ _)); exact BK328.out⟩, ⟨by (with_reducible repeat (first | refine zd ?_ _ | refine ze ?_ | refine zf ?_ _)); exact BK337.out⟩, ⟨by (with_reducible repeat (first | refine zd ?_ _ | refine ze ?_ | refine zf ?_ _)); exact BK344.out⟩, ⟨by repeat (first | (with_reducible first | exact HB.out | apply zg | apply zh | apply zi | refine zy ?_ GE321.out | refine zy ?_ GE328.out | refine zy ?_ GE337.out | refine zy ?_ GE344.out) | exact HB.out)⟩⟩
      case round =>
       clear H'
       try clear c2
       try clear p2
       try clear c3
       try clear c6
       try clear c20
       try clear c35
       try clear c35b0
       try clear c35b1
       try clear c63
       try clear p2
       obtain ⟨x8_2, x9_2, rfl, rfl, HA, HK2, HO_3, HO_329003, HO_345003, BK321, BK328, BK337, BK344, HB⟩ := hrel
       cases gk with
       | zero => exact absurd HA.out (by simp [laws_FnFills.l0])
       | succ k2 =>
        have H := HA.out
        clear HA
        simp only [laws_FnFills.l0] at H
        by_cases c64 : x9_2 < (t314.length : Int)
        ·rw [if_pos c64] at H
         have c64b0 : decide (x9_2 < (t314.length : Int)) = true := decide_eq_true c64
         clear c64
         have HC65 := zm H
         clear H
         go_upto_region 15 with (fail)
         go_cut [109] (fun v109 wc => ∃ (kq : Nat) (x109_64 : Bool), v109 = .bool x109_64 ∧ Aside0 (laws_FnFills.j2 kq t314 x8_2 x9_2 x109_64 t317 t318 t319 t320 t322 t323 t324 t325 = some true) ∧ Aside0 (kq ≤ k2) ∧ Aside0 (Kd.R k31 31 wc w.heap.size (fun k_ => some k_ ≠ ((.slice Ao18 t325.length co18) : Value).ownBlock ∧ some k_ ≠ ((.slice Ao33 t341.length co33) : Value).ownBlock ∧ k_ ≠ gb321) (.slice Ao13 t314.length co13) t314) ∧ Aside0 (Kd.R k31 31 wc w.heap.size (fun k_ => some k_ ≠ ((.slice Ao13 t314.length co13) : Value).ownBlock ∧ some k_ ≠ ((.slice Ao33 t341.length co33) : Value).ownBlock ∧ k_ ≠ gb321) (.slice Ao18 t325.length co18) t325) ∧ Aside0 (Kd.R k31 31 wc w.heap.size (fun k_ => some k_ ≠ ((.slice Ao13 t314.length co13) : Value).ownBlock ∧ some k_ ≠ ((.slice Ao18 t325.length co18) : Value).ownBlock ∧ k_ ≠ gb321) (.slice Ao33 t341.length co33) t341) ∧ Aside0 (wc.heap[gb321]? = some (.cells #[.int .i64 t317, .int .i64 t318, .int .i64 t319, .int .i64 t320] 31 (0, 0))) ∧ Aside0 (wc.heap[gb328]? = some (.cells #[.int .i64 t322, .int .i64 t323, .bool t324, (.slice Ao18 t325.length co18)] 28 (0, 0))) ∧ Aside0 (wc.heap[gb337]? = some (.cells #[.int .i64 t335, .int .i64 t336] 41 (0, 0))) ∧ Aside0 (wc.heap[gb344]? = some (.cells #[.int .i64 t338, .int .i64 t339, .bool t340, (.slice Ao33 t341.length co33)] 28 (0, 0))) ∧ Aside0 (Below w.heap.size w wc))
         case first =>
          have H := HC65.out
          clear HC65
          by_cases c66 : 0 ≤ x9_2
          ·rw [if_pos c66] at H
           have c66b0 : decide (0 ≤ x9_2) = true := decide_eq_true c66
           clear c66
           (first | rw [c66b0] | (simp only [i64_w, i32_w]; rw [c66b0]) | skip)
           by_cases c67 : ((rd_T31 t314 x9_2).f0) = t317
           ·rw [if_pos c67] at H
            have c67b0 : (((rd_T31 t314 x9_2).f0) == t317) = true := beq_iff_eq.mpr c67
            have c67b1 : (((rd_T31 t314 x9_2).f0) != t317) = false := bne_eq_false_iff_eq.mpr c67
            clear c67
            have H' := zm H
            clear H
            try go_wp2
            have n0_ := zm (Kd.R_drew HO_3.out)
            have n1_ := zm (Kd.R_drew HO_329003.out)
            have n2_ := zm (Kd.R_drew HO_345003.out)
            have n3_ := zm (blk_drew BK321.out)
            have n4_ := zm (blk_drew BK328.out)
            have n5_ := zm (blk_drew BK337.out)
            have n6_ := zm (blk_drew BK344.out)
            have n7_ := zm (below_drew1 HB.out)
            clear HO_3
            clear HO_329003
            clear HO_345003
            clear BK321
            clear BK328
            clear BK337
            clear BK344
            clear HB
            have HO_3 := n0_
            have HO_329003 := n1_
            have HO_345003 := n2_
            have BK321 := n3_
            have BK328 := n4_
            have BK337 := n5_
            have BK344 := n6_
            have HB := n7_
            clear n0_ n1_ n2_ n3_ n4_ n5_ n6_ n7_
            have p349 : 0 ≤ (x9_2 : Int) := of_decide_eq_true (by first | (with_reducible assumption) | assumption)
            have q349 : x9_2 < (t314.length : Int) := of_decide_eq_true (by first | (with_reducible assumption) | assumption)
            obtain ⟨ad349, e349, hx349_0, hx349_1, hx349_2, hx349_3⟩ := at_T31 (zF HO_3.out).2.2 x9_2 p349 q349
            cases e349
            replace p349 := eq_true p349
            replace q349 := eq_true q349
            have p350 : 0 ≤ (x9_2 : Int) := of_decide_eq_true (by first | (with_reducible assumption) | assumption)
            have q350 : x9_2 < (t314.length : Int) := of_decide_eq_true (by first | (with_reducible assumption) | assumption)
            obtain ⟨ad350, e350, hx350_0, hx350_1, hx350_2, hx350_3⟩ := at_T31 (zF HO_3.out).2.2 x9_2 p350 q350
            obtain rfl : ad349 = ad350 := (by injection e350)
            replace p350 := eq_true p350
            replace q350 := eq_true q350
            refine start_ (n := 18) (S := fun w' => w'.cell? ⟨gb321, 0, none⟩ = some (.int .i64 t317) ∧ w'.cell? ⟨gb321, 1, none⟩ = some (.int .i64 t318) ∧ w'.cell? ⟨gb321, 2, none⟩ = some (.int .i64 t319) ∧ w'.cell? ⟨gb321, 3, none⟩ = some (.int .i64 t320) ∧ w'.cell? (ad349.add ((x9_2).toNat * 4)) = some (.int .i64 ((rd_T31 t314 x9_2).f0)) ∧ w'.cell? ⟨(ad349.add ((x9_2).toNat * 4)).block, (ad349.add ((x9_2).toNat * 4)).off + 1, none⟩ = some (.int .i64 ((rd_T31 t314 x9_2).f1)) ∧ w'.cell? ⟨(ad349.add ((x9_2).toNat * 4)).block, (ad349.add ((x9_2).toNat * 4)).off + 2, none⟩ = some (.int .i64 ((rd_T31 t314 x9_2).f2)) ∧ w'.cell? ⟨(ad349.add ((x9_2).toNat * 4)).block, (ad349.add ((x9_2).toNat * 4)).off + 3, none⟩ = some (.int .i64 ((rd_T31 t314 x9_2).f3)) ∧ w'.cell? (ad349.add ((x9_2).toNat * 4)) = some (.int .i64 ((rd_T31 t314 x9_2).f0)) ∧ w'.cell? ⟨(ad349.add ((x9_2).toNat * 4)).block, (ad349.add ((x9_2).toNat * 4)).off + 1, none⟩ = some (.int .i64 ((rd_T31 t314 x9_2).f1)) ∧ w'.cell? ⟨(ad349.add ((x9_2).toNat * 4)).block, (ad349.add ((x9_2).toNat * 4)).off + 2, none⟩ = some (.int .i64 ((rd_T31 t314 x9_2).f2)) ∧ w'.cell? ⟨(ad349.add ((x9_2).toNat * 4)).block, (ad349.add ((x9_2).toNat * 4)).off + 3, none⟩ = some (.int .i64 ((rd_T31 t314 x9_2).f3))) (ds := []) #[false, false, false, false, false, false, false, false, false, false, false, false, false, false, false, false, false, false] (by kernel_rfl) rfl rfl ⟨(yG BK321.out 0).trans rfl, (yG BK321.out 1).trans rfl, (yG BK321.out 2).trans rfl, (yG BK321.out 3).trans rfl, hx349_0, hx349_1, hx349_2, hx349_3, hx350_0, hx350_1, hx350_2, hx350_3⟩ (fun hHeld => ?_); refine with_tabW laws_FnFills.tab15 laws_FnFills.bits15 (fun HT_ HW_ => ?_)
            generalize wr.drew = w68 at HO_3 HO_329003 HO_345003 BK321 BK328 BK337 BK344 HB hx349_0 hx349_1 hx349_2 hx349_3 hx350_0 hx350_1 hx350_2 hx350_3 hHeld ⊢
            refine pure_ (i := 0) (N := some 92) (v := ?_) (a' := ?_) #[true, false, false, false, false, false, false, false, false, false, false, false, false, false, false, false, false, false] rfl rfl (any_of HT_.out (by kernel_rfl)) (fun _ _ _ h => h) (Or.inl ⟨by rfl, ?_⟩) ?_ ?_; rotate_left; (intro w'; go_simp; with_reducible rfl); rotate_left; (simp only [Act.put, yA, yB, yC, i64_w, i32_w]; rfl)
            refine pure_ (i := 1) (N := some 93) (v := ?_) (a' := ?_) #[true, true, false, false, false, false, false, false, false, false, false, false, false, false, false, false, false, false] rfl rfl (any_of HT_.out (by kernel_rfl)) (fun _ _ _ h => h) (Or.inl ⟨by rfl, ?_⟩) ?_ ?_; rotate_left; (intro w'; go_simp; with_reducible rfl); rotate_left; (simp only [Act.put, yA, yB, yC, i64_w, i32_w]; rfl)
            refine pure_ (i := 2) (N := some 94) (v := ?_) (a' := ?_) #[true, true, true, false, false, false, false, false, false, false, false, false, false, false, false, false, false, false] rfl rfl (any_of HT_.out (by kernel_rfl)) (fun _ _ _ h => h) (Or.inl ⟨by rfl, ?_⟩) ?_ ?_; rotate_left; (intro w'; go_simp; with_reducible rfl); rotate_left; (simp only [Act.put, yA, yB, yC, i64_w, i32_w]; rfl)
            refine pure_ (i := 3) (N := some 95) (v := ?_) (a' := ?_) #[true, true, true, true, false, false, false, false, false, false, false, false, false, false, false, false, false, false] rfl rfl (any_of HT_.out (by kernel_rfl)) (fun _ _ _ h => h) (Or.inl ⟨by rfl, ?_⟩) ?_ ?_; rotate_left; (intro w'; go_simp; with_reducible rfl); rotate_left; (simp only [Act.put, yA, yB, yC, i64_w, i32_w]; rfl)
            refine pure_ (i := 5) (N := some 97) (v := ?_) (a' := ?_) #[true, true, true, true, false, true, false, false, false, false, false, false, false, false, false, false, false, false] rfl rfl (any_of HT_.out (by kernel_rfl)) (fun _ _ _ h => h) (Or.inl ⟨by rfl, ?_⟩) ?_ ?_; rotate_left; (intro w'; go_simp; with_reducible rfl); rotate_left; (simp only [Act.put, yA, yB, yC, i64_w, i32_w]; rfl)
            refine take_ (i := 4) (N := some 96) (v := ?_) (a' := ?_) #[true, true, true, true, true, true, false, false, false, false, false, false, false, false, false, false, false, false] rfl rfl (take_ofW HT_.out HW_.out (by kernel_rfl)) (fun _ _ _ h => h) (Or.inl ⟨by rfl, ?_⟩) hHeld ?_ ?_; rotate_left; (rintro w' ⟨s0, s1, s2, s3, s4, s5, s6, s7, s8, s9, s10, s11⟩; go_simp; with_reducible rfl); rotate_left; (simp only [Act.put, yA, yB, yC, i64_w, i32_w]; rfl)
            refine take_ (i := 6) (N := some 98) (v := ?_) (a' := ?_) #[true, true, true, true, true, true, true, false, false, false, false, false, false, false, false, false, false, false] rfl rfl (take_ofW HT_.out HW_.out (by kernel_rfl)) (fun _ _ _ h => h) (Or.inl ⟨by rfl, ?_⟩) hHeld ?_ ?_; rotate_left; (rintro w' ⟨s0, s1, s2, s3, s4, s5, s6, s7, s8, s9, s10, s11⟩; go_simp; with_reducible rfl); rotate_left; (simp only [Act.put, yA, yB, yC, i64_w, i32_w]; rfl)
            refine pure_ (i := 7) (N := some 99) (v := ?_) (a' := ?_) #[true, true, true, true, true, true, true, true, false, false, false, false, false, false, false, false, false, false] rfl rfl (any_of HT_.out (by kernel_rfl)) (fun _ _ _ h => h) (Or.inl ⟨by rfl, ?_⟩) ?_ ?_; rotate_left; (intro w'; go_simp; with_reducible rfl); rotate_left; (simp only [Act.put, yA, yB, yC, i64_w, i32_w]; rfl)
            refine pure_ (i := 8) (N := some 100) (v := ?_) (a' := ?_) #[true, true, true, true, true, true, true, true, true, false, false, false, false, false, false, false, false, false] rfl rfl (any_of HT_.out (by kernel_rfl)) (fun _ _ _ h => h) (Or.inl ⟨by rfl, ?_⟩) ?_ ?_; rotate_left; (intro w'; go_simp; with_reducible rfl); rotate_left; (simp only [Act.put, yA, yB, yC, i64_w, i32_w]; rfl)
            refine pure_ (i := 9) (N := some 101) (v := ?_) (a' := ?_) #[true, true, true, true, true, true, true, true, true, true, false, false, false, false, false, false, false, false] rfl rfl (any_of HT_.out (by kernel_rfl)) (fun _ _ _ h => h) (Or.inl ⟨by rfl, ?_⟩) ?_ ?_; rotate_left; (intro w'; go_simp; with_reducible rfl); rotate_left; (simp only [Act.put, yA, yB, yC, i64_w, i32_w]; rfl)
            refine pure_ (i := 10) (N := some 102) (v := ?_) (a' := ?_) #[true, true, true, true, true, true, true, true, true, true, true, false, false, false, false, false, false, false] rfl rfl (any_of HT_.out (by kernel_rfl)) (fun _ _ _ h => h) (Or.inl ⟨by rfl, ?_⟩) ?_ ?_; rotate_left; (intro w'; go_simp; with_reducible rfl); rotate_left; (simp only [Act.put, yA, yB, yC, i64_w, i32_w]; rfl)
            refine pure_ (i := 11) (N := some 103) (v := ?_) (a' := ?_) #[true, true, true, true, true, true, true, true, true, true, true, true, false, false, false, false, false, false] rfl rfl (any_of HT_.out (by kernel_rfl)) (fun _ _ _ h => h) (Or.inl ⟨by rfl, ?_⟩) ?_ ?_; rotate_left; (intro w'; go_simp; with_reducible rfl); rotate_left; (simp only [Act.put, yA, yB, yC, i64_w, i32_w]; rfl)
            refine pure_ (i := 12) (N := some 104) (v := ?_) (a' := ?_) #[true, true, true, true, true, true, true, true, true, true, true, true, true, false, false, false, false, false] rfl rfl (any_of HT_.out (by kernel_rfl)) (fun _ _ _ h => h) (Or.inl ⟨by rfl, ?_⟩) ?_ ?_; rotate_left; (intro w'; go_simp; with_reducible rfl); rotate_left; (simp only [Act.put, yA, yB, yC, i64_w, i32_w]; rfl)
            refine pure_ (i := 14) (N := some 106) (v := ?_) (a' := ?_) #[true, true, true, true, true, true, true, true, true, true, true, true, true, false, true, false, false, false] rfl rfl (any_of HT_.out (by kernel_rfl)) (fun _ _ _ h => h) (Or.inl ⟨by rfl, ?_⟩) ?_ ?_; rotate_left; (intro w'; go_simp; with_reducible rfl); rotate_left; (simp only [Act.put, yA, yB, yC, i64_w, i32_w]; rfl)
            refine take_ (i := 13) (N := some 105) (v := ?_) (a' := ?_) #[true, true, true, true, true, true, true, true, true, true, true, true, true, true, true, false, false, false] rfl rfl (take_ofW HT_.out HW_.out (by kernel_rfl)) (fun _ _ _ h => h) (Or.inl ⟨by rfl, ?_⟩) hHeld ?_ ?_; rotate_left; (rintro w' ⟨s0, s1, s2, s3, s4, s5, s6, s7, s8, s9, s10, s11⟩; go_simp; with_reducible rfl); rotate_left; (simp only [Act.put, yA, yB, yC, i64_w, i32_w]; rfl)
            refine take_ (i := 15) (N := some 107) (v := ?_) (a' := ?_) #[true, true, true, true, true, true, true, true, true, true, true, true, true, true, true, true, false, false] rfl rfl (take_ofW HT_.out HW_.out (by kernel_rfl)) (fun _ _ _ h => h) (Or.inl ⟨by rfl, ?_⟩) hHeld ?_ ?_; rotate_left; (rintro w' ⟨s0, s1, s2, s3, s4, s5, s6, s7, s8, s9, s10, s11⟩; go_simp; with_reducible rfl); rotate_left; (simp only [Act.put, yA, yB, yC, i64_w, i32_w]; rfl)
            refine pure_ (i := 16) (N := some 108) (v := ?_) (a' := ?_) #[true, true, true, true, true, true, true, true, true, true, true, true, true, true, true, true, true, false] rfl rfl (any_of HT_.out (by kernel_rfl)) (fun _ _ _ h => h) (Or.inl ⟨by rfl, ?_⟩) ?_ ?_; rotate_left; (intro w'; go_simp; with_reducible rfl); rotate_left; (simp only [Act.put, yA, yB, yC, i64_w, i32_w]; rfl)
            refine pure_ (i := 17) (N := some 109) (v := ?_) (a' := ?_) #[true, true, true, true, true, true, true, true, true, true, true, true, true, true, true, true, true, true] rfl rfl (any_of HT_.out (by kernel_rfl)) (fun _ _ _ h => h) (Or.inl ⟨by rfl, ?_⟩) ?_ ?_; rotate_left; (intro w'; go_simp; with_reducible rfl); rotate_left; (simp only [Act.put, yA, yB, yC, i64_w, i32_w]; rfl)
            refine done_ (done_of HT_.out (by kernel_rfl)) ?_
            try go_wp2
            go_meet
            case rel => exact ⟨_, ((((rd_T31 t314 x9_2).f1) == t318)), (by first | rfl | (simp; done) | (simp [*]; done)), H', ⟨by have := HJ8.out; have := HK2.out; first | omega | exact Nat.le_refl _⟩, ⟨by (with_reducible repeat (first | apply za | apply zb | apply zc)); exact HO_3.out⟩, ⟨by (with_reducible repeat (first | apply za | apply zb | apply zc)); exact HO_329003.out⟩, ⟨by (with_reducible repeat (first | apply za | apply zb | apply zc)); exact HO_345003.out⟩, ⟨by (with_reducible repeat (first | refine zd ?_ _ | refine ze ?_ | refine zf ?_ _)); exact BK321.out⟩, ⟨by (with_reducible repeat (first | refine zd ?_ _ | refine ze ?_ | refine zf ?_ _)); exact BK328.out⟩, ⟨by (with_reducible repeat (first | refine zd ?_ _ | refine ze ?_ | refine zf ?_ _)); exact BK337.out⟩, ⟨by (with_reducible repeat (first | refine zd ?_ _ | refine ze ?_ | refine zf ?_ _)); exact BK344.out⟩, ⟨by repeat (first | (with_reducible first | exact HB.out | apply zg | apply zh | apply zi | refine zy ?_ GE321.out | refine zy ?_ GE328.out | refine zy ?_ GE337.out | refine zy ?_ GE344.out) | exact HB.out)⟩⟩
           ·rw [if_neg c67] at H
            have c67b0 : (((rd_T31 t314 x9_2).f0) == t317) = false := beq_eq_false_iff_ne.mpr c67
            have c67b1 : (((rd_T31 t314 x9_2).f0) != t317) = true := bne_iff_ne.mpr c67
            have H' := zm H
            clear H
            try go_wp2
            have n0_ := zm (Kd.R_drew HO_3.out)
            have n1_ := zm (Kd.R_drew HO_329003.out)
            have n2_ := zm (Kd.R_drew HO_345003.out)
            have n3_ := zm (blk_drew BK321.out)
            have n4_ := zm (blk_drew BK328.out)
            have n5_ := zm (blk_drew BK337.out)
            have n6_ := zm (blk_drew BK344.out)
            have n7_ := zm (below_drew1 HB.out)
            clear HO_3
            clear HO_329003
            clear HO_345003
            clear BK321
            clear BK328
            clear BK337
            clear BK344
            clear HB
            have HO_3 := n0_
            have HO_329003 := n1_
            have HO_345003 := n2_
            have BK321 := n3_
            have BK328 := n4_
            have BK337 := n5_
            have BK344 := n6_
            have HB := n7_
            clear n0_ n1_ n2_ n3_ n4_ n5_ n6_ n7_
            have p349 : 0 ≤ (x9_2 : Int) := of_decide_eq_true (by first | (with_reducible assumption) | assumption)
            have q349 : x9_2 < (t314.length : Int) := of_decide_eq_true (by first | (with_reducible assumption) | assumption)
            obtain ⟨ad349, e349, hx349_0, hx349_1, hx349_2, hx349_3⟩ := at_T31 (zF HO_3.out).2.2 x9_2 p349 q349
            cases e349
            replace p349 := eq_true p349
            replace q349 := eq_true q349
            refine start_ (n := 18) (S := fun w' => w'.cell? ⟨gb321, 0, none⟩ = some (.int .i64 t317) ∧ w'.cell? ⟨gb321, 1, none⟩ = some (.int .i64 t318) ∧ w'.cell? ⟨gb321, 2, none⟩ = some (.int .i64 t319) ∧ w'.cell? ⟨gb321, 3, none⟩ = some (.int .i64 t320) ∧ w'.cell? (ad349.add ((x9_2).toNat * 4)) = some (.int .i64 ((rd_T31 t314 x9_2).f0)) ∧ w'.cell? ⟨(ad349.add ((x9_2).toNat * 4)).block, (ad349.add ((x9_2).toNat * 4)).off + 1, none⟩ = some (.int .i64 ((rd_T31 t314 x9_2).f1)) ∧ w'.cell? ⟨(ad349.add ((x9_2).toNat * 4)).block, (ad349.add ((x9_2).toNat * 4)).off + 2, none⟩ = some (.int .i64 ((rd_T31 t314 x9_2).f2)) ∧ w'.cell? ⟨(ad349.add ((x9_2).toNat * 4)).block, (ad349.add ((x9_2).toNat * 4)).off + 3, none⟩ = some (.int .i64 ((rd_T31 t314 x9_2).f3))) (ds := []) #[false, false, false, false, false, false, false, false, false, false, false, false, false, false, false, false, false, false] (by kernel_rfl) rfl rfl ⟨(yG BK321.out 0).trans rfl, (yG BK321.out 1).trans rfl, (yG BK321.out 2).trans rfl, (yG BK321.out 3).trans rfl, hx349_0, hx349_1, hx349_2, hx349_3⟩ (fun hHeld => ?_); refine with_tabW laws_FnFills.tab15 laws_FnFills.bits15 (fun HT_ HW_ => ?_)
            generalize wr.drew = w69 at HO_3 HO_329003 HO_345003 BK321 BK328 BK337 BK344 HB hx349_0 hx349_1 hx349_2 hx349_3 hHeld ⊢
            refine pure_ (i := 0) (N := some 92) (v := ?_) (a' := ?_) #[true, false, false, false, false, false, false, false, false, false, false, false, false, false, false, false, false, false] rfl rfl (any_of HT_.out (by kernel_rfl)) (fun _ _ _ h => h) (Or.inl ⟨by rfl, ?_⟩) ?_ ?_; rotate_left; (intro w'; go_simp; with_reducible rfl); rotate_left; (simp only [Act.put, yA, yB, yC, i64_w, i32_w]; rfl)
            refine pure_ (i := 1) (N := some 93) (v := ?_) (a' := ?_) #[true, true, false, false, false, false, false, false, false, false, false, false, false, false, false, false, false, false] rfl rfl (any_of HT_.out (by kernel_rfl)) (fun _ _ _ h => h) (Or.inl ⟨by rfl, ?_⟩) ?_ ?_; rotate_left; (intro w'; go_simp; with_reducible rfl); rotate_left; (simp only [Act.put, yA, yB, yC, i64_w, i32_w]; rfl)
            refine pure_ (i := 2) (N := some 94) (v := ?_) (a' := ?_) #[true, true, true, false, false, false, false, false, false, false, false, false, false, false, false, false, false, false] rfl rfl (any_of HT_.out (by kernel_rfl)) (fun _ _ _ h => h) (Or.inl ⟨by rfl, ?_⟩) ?_ ?_; rotate_left; (intro w'; go_simp; with_reducible rfl); rotate_left; (simp only [Act.put, yA, yB, yC, i64_w, i32_w]; rfl)
            refine pure_ (i := 3) (N := some 95) (v := ?_) (a' := ?_) #[true, true, true, true, false, false, false, false, false, false, false, false, false, false, false, false, false, false] rfl rfl (any_of HT_.out (by kernel_rfl)) (fun _ _ _ h => h) (Or.inl ⟨by rfl, ?_⟩) ?_ ?_; rotate_left; (intro w'; go_simp; with_reducible rfl); rotate_left; (simp only [Act.put, yA, yB, yC, i64_w, i32_w]; rfl)
            refine pure_ (i := 5) (N := some 97) (v := ?_) (a' := ?_) #[true, true, true, true, false, true, false, false, false, false, false, false, false, false, false, false, false, false] rfl rfl (any_of HT_.out (by kernel_rfl)) (fun _ _ _ h => h) (Or.inl ⟨by rfl, ?_⟩) ?_ ?_; rotate_left; (intro w'; go_simp; with_reducible rfl); rotate_left; (simp only [Act.put, yA, yB, yC, i64_w, i32_w]; rfl)
            refine take_ (i := 4) (N := some 96) (v := ?_) (a' := ?_) #[true, true, true, true, true, true, false, false, false, false, false, false, false, false, false, false, false, false] rfl rfl (take_ofW HT_.out HW_.out (by kernel_rfl)) (fun _ _ _ h => h) (Or.inl ⟨by rfl, ?_⟩) hHeld ?_ ?_; rotate_left; (rintro w' ⟨s0, s1, s2, s3, s4, s5, s6, s7⟩; go_simp; with_reducible rfl); rotate_left; (simp only [Act.put, yA, yB, yC, i64_w, i32_w]; rfl)
            refine take_ (i := 6) (N := some 98) (v := ?_) (a' := ?_) #[true, true, true, true, true, true, true, false, false, false, false, false, false, false, false, false, false, false] rfl rfl (take_ofW HT_.out HW_.out (by kernel_rfl)) (fun _ _ _ h => h) (Or.inl ⟨by rfl, ?_⟩) hHeld ?_ ?_; rotate_left; (rintro w' ⟨s0, s1, s2, s3, s4, s5, s6, s7⟩; go_simp; with_reducible rfl); rotate_left; (simp only [Act.put, yA, yB, yC, i64_w, i32_w]; rfl)
            refine pure_ (i := 7) (N := some 99) (v := ?_) (a' := ?_) #[true, true, true, true, true, true, true, true, false, false, false, false, false, false, false, false, false, false] rfl rfl (any_of HT_.out (by kernel_rfl)) (fun _ _ _ h => h) (Or.inl ⟨by rfl, ?_⟩) ?_ ?_; rotate_left; (intro w'; go_simp; with_reducible rfl); rotate_left; (simp only [Act.put, yA, yB, yC, i64_w, i32_w]; rfl)
            refine pure_ (i := 8) (N := some 100) (v := ?_) (a' := ?_) #[true, true, true, true, true, true, true, true, true, false, false, false, false, false, false, false, false, false] rfl rfl (any_of HT_.out (by kernel_rfl)) (fun _ _ _ h => h) (Or.inl ⟨by rfl, ?_⟩) ?_ ?_; rotate_left; (intro w'; go_simp; with_reducible rfl); rotate_left; (simp only [Act.put, yA, yB, yC, i64_w, i32_w]; rfl)
            refine pure_ (i := 9) (N := some 101) (v := undef) (a' := ?_) #[true, true, true, true, true, true, true, true, true, true, false, false, false, false, false, false, false, false] rfl rfl (any_of HT_.out (by kernel_rfl)) (fun _ _ _ h => h) (Or.inr ⟨by rfl, rfl⟩) ?_ ?_
            rotate_left
            ·simp only [Act.put, yA, yB, yC, i64_w, i32_w]
             rfl
            refine pure_ (i := 10) (N := some 102) (v := undef) (a' := ?_) #[true, true, true, true, true, true, true, true, true, true, true, false, false, false, false, false, false, false] rfl rfl (any_of HT_.out (by kernel_rfl)) (fun _ _ _ h => h) (Or.inr ⟨by rfl, rfl⟩) ?_ ?_
            rotate_left
            ·simp only [Act.put, yA, yB, yC, i64_w, i32_w]
             rfl
            refine pure_ (i := 11) (N := some 103) (v := undef) (a' := ?_) #[true, true, true, true, true, true, true, true, true, true, true, true, false, false, false, false, false, false] rfl rfl (any_of HT_.out (by kernel_rfl)) (fun _ _ _ h => h) (Or.inr ⟨by rfl, rfl⟩) ?_ ?_
            rotate_left
            ·simp only [Act.put, yA, yB, yC, i64_w, i32_w]
             rfl
            refine pure_ (i := 12) (N := some 104) (v := undef) (a' := ?_) #[true, true, true, true, true, true, true, true, true, true, true, true, true, false, false, false, false, false] rfl rfl (any_of HT_.out (by kernel_rfl)) (fun _ _ _ h => h) (Or.inr ⟨by rfl, rfl⟩) ?_ ?_
            rotate_left
            ·simp only [Act.put, yA, yB, yC, i64_w, i32_w]
             rfl
            refine pure_ (i := 13) (N := some 105) (v := undef) (a' := ?_) #[true, true, true, true, true, true, true, true, true, true, true, true, true, true, false, false, false, false] rfl rfl (any_of HT_.out (by kernel_rfl)) (fun _ _ _ h => h) (Or.inr ⟨by rfl, rfl⟩) ?_ ?_
            rotate_left
            ·simp only [Act.put, yA, yB, yC, i64_w, i32_w]
             rfl
            refine pure_ (i := 14) (N := some 106) (v := undef) (a' := ?_) #[true, true, true, true, true, true, true, true, true, true, true, true, true, true, true, false, false, false] rfl rfl (any_of HT_.out (by kernel_rfl)) (fun _ _ _ h => h) (Or.inr ⟨by rfl, rfl⟩) ?_ ?_
            rotate_left
            ·simp only [Act.put, yA, yB, yC, i64_w, i32_w]
             rfl
            refine pure_ (i := 15) (N := some 107) (v := undef) (a' := ?_) #[true, true, true, true, true, true, true, true, true, true, true, true, true, true, true, true, false, false] rfl rfl (any_of HT_.out (by kernel_rfl)) (fun _ _ _ h => h) (Or.inr ⟨by rfl, rfl⟩) ?_ ?_
            rotate_left
            ·simp only [Act.put, yA, yB, yC, i64_w, i32_w]
             rfl
            refine pure_ (i := 16) (N := some 108) (v := undef) (a' := ?_) #[true, true, true, true, true, true, true, true, true, true, true, true, true, true, true, true, true, false] rfl rfl (any_of HT_.out (by kernel_rfl)) (fun _ _ _ h => h) (Or.inr ⟨by rfl, rfl⟩) ?_ ?_
            rotate_left
            ·simp only [Act.put, yA, yB, yC, i64_w, i32_w]
             rfl
            refine pure_ (i := 17) (N := some 109) (v := ?_) (a' := ?_) #[true, true, true, true, true, true, true, true, true, true, true, true, true, true, true, true, true, true] rfl rfl (any_of HT_.out (by kernel_rfl)) (fun _ _ _ h => h) (Or.inl ⟨by rfl, ?_⟩) ?_ ?_; rotate_left; (intro w'; go_simp; with_reducible rfl); rotate_left; (simp only [Act.put, yA, yB, yC, i64_w, i32_w]; rfl)
            refine done_ (done_of HT_.out (by kernel_rfl)) ?_
            try go_wp2
            go_meet
            case rel => exact ⟨_, (false), (by first | rfl | (simp; done) | (simp [*]; done)), H', ⟨by have := HJ8.out; have := HK2.out; first | omega | exact Nat.le_refl _⟩, ⟨by (with_reducible repeat (first | apply za | apply zb | apply zc)); exact HO_3.out⟩, ⟨by (with_reducible repeat (first | apply za | apply zb | apply zc)); exact HO_329003.out⟩, ⟨by (with_reducible repeat (first | apply za | apply zb | apply zc)); exact HO_345003.out⟩, ⟨by (with_reducible repeat (first | refine zd ?_ _ | refine ze ?_ | refine zf ?_ _)); exact BK321.out⟩, ⟨by (with_reducible repeat (first | refine zd ?_ _ | refine ze ?_ | refine zf ?_ _)); exact BK328.out⟩, ⟨by (with_reducible repeat (first | refine zd ?_ _ | refine ze ?_ | refine zf ?_ _)); exact BK337.out⟩, ⟨by (with_reducible repeat (first | refine zd ?_ _ | refine ze ?_ | refine zf ?_ _)); exact BK344.out⟩, ⟨by repeat (first | (with_reducible first | exact HB.out | apply zg | apply zh | apply zi | refine zy ?_ GE321.out | refine zy ?_ GE328.out | refine zy ?_ GE337.out | refine zy ?_ GE344.out) | exact HB.out)⟩⟩
          ·rw [if_neg c66] at H
           exact absurd H (by simp)
         case rest =>
          clear HC65
          try clear c2
          try clear p2
          try clear c3
          try clear p3
          try clear q3
          try clear hx3
          try clear c6
          try clear c20
          try clear p34
          try clear q34
          try clear hx34
          try clear c35
          try clear c35b0
          try clear c35b1
          try clear p35
          try clear q35
          try clear hx35
          try clear c63
          try clear c64
          try clear c64b0
          try clear c66
          try clear c66b0
          try clear c67
          try clear c67b0
          try clear c67b1
          try clear hx349_0
          try clear hx349_1
          try clear hx349_2
          try clear hx349_3
          try clear hx350_0
          try clear hx350_1
          try clear hx350_2
          try clear hx350_3
          try clear p2
          try clear p349
          try clear p350
          try clear q349
          try clear q350
          obtain ⟨kq, x109_64, rfl, HA, HJ64, HO_3, HO_329003, HO_345003, BK321, BK328, BK337, BK344, HB⟩ := hcut
          cases kq with
          | zero => exact absurd HA.out (by simp [laws_FnFills.j2])
          | succ kj64 =>
           have H := HA.out
           clear HA
           simp only [laws_FnFills.j2] at H
           by_cases c70 : x109_64 = true
           ·subst c70
            rw [if_pos rfl] at H
            have H' := zm H
            clear H
            go_wp2
            go_roundg kj64
            case measure => have := HJ8.out; have := HK2.out; have := HJ64.out; omega
            case rel => exact ⟨(x8_2), (wrap64 (x9_2 + 1)), (by first | rfl | (simp; done) | (simp [*]; done)), (by first | rfl | (simp; done) | (simp [*]; done)), H', ⟨by have := HJ8.out; have := HK2.out; have := HJ64.out; omega⟩, ⟨by (with_reducible repeat (first | apply za | apply zb | apply zc)); exact HO_3.out⟩, ⟨by (with_reducible repeat (first | apply za | apply zb | apply zc)); exact HO_329003.out⟩, ⟨by (with_reducible repeat (first | apply za | apply zb | apply zc)); exact HO_345003.out⟩, ⟨by (with_reducible repeat (first | refine zd ?_ _ | refine ze ?_ | refine zf ?_ _)); exact BK321.out⟩, ⟨by (with_reducible repeat (first | refine zd ?_ _ | refine ze ?_ | refine zf ?_ _)); exact BK328.out⟩, ⟨by (with_reducible repeat (first | refine zd ?_ _ | refine ze ?_ | refine zf ?_ _)); exact BK337.out⟩, ⟨by (with_reducible repeat (first | refine zd ?_ _ | refine ze ?_ | refine zf ?_ _)); exact BK344.out⟩, ⟨by repeat (first | (with_reducible first | exact HB.out | apply zg | apply zh | apply zi | refine zy ?_ GE321.out | refine zy ?_ GE328.out | refine zy ?_ GE337.out | refine zy ?_ GE344.out) | exact HB.out)⟩⟩
           ·replace c70 := Bool.eq_false_iff.mpr c70
            subst c70
            rw [if_neg (show ¬ (false = true) by decide)] at H
            by_cases c71 : 0 ≤ x9_2
            ·rw [if_pos c71] at H
             have c71b0 : decide (0 ≤ x9_2) = true := decide_eq_true c71
             clear c71
             by_cases c72 : x9_2 < (t314.length : Int)
             ·rw [if_pos c72] at H
              have c72b0 : decide (x9_2 < (t314.length : Int)) = true := decide_eq_true c72
              clear c72
              replace H := yH.mp H
              obtain ⟨⟨t353, t354⟩, A730, H⟩ := H
              try dsimp only at H
              have A73 := zm A730
              clear A730
              by_cases c74 : t353 = 0
              ·rw [if_pos c74] at H
               have c74b0 : (t353 == 0) = true := beq_iff_eq.mpr c74
               have c74b1 : (t353 != 0) = false := bne_eq_false_iff_eq.mpr c74
               clear c74
               by_cases c75 : 0 ≤ t354
               ·rw [if_pos c75] at H
                have c75b0 : decide (0 ≤ t354) = true := decide_eq_true c75
                clear c75
                by_cases c76 : t354 < (t325.length : Int)
                ·rw [if_pos c76] at H
                 have c76b0 : decide (t354 < (t325.length : Int)) = true := decide_eq_true c76
                 clear c76
                 by_cases c77 : (!(((rd_T31 t325 t354).f0) == ((rd_T31 t314 x9_2).f0)) || (!(((rd_T31 t325 t354).f1) == ((rd_T31 t314 x9_2).f1)) || (!(((rd_T31 t325 t354).f2) == ((rd_T31 t314 x9_2).f2)) || (!(((rd_T31 t325 t354).f3) == ((rd_T31 t314 x9_2).f3)))))) = true
                 ·rw [if_pos c77] at H
                  have c77b0 : (!(((rd_T31 t325 t354).f0) == ((rd_T31 t314 x9_2).f0)) || (!(((rd_T31 t325 t354).f1) == ((rd_T31 t314 x9_2).f1)) || (!(((rd_T31 t325 t354).f2) == ((rd_T31 t314 x9_2).f2)) || (!(((rd_T31 t325 t354).f3) == ((rd_T31 t314 x9_2).f3)))))) = true := c77
                  clear c77
                  exact absurd H (by simp)
                 ·rw [if_neg c77] at H
                  have c77b0 : (!(((rd_T31 t325 t354).f0) == ((rd_T31 t314 x9_2).f0)) || (!(((rd_T31 t325 t354).f1) == ((rd_T31 t314 x9_2).f1)) || (!(((rd_T31 t325 t354).f2) == ((rd_T31 t314 x9_2).f2)) || (!(((rd_T31 t325 t354).f3) == ((rd_T31 t314 x9_2).f3)))))) = false := by simpa using c77
                  clear c77
                  have H' := zm H
                  clear H
                  try go_wp2
                  have n0_ := zm (Kd.R_drew HO_3.out)
                  have n1_ := zm (Kd.R_drew HO_329003.out)
                  have n2_ := zm (Kd.R_drew HO_345003.out)
                  have n3_ := zm (blk_drew BK321.out)
                  have n4_ := zm (blk_drew BK328.out)
                  have n5_ := zm (blk_drew BK337.out)
                  have n6_ := zm (blk_drew BK344.out)
                  have n7_ := zm (below_drew1 HB.out)
                  clear HO_3
                  clear HO_329003
                  clear HO_345003
                  clear BK321
                  clear BK328
                  clear BK337
                  clear BK344
                  clear HB
                  have HO_3 := n0_
                  have HO_329003 := n1_
                  have HO_345003 := n2_
                  have BK321 := n3_
                  have BK328 := n4_
                  have BK337 := n5_
                  have BK344 := n6_
                  have HB := n7_
                  clear n0_ n1_ n2_ n3_ n4_ n5_ n6_ n7_
                  have p351 : 0 ≤ (x9_2 : Int) := of_decide_eq_true (by first | (with_reducible assumption) | assumption)
                  have q351 : x9_2 < (t314.length : Int) := of_decide_eq_true (by first | (with_reducible assumption) | assumption)
                  obtain ⟨ad351, e351, hx351_0, hx351_1, hx351_2, hx351_3⟩ := at_T31 (zF HO_3.out).2.2 x9_2 p351 q351
                  cases e351
                  replace p351 := eq_true p351
                  replace q351 := eq_true q351
                  have p352 : 0 ≤ (x9_2 : Int) := of_decide_eq_true (by first | (with_reducible assumption) | assumption)
                  have q352 : x9_2 < (t314.length : Int) := of_decide_eq_true (by first | (with_reducible assumption) | assumption)
                  obtain ⟨ad352, e352, hx352_0, hx352_1, hx352_2, hx352_3⟩ := at_T31 (zF HO_3.out).2.2 x9_2 p352 q352
                  obtain rfl : ad351 = ad352 := (by injection e352)
                  replace p352 := eq_true p352
                  replace q352 := eq_true q352
                  refine start_ (n := 15) (S := fun w' => w'.cell? ⟨gb328, 0, none⟩ = some (.int .i64 t322) ∧ w'.cell? ⟨gb328, 1, none⟩ = some (.int .i64 t323) ∧ w'.cell? ⟨gb328, 2, none⟩ = some (.bool t324) ∧ w'.cell? ⟨gb328, 3, none⟩ = some (.slice Ao18 t325.length co18) ∧ w'.cell? (ad351.add ((x9_2).toNat * 4)) = some (.int .i64 ((rd_T31 t314 x9_2).f0)) ∧ w'.cell? ⟨(ad351.add ((x9_2).toNat * 4)).block, (ad351.add ((x9_2).toNat * 4)).off + 1, none⟩ = some (.int .i64 ((rd_T31 t314 x9_2).f1)) ∧ w'.cell? ⟨(ad351.add ((x9_2).toNat * 4)).block, (ad351.add ((x9_2).toNat * 4)).off + 2, none⟩ = some (.int .i64 ((rd_T31 t314 x9_2).f2)) ∧ w'.cell? ⟨(ad351.add ((x9_2).toNat * 4)).block, (ad351.add ((x9_2).toNat * 4)).off + 3, none⟩ = some (.int .i64 ((rd_T31 t314 x9_2).f3)) ∧ w'.cell? (ad351.add ((x9_2).toNat * 4)) = some (.int .i64 ((rd_T31 t314 x9_2).f0)) ∧ w'.cell? ⟨(ad351.add ((x9_2).toNat * 4)).block, (ad351.add ((x9_2).toNat * 4)).off + 1, none⟩ = some (.int .i64 ((rd_T31 t314 x9_2).f1)) ∧ w'.cell? ⟨(ad351.add ((x9_2).toNat * 4)).block, (ad351.add ((x9_2).toNat * 4)).off + 2, none⟩ = some (.int .i64 ((rd_T31 t314 x9_2).f2)) ∧ w'.cell? ⟨(ad351.add ((x9_2).toNat * 4)).block, (ad351.add ((x9_2).toNat * 4)).off + 3, none⟩ = some (.int .i64 ((rd_T31 t314 x9_2).f3))) (ds := []) #[false, false, false, false, false, false, false, false, false, false, false, false, false, false, false] (by kernel_rfl) rfl rfl ⟨(yG BK328.out 0).trans rfl, (yG BK328.out 1).trans rfl, (yG BK328.out 2).trans rfl, (yG BK328.out 3).trans rfl, hx351_0, hx351_1, hx351_2, hx351_3, hx352_0, hx352_1, hx352_2, hx352_3⟩ (fun hHeld => ?_); refine with_tabW laws_FnFills.tab16 laws_FnFills.bits16 (fun HT_ HW_ => ?_)
                  generalize wc.drew = w91 at HO_3 HO_329003 HO_345003 BK321 BK328 BK337 BK344 HB hx351_0 hx351_1 hx351_2 hx351_3 hx352_0 hx352_1 hx352_2 hx352_3 hHeld ⊢
                  refine pure_ (i := 0) (N := some 110) (v := ?_) (a' := ?_) #[true, false, false, false, false, false, false, false, false, false, false, false, false, false, false] rfl rfl (any_of HT_.out (by kernel_rfl)) (fun _ _ _ h => h) (Or.inl ⟨by rfl, ?_⟩) ?_ ?_; rotate_left; (intro w'; go_simp; with_reducible rfl); rotate_left; (simp only [Act.put, yA, yB, yC, i64_w, i32_w]; rfl)
                  refine pure_ (i := 2) (N := some 112) (v := ?_) (a' := ?_) #[true, false, true, false, false, false, false, false, false, false, false, false, false, false, false] rfl rfl (any_of HT_.out (by kernel_rfl)) (fun _ _ _ h => h) (Or.inl ⟨by rfl, ?_⟩) ?_ ?_; rotate_left; (intro w'; go_simp; with_reducible rfl); rotate_left; (simp only [Act.put, yA, yB, yC, i64_w, i32_w]; rfl)
                  refine pure_ (i := 3) (N := some 113) (v := ?_) (a' := ?_) #[true, false, true, true, false, false, false, false, false, false, false, false, false, false, false] rfl rfl (any_of HT_.out (by kernel_rfl)) (fun _ _ _ h => h) (Or.inl ⟨by rfl, ?_⟩) ?_ ?_; rotate_left; (intro w'; go_simp; with_reducible rfl); rotate_left; (simp only [Act.put, yA, yB, yC, i64_w, i32_w]; rfl)
                  refine pure_ (i := 4) (N := some 114) (v := ?_) (a' := ?_) #[true, false, true, true, true, false, false, false, false, false, false, false, false, false, false] rfl rfl (any_of HT_.out (by kernel_rfl)) (fun _ _ _ h => h) (Or.inl ⟨by rfl, ?_⟩) ?_ ?_; rotate_left; (intro w'; go_simp; with_reducible rfl); rotate_left; (simp only [Act.put, yA, yB, yC, i64_w, i32_w]; rfl)
                  refine pure_ (i := 5) (N := some 115) (v := ?_) (a' := ?_) #[true, false, true, true, true, true, false, false, false, false, false, false, false, false, false] rfl rfl (any_of HT_.out (by kernel_rfl)) (fun _ _ _ h => h) (Or.inl ⟨by rfl, ?_⟩) ?_ ?_; rotate_left; (intro w'; go_simp; with_reducible rfl); rotate_left; (simp only [Act.put, yA, yB, yC, i64_w, i32_w]; rfl)
                  refine pure_ (i := 7) (N := some 117) (v := ?_) (a' := ?_) #[true, false, true, true, true, true, false, true, false, false, false, false, false, false, false] rfl rfl (any_of HT_.out (by kernel_rfl)) (fun _ _ _ h => h) (Or.inl ⟨by rfl, ?_⟩) ?_ ?_; rotate_left; (intro w'; go_simp; with_reducible rfl); rotate_left; (simp only [Act.put, yA, yB, yC, i64_w, i32_w]; rfl)
                  refine pure_ (i := 8) (N := some 118) (v := ?_) (a' := ?_) #[true, false, true, true, true, true, false, true, true, false, false, false, false, false, false] rfl rfl (any_of HT_.out (by kernel_rfl)) (fun _ _ _ h => h) (Or.inl ⟨by rfl, ?_⟩) ?_ ?_; rotate_left; (intro w'; go_simp; with_reducible rfl); rotate_left; (simp only [Act.put, yA, yB, yC, i64_w, i32_w]; rfl)
                  refine pure_ (i := 9) (N := some 119) (v := ?_) (a' := ?_) #[true, false, true, true, true, true, false, true, true, true, false, false, false, false, false] rfl rfl (any_of HT_.out (by kernel_rfl)) (fun _ _ _ h => h) (Or.inl ⟨by rfl, ?_⟩) ?_ ?_; rotate_left; (intro w'; go_simp; with_reducible rfl); rotate_left; (simp only [Act.put, yA, yB, yC, i64_w, i32_w]; rfl)
                  refine pure_ (i := 10) (N := some 120) (v := ?_) (a' := ?_) #[true, false, true, true, true, true, false, true, true, true, true, false, false, false, false] rfl rfl (any_of HT_.out (by kernel_rfl)) (fun _ _ _ h => h) (Or.inl ⟨by rfl, ?_⟩) ?_ ?_; rotate_left; (intro w'; go_simp; with_reducible rfl); rotate_left; (simp only [Act.put, yA, yB, yC, i64_w, i32_w]; rfl)
                  refine take_ (i := 1) (N := some 111) (v := ?_) (a' := ?_) #[true, true, true, true, true, true, false, true, true, true, true, false, false, false, false] rfl rfl (take_ofW HT_.out HW_.out (by kernel_rfl)) (fun _ _ _ h => h) (Or.inl ⟨by rfl, ?_⟩) hHeld ?_ ?_; rotate_left; (rintro w' ⟨s0, s1, s2, s3, s4, s5, s6, s7, s8, s9, s10, s11⟩; go_simp; with_reducible rfl); rotate_left; (simp only [Act.put, yA, yB, yC, i64_w, i32_w]; rfl)
                  refine take_ (i := 6) (N := some 116) (v := ?_) (a' := ?_) #[true, true, true, true, true, true, true, true, true, true, true, false, false, false, false] rfl rfl (take_ofW HT_.out HW_.out (by kernel_rfl)) (fun _ _ _ h => h) (Or.inl ⟨by rfl, ?_⟩) hHeld ?_ ?_; rotate_left; (rintro w' ⟨s0, s1, s2, s3, s4, s5, s6, s7, s8, s9, s10, s11⟩; go_simp; with_reducible rfl); rotate_left; (simp only [Act.put, yA, yB, yC, i64_w, i32_w]; rfl)
                  refine take_ (i := 11) (N := some 121) (v := ?_) (a' := ?_) #[true, true, true, true, true, true, true, true, true, true, true, true, false, false, false] rfl rfl (take_ofW HT_.out HW_.out (by kernel_rfl)) (fun _ _ _ h => h) (Or.inl ⟨by rfl, ?_⟩) hHeld ?_ ?_; rotate_left; (rintro w' ⟨s0, s1, s2, s3, s4, s5, s6, s7, s8, s9, s10, s11⟩; go_simp; with_reducible rfl); rotate_left; (simp only [Act.put, yA, yB, yC, i64_w, i32_w]; rfl)
                  refine join_ (σ := Nat) 1 #[true, true, true, true, true, true, true, true, true, true, true, true, true, true, false] (fun s_ => [(122, .agg #[.int .i64 t353, .int .i64 t354]), (10, .pointer (some ⟨s_, 0, none⟩))]) (fun s_ w' => (w'.cell? ⟨gb328, 0, none⟩ = some (.int .i64 t322) ∧ w'.cell? ⟨gb328, 1, none⟩ = some (.int .i64 t323) ∧ w'.cell? ⟨gb328, 2, none⟩ = some (.bool t324) ∧ w'.cell? ⟨gb328, 3, none⟩ = some (.slice Ao18 t325.length co18) ∧ w'.cell? (ad351.add ((x9_2).toNat * 4)) = some (.int .i64 ((rd_T31 t314 x9_2).f0)) ∧ w'.cell? ⟨(ad351.add ((x9_2).toNat * 4)).block, (ad351.add ((x9_2).toNat * 4)).off + 1, none⟩ = some (.int .i64 ((rd_T31 t314 x9_2).f1)) ∧ w'.cell? ⟨(ad351.add ((x9_2).toNat * 4)).block, (ad351.add ((x9_2).toNat * 4)).off + 2, none⟩ = some (.int .i64 ((rd_T31 t314 x9_2).f2)) ∧ w'.cell? ⟨(ad351.add ((x9_2).toNat * 4)).block, (ad351.add ((x9_2).toNat * 4)).off + 3, none⟩ = some (.int .i64 ((rd_T31 t314 x9_2).f3)) ∧ w'.cell? (ad351.add ((x9_2).toNat * 4)) = some (.int .i64 ((rd_T31 t314 x9_2).f0)) ∧ w'.cell? ⟨(ad351.add ((x9_2).toNat * 4)).block, (ad351.add ((x9_2).toNat * 4)).off + 1, none⟩ = some (.int .i64 ((rd_T31 t314 x9_2).f1)) ∧ w'.cell? ⟨(ad351.add ((x9_2).toNat * 4)).block, (ad351.add ((x9_2).toNat * 4)).off + 2, none⟩ = some (.int .i64 ((rd_T31 t314 x9_2).f2)) ∧ w'.cell? ⟨(ad351.add ((x9_2).toNat * 4)).block, (ad351.add ((x9_2).toNat * 4)).off + 3, none⟩ = some (.int .i64 ((rd_T31 t314 x9_2).f3))) ∧ (Kd.R k31 31 w' w.heap.size (fun k_ => some k_ ≠ (.slice Ao18 t325.length co18 : Value).ownBlock ∧ some k_ ≠ (.slice Ao33 t341.length co33 : Value).ownBlock ∧ k_ ≠ gb321) (.slice (some ad351) t314.length co13) t314) ∧ (Kd.R k31 31 w' w.heap.size (fun k_ => some k_ ≠ (.slice (some ad351) t314.length co13 : Value).ownBlock ∧ some k_ ≠ (.slice Ao33 t341.length co33 : Value).ownBlock ∧ k_ ≠ gb321) (.slice Ao18 t325.length co18) t325) ∧ (Kd.R k31 31 w' w.heap.size (fun k_ => some k_ ≠ (.slice (some ad351) t314.length co13 : Value).ownBlock ∧ some k_ ≠ (.slice Ao18 t325.length co18 : Value).ownBlock ∧ k_ ≠ gb321) (.slice Ao33 t341.length co33) t341) ∧ (w'.heap[gb321]? = some (.cells #[.int .i64 t317, .int .i64 t318, .int .i64 t319, .int .i64 t320] 31 (0, 0))) ∧ (w'.heap[gb328]? = some (.cells #[.int .i64 t322, .int .i64 t323, .bool t324, .slice Ao18 t325.length co18] 28 (0, 0))) ∧ (w'.heap[gb337]? = some (.cells #[.int .i64 t335, .int .i64 t336] 41 (0, 0))) ∧ (w'.heap[gb344]? = some (.cells #[.int .i64 t338, .int .i64 t339, .bool t340, .slice Ao33 t341.length co33] 28 (0, 0))) ∧ (w'.heap[s_]? = some (.cells #[.int .i64 0, .int .i64 0] 41 (0, 0))) ∧ (w.heap.size ≤ s_) ∧ (w.heap.size ≤ s_) ∧ (gb321 ≠ s_) ∧ (s_ ≠ gb321) ∧ (gb328 ≠ s_) ∧ (s_ ≠ gb328) ∧ (gb337 ≠ s_) ∧ (s_ ≠ gb337) ∧ (gb344 ≠ s_) ∧ (s_ ≠ gb344) ∧ (Below w.heap.size w w')) ?_ ?_
                  rotate_left
                  ·intro hCont
                   refine two_ (i := 12) (j := 13) (Ni := some 122) (Nj := some 10) #[true, true, true, true, true, true, true, true, true, true, true, true, true, false, false] #[true, true, true, true, true, true, true, true, true, true, true, true, false, true, false] rfl rfl rfl rfl (two_of HT_.out (by kernel_rfl)) (by decide) (by decide) (fun K hK => ?_) (fun K hK => ?_)
                   ·skip
                    refine goes_ Try.func22 (by kernel_rfl) rfl #[.slice Ao18 t325.length co18, .int .i64 ((rd_T31 t314 x9_2).f0), .int .i64 ((rd_T31 t314 x9_2).f1)] (by rfl) rfl rfl (by (try simp only [zA, zB, zC]); first | done | rfl | (simp only [zE, zD]; rfl)) ?_
                    with_reducible refine (impl_FindHit.calls kj64 _ _ t325 ((rd_T31 t314 x9_2).f0) ((rd_T31 t314 x9_2).f1) t353 t354 _ ?side1 ?side2 A73.out).mono ?_
                    (case side1 => repeat (first | exact (zF HO_329003.out).2.2 | (with_reducible first | refine zj ?_ _ | refine zk ?_ _ | refine zl ?_)))
                    (case side2 => exact (zF HO_329003.out).2.1)
                    rintro e w92 ⟨rfl, hb⟩
                    have HS4_ := (hb.cell (yF _ _ (hHeld.2.2.2.2.1))).trans (hHeld.2.2.2.2.1)
                    have HS5_ := (hb.cell (yF _ _ (hHeld.2.2.2.2.2.1))).trans (hHeld.2.2.2.2.2.1)
                    have HS6_ := (hb.cell (yF _ _ (hHeld.2.2.2.2.2.2.1))).trans (hHeld.2.2.2.2.2.2.1)
                    have HS7_ := (hb.cell (yF _ _ (hHeld.2.2.2.2.2.2.2.1))).trans (hHeld.2.2.2.2.2.2.2.1)
                    have HS8_ := (hb.cell (yF _ _ (hHeld.2.2.2.2.2.2.2.2.1))).trans (hHeld.2.2.2.2.2.2.2.2.1)
                    have HS9_ := (hb.cell (yF _ _ (hHeld.2.2.2.2.2.2.2.2.2.1))).trans (hHeld.2.2.2.2.2.2.2.2.2.1)
                    have HS10_ := (hb.cell (yF _ _ (hHeld.2.2.2.2.2.2.2.2.2.2.1))).trans (hHeld.2.2.2.2.2.2.2.2.2.2.1)
                    have HS11_ := (hb.cell (yF _ _ (hHeld.2.2.2.2.2.2.2.2.2.2.2))).trans (hHeld.2.2.2.2.2.2.2.2.2.2.2)
                    refine ⟨_, rfl, ?_⟩
                    have n0_ := zm (zp (by (with_reducible repeat (first | apply za | apply zb | apply zc)); exact HO_3.out) hb)
                    have n1_ := zm (zp (by (with_reducible repeat (first | apply za | apply zb | apply zc)); exact HO_329003.out) hb)
                    have n2_ := zm (zp (by (with_reducible repeat (first | apply za | apply zb | apply zc)); exact HO_345003.out) hb)
                    have n3_ := zm (zu (g := gb321) (o := .cells #[.int .i64 t317, .int .i64 t318, .int .i64 t319, .int .i64 t320] 31 (0, 0)) (by (with_reducible repeat (first | refine zd ?_ _ | refine ze ?_ | refine zf ?_ _)); exact BK321.out) hb)
                    have n4_ := zm (zu (g := gb328) (o := .cells #[.int .i64 t322, .int .i64 t323, .bool t324, .slice Ao18 t325.length co18] 28 (0, 0)) (by (with_reducible repeat (first | refine zd ?_ _ | refine ze ?_ | refine zf ?_ _)); exact BK328.out) hb)
                    have n5_ := zm (zu (g := gb337) (o := .cells #[.int .i64 t335, .int .i64 t336] 41 (0, 0)) (by (with_reducible repeat (first | refine zd ?_ _ | refine ze ?_ | refine zf ?_ _)); exact BK337.out) hb)
                    have n6_ := zm (zu (g := gb344) (o := .cells #[.int .i64 t338, .int .i64 t339, .bool t340, .slice Ao33 t341.length co33] 28 (0, 0)) (by (with_reducible repeat (first | refine zd ?_ _ | refine ze ?_ | refine zf ?_ _)); exact BK344.out) hb)
                    have n7_ := zm (zw (by repeat (first | (with_reducible first | exact HB.out | apply zg | apply zh | apply zi | refine zy ?_ GE321.out | refine zy ?_ GE328.out | refine zy ?_ GE337.out | refine zy ?_ GE344.out) | exact HB.out)) hb)
                    clear HO_3
                    clear HO_329003
                    clear HO_345003
                    clear BK321
                    clear BK328
                    clear BK337
                    clear BK344
                    clear HB
                    have HO_3 := n0_
                    have HO_329003 := n1_
                    have HO_345003 := n2_
                    have BK321 := n3_
                    have BK328 := n4_
                    have BK337 := n5_
                    have BK344 := n6_
                    have HB := n7_
                    clear n0_ n1_ n2_ n3_ n4_ n5_ n6_ n7_
                    (try clear hb)
                    (try clear hb2)
                    (try clear hk)
                    (try clear hi)
                    refine hK.out _ _ ⟨(yG BK328.out 0).trans rfl, (yG BK328.out 1).trans rfl, (yG BK328.out 2).trans rfl, (yG BK328.out 3).trans rfl, HS4_, HS5_, HS6_, HS7_, HS8_, HS9_, HS10_, HS11_⟩ (fun hHeld => ?_)
                    clear hK K
                    refine norm_ (a' := ?_) ?_ ?_; rotate_left; (show Act.put _ (some 122) _ = _; simp only [Act.put, yA, yB, yC, i64_w, i32_w]; rfl)
                    refine one_ (i := 13) (N := some 10) #[true, true, true, true, true, true, true, true, true, true, true, true, true, true, false] rfl rfl (one_of HT_.out (by kernel_rfl)) (by decide) (fun K hK => ?_)
                    refine box_step ?hg (N := 10) ?hd (cs := #[.int .i64 0, .int .i64 0]) (t := 41) ?hr ?_; (case hd => rfl); (case hg => rfl); (case hr => first | (go_simp; done) | (go_simp; rfl))
                    intro gb355 hg w93 hbox hb
                    have HS4_ := (hb.cell (yF _ _ (hHeld.2.2.2.2.1))).trans (hHeld.2.2.2.2.1)
                    have HS5_ := (hb.cell (yF _ _ (hHeld.2.2.2.2.2.1))).trans (hHeld.2.2.2.2.2.1)
                    have HS6_ := (hb.cell (yF _ _ (hHeld.2.2.2.2.2.2.1))).trans (hHeld.2.2.2.2.2.2.1)
                    have HS7_ := (hb.cell (yF _ _ (hHeld.2.2.2.2.2.2.2.1))).trans (hHeld.2.2.2.2.2.2.2.1)
                    have HS8_ := (hb.cell (yF _ _ (hHeld.2.2.2.2.2.2.2.2.1))).trans (hHeld.2.2.2.2.2.2.2.2.1)
                    have HS9_ := (hb.cell (yF _ _ (hHeld.2.2.2.2.2.2.2.2.2.1))).trans (hHeld.2.2.2.2.2.2.2.2.2.1)
                    have HS10_ := (hb.cell (yF _ _ (hHeld.2.2.2.2.2.2.2.2.2.2.1))).trans (hHeld.2.2.2.2.2.2.2.2.2.2.1)
                    have HS11_ := (hb.cell (yF _ _ (hHeld.2.2.2.2.2.2.2.2.2.2.2))).trans (hHeld.2.2.2.2.2.2.2.2.2.2.2)
                    have n0_ := zm (zp (by (with_reducible repeat (first | apply za | apply zb | apply zc)); exact HO_3.out) hb)
                    have n1_ := zm (zp (by (with_reducible repeat (first | apply za | apply zb | apply zc)); exact HO_329003.out) hb)
                    have n2_ := zm (zp (by (with_reducible repeat (first | apply za | apply zb | apply zc)); exact HO_345003.out) hb)
                    have n3_ := zm (zu (g := gb321) (o := .cells #[.int .i64 t317, .int .i64 t318, .int .i64 t319, .int .i64 t320] 31 (0, 0)) (by (with_reducible repeat (first | refine zd ?_ _ | refine ze ?_ | refine zf ?_ _)); exact BK321.out) hb)
                    have n4_ := zm (zu (g := gb328) (o := .cells #[.int .i64 t322, .int .i64 t323, .bool t324, .slice Ao18 t325.length co18] 28 (0, 0)) (by (with_reducible repeat (first | refine zd ?_ _ | refine ze ?_ | refine zf ?_ _)); exact BK328.out) hb)
                    have n5_ := zm (zu (g := gb337) (o := .cells #[.int .i64 t335, .int .i64 t336] 41 (0, 0)) (by (with_reducible repeat (first | refine zd ?_ _ | refine ze ?_ | refine zf ?_ _)); exact BK337.out) hb)
                    have n6_ := zm (zu (g := gb344) (o := .cells #[.int .i64 t338, .int .i64 t339, .bool t340, .slice Ao33 t341.length co33] 28 (0, 0)) (by (with_reducible repeat (first | refine zd ?_ _ | refine ze ?_ | refine zf ?_ _)); exact BK344.out) hb)
                    have n7_ := zm (zw (by repeat (first | (with_reducible first | exact HB.out | apply zg | apply zh | apply zi | refine zy ?_ GE321.out | refine zy ?_ GE328.out | refine zy ?_ GE337.out | refine zy ?_ GE344.out) | exact HB.out)) hb)
                    have n8_ := zm (hbox)
                    have n9_ := zm ((by rw [hg]; exact (zx (by repeat (first | (with_reducible first | exact HB.out | apply zg | apply zh | apply zi | refine zy ?_ GE321.out | refine zy ?_ GE328.out | refine zy ?_ GE337.out | refine zy ?_ GE344.out) | exact HB.out))) : w.heap.size ≤ gb355))
                    have n10_ := zm ((by rw [hg]; exact (zx (by repeat (first | (with_reducible first | exact HB.out | apply zg | apply zh | apply zi | refine zy ?_ GE321.out | refine zy ?_ GE328.out | refine zy ?_ GE337.out | refine zy ?_ GE344.out) | exact HB.out))) : w.heap.size ≤ gb355))
                    have n11_ := zm ((by rw [hg]; exact Nat.ne_of_lt (zv (g := gb321) (o := .cells #[.int .i64 t317, .int .i64 t318, .int .i64 t319, .int .i64 t320] 31 (0, 0)) (by (with_reducible repeat (first | refine zd ?_ _ | refine ze ?_ | refine zf ?_ _)); exact BK321.out)) : gb321 ≠ gb355))
                    have n12_ := zm ((by rw [hg]; exact Nat.ne_of_gt (zv (g := gb321) (o := .cells #[.int .i64 t317, .int .i64 t318, .int .i64 t319, .int .i64 t320] 31 (0, 0)) (by (with_reducible repeat (first | refine zd ?_ _ | refine ze ?_ | refine zf ?_ _)); exact BK321.out)) : gb355 ≠ gb321))
                    have n13_ := zm ((by rw [hg]; exact Nat.ne_of_lt (zv (g := gb328) (o := .cells #[.int .i64 t322, .int .i64 t323, .bool t324, .slice Ao18 t325.length co18] 28 (0, 0)) (by (with_reducible repeat (first | refine zd ?_ _ | refine ze ?_ | refine zf ?_ _)); exact BK328.out)) : gb328 ≠ gb355))
                    have n14_ := zm ((by rw [hg]; exact Nat.ne_of_gt (zv (g := gb328) (o := .cells #[.int .i64 t322, .int .i64 t323, .bool t324, .slice Ao18 t325.length co18] 28 (0, 0)) (by (with_reducible repeat (first | refine zd ?_ _ | refine ze ?_ | refine zf ?_ _)); exact BK328.out)) : gb355 ≠ gb328))
                    have n15_ := zm ((by rw [hg]; exact Nat.ne_of_lt (zv (g := gb337) (o := .cells #[.int .i64 t335, .int .i64 t336] 41 (0, 0)) (by (with_reducible repeat (first | refine zd ?_ _ | refine ze ?_ | refine zf ?_ _)); exact BK337.out)) : gb337 ≠ gb355))
                    have n16_ := zm ((by rw [hg]; exact Nat.ne_of_gt (zv (g := gb337) (o := .cells #[.int .i64 t335, .int .i64 t336] 41 (0, 0)) (by (with_reducible repeat (first | refine zd ?_ _ | refine ze ?_ | refine zf ?_ _)); exact BK337.out)) : gb355 ≠ gb337))
                    have n17_ := zm ((by rw [hg]; exact Nat.ne_of_lt (zv (g := gb344) (o := .cells #[.int .i64 t338, .int .i64 t339, .bool t340, .slice Ao33 t341.length co33] 28 (0, 0)) (by (with_reducible repeat (first | refine zd ?_ _ | refine ze ?_ | refine zf ?_ _)); exact BK344.out)) : gb344 ≠ gb355))
                    have n18_ := zm ((by rw [hg]; exact Nat.ne_of_gt (zv (g := gb344) (o := .cells #[.int .i64 t338, .int .i64 t339, .bool t340, .slice Ao33 t341.length co33] 28 (0, 0)) (by (with_reducible repeat (first | refine zd ?_ _ | refine ze ?_ | refine zf ?_ _)); exact BK344.out)) : gb355 ≠ gb344))
                    clear HO_3
                    clear HO_329003
                    clear HO_345003
                    clear BK321
                    clear BK328
                    clear BK337
                    clear BK344
                    clear HB
                    have HO_3 := n0_
                    have HO_329003 := n1_
                    have HO_345003 := n2_
                    have BK321 := n3_
                    have BK328 := n4_
                    have BK337 := n5_
                    have BK344 := n6_
                    have HB := n7_
                    have BK355 := n8_
                    have GW355 := n9_
                    have GE355 := n10_
                    have NB321_355 := n11_
                    have NB355_321 := n12_
                    have NB328_355 := n13_
                    have NB355_328 := n14_
                    have NB337_355 := n15_
                    have NB355_337 := n16_
                    have NB344_355 := n17_
                    have NB355_344 := n18_
                    clear n0_ n1_ n2_ n3_ n4_ n5_ n6_ n7_ n8_ n9_ n10_ n11_ n12_ n13_ n14_ n15_ n16_ n17_ n18_
                    clear hb hbox hg
                    refine hK.out _ _ ⟨(yG BK328.out 0).trans rfl, (yG BK328.out 1).trans rfl, (yG BK328.out 2).trans rfl, (yG BK328.out 3).trans rfl, HS4_, HS5_, HS6_, HS7_, HS8_, HS9_, HS10_, HS11_⟩ (fun hHeld => ?_)
                    clear hK K
                    refine norm_ (a' := ?_) ?_ ?_; rotate_left; (show Act.put _ (some 10) _ = _; simp only [Act.put, yA, yB, yC, i64_w, i32_w]; rfl)
                    exact norm_ (by simp only [putAll, Act.put, yA, yB, yC]) (hCont (gb355) _ ⟨hHeld, (by (with_reducible repeat (first | apply za | apply zb | apply zc)); exact HO_3.out), (by (with_reducible repeat (first | apply za | apply zb | apply zc)); exact HO_329003.out), (by (with_reducible repeat (first | apply za | apply zb | apply zc)); exact HO_345003.out), (by (with_reducible repeat (first | refine zd ?_ _ | refine ze ?_ | refine zf ?_ _)); exact BK321.out), (by (with_reducible repeat (first | refine zd ?_ _ | refine ze ?_ | refine zf ?_ _)); exact BK328.out), (by (with_reducible repeat (first | refine zd ?_ _ | refine ze ?_ | refine zf ?_ _)); exact BK337.out), (by (with_reducible repeat (first | refine zd ?_ _ | refine ze ?_ | refine zf ?_ _)); exact BK344.out), (by (with_reducible repeat (first | refine zd ?_ _ | refine ze ?_ | refine zf ?_ _)); exact BK355.out), GW355.out, GE355.out, NB321_355.out, NB355_321.out, NB328_355.out, NB355_328.out, NB337_355.out, NB355_337.out, NB344_355.out, NB355_344.out, (by repeat (first | (with_reducible first | exact HB.out | apply zg | apply zh | apply zi | refine zy ?_ GE321.out | refine zy ?_ GE328.out | refine zy ?_ GE337.out | refine zy ?_ GE344.out | refine zy ?_ GE355.out) | exact HB.out))⟩)
                   ·skip
                    refine box_step ?hg (N := 10) ?hd (cs := #[.int .i64 0, .int .i64 0]) (t := 41) ?hr ?_; (case hd => rfl); (case hg => rfl); (case hr => first | (go_simp; done) | (go_simp; rfl))
                    intro gb355 hg w92 hbox hb
                    have HS4_ := (hb.cell (yF _ _ (hHeld.2.2.2.2.1))).trans (hHeld.2.2.2.2.1)
                    have HS5_ := (hb.cell (yF _ _ (hHeld.2.2.2.2.2.1))).trans (hHeld.2.2.2.2.2.1)
                    have HS6_ := (hb.cell (yF _ _ (hHeld.2.2.2.2.2.2.1))).trans (hHeld.2.2.2.2.2.2.1)
                    have HS7_ := (hb.cell (yF _ _ (hHeld.2.2.2.2.2.2.2.1))).trans (hHeld.2.2.2.2.2.2.2.1)
                    have HS8_ := (hb.cell (yF _ _ (hHeld.2.2.2.2.2.2.2.2.1))).trans (hHeld.2.2.2.2.2.2.2.2.1)
                    have HS9_ := (hb.cell (yF _ _ (hHeld.2.2.2.2.2.2.2.2.2.1))).trans (hHeld.2.2.2.2.2.2.2.2.2.1)
                    have HS10_ := (hb.cell (yF _ _ (hHeld.2.2.2.2.2.2.2.2.2.2.1))).trans (hHeld.2.2.2.2.2.2.2.2.2.2.1)
                    have HS11_ := (hb.cell (yF _ _ (hHeld.2.2.2.2.2.2.2.2.2.2.2))).trans (hHeld.2.2.2.2.2.2.2.2.2.2.2)
                    have n0_ := zm (zp (by (with_reducible repeat (first | apply za | apply zb | apply zc)); exact HO_3.out) hb)
                    have n1_ := zm (zp (by (with_reducible repeat (first | apply za | apply zb | apply zc)); exact HO_329003.out) hb)
                    have n2_ := zm (zp (by (with_reducible repeat (first | apply za | apply zb | apply zc)); exact HO_345003.out) hb)
                    have n3_ := zm (zu (g := gb321) (o := .cells #[.int .i64 t317, .int .i64 t318, .int .i64 t319, .int .i64 t320] 31 (0, 0)) (by (with_reducible repeat (first | refine zd ?_ _ | refine ze ?_ | refine zf ?_ _)); exact BK321.out) hb)
                    have n4_ := zm (zu (g := gb328) (o := .cells #[.int .i64 t322, .int .i64 t323, .bool t324, .slice Ao18 t325.length co18] 28 (0, 0)) (by (with_reducible repeat (first | refine zd ?_ _ | refine ze ?_ | refine zf ?_ _)); exact BK328.out) hb)
                    have n5_ := zm (zu (g := gb337) (o := .cells #[.int .i64 t335, .int .i64 t336] 41 (0, 0)) (by (with_reducible repeat (first | refine zd ?_ _ | refine ze ?_ | refine zf ?_ _)); exact BK337.out) hb)
                    have n6_ := zm (zu (g := gb344) (o := .cells #[.int .i64 t338, .int .i64 t339, .bool t340, .slice Ao33 t341.length co33] 28 (0, 0)) (by (with_reducible repeat (first | refine zd ?_ _ | refine ze ?_ | refine zf ?_ _)); exact BK344.out) hb)
                    have n7_ := zm (zw (by repeat (first | (with_reducible first | exact HB.out | apply zg | apply zh | apply zi | refine zy ?_ GE321.out | refine zy ?_ GE328.out | refine zy ?_ GE337.out | refine zy ?_ GE344.out) | exact HB.out)) hb)
                    have n8_ := zm (hbox)
                    have n9_ := zm ((by rw [hg]; exact (zx (by repeat (first | (with_reducible first | exact HB.out | apply zg | apply zh | apply zi | refine zy ?_ GE321.out | refine zy ?_ GE328.out | refine zy ?_ GE337.out | refine zy ?_ GE344.out) | exact HB.out))) : w.heap.size ≤ gb355))
                    have n10_ := zm ((by rw [hg]; exact (zx (by repeat (first | (with_reducible first | exact HB.out | apply zg | apply zh | apply zi | refine zy ?_ GE321.out | refine zy ?_ GE328.out | refine zy ?_ GE337.out | refine zy ?_ GE344.out) | exact HB.out))) : w.heap.size ≤ gb355))
                    have n11_ := zm ((by rw [hg]; exact Nat.ne_of_lt (zv (g := gb321) (o := .cells #[.int .i64 t317, .int .i64 t318, .int .i64 t319, .int .i64 t320] 31 (0, 0)) (by (with_reducible repeat (first | refine zd ?_ _ | refine ze ?_ | refine zf ?_ _)); exact BK321.out)) : gb321 ≠ gb355))
                    have n12_ := zm ((by rw [hg]; exact Nat.ne_of_gt (zv (g := gb321) (o := .cells #[.int .i64 t317, .int .i64 t318, .int .i64 t319, .int .i64 t320] 31 (0, 0)) (by (with_reducible repeat (first | refine zd ?_ _ | refine ze ?_ | refine zf ?_ _)); exact BK321.out)) : gb355 ≠ gb321))
                    have n13_ := zm ((by rw [hg]; exact Nat.ne_of_lt (zv (g := gb328) (o := .cells #[.int .i64 t322, .int .i64 t323, .bool t324, .slice Ao18 t325.length co18] 28 (0, 0)) (by (with_reducible repeat (first | refine zd ?_ _ | refine ze ?_ | refine zf ?_ _)); exact BK328.out)) : gb328 ≠ gb355))
                    have n14_ := zm ((by rw [hg]; exact Nat.ne_of_gt (zv (g := gb328) (o := .cells #[.int .i64 t322, .int .i64 t323, .bool t324, .slice Ao18 t325.length co18] 28 (0, 0)) (by (with_reducible repeat (first | refine zd ?_ _ | refine ze ?_ | refine zf ?_ _)); exact BK328.out)) : gb355 ≠ gb328))
                    have n15_ := zm ((by rw [hg]; exact Nat.ne_of_lt (zv (g := gb337) (o := .cells #[.int .i64 t335, .int .i64 t336] 41 (0, 0)) (by (with_reducible repeat (first | refine zd ?_ _ | refine ze ?_ | refine zf ?_ _)); exact BK337.out)) : gb337 ≠ gb355))
                    have n16_ := zm ((by rw [hg]; exact Nat.ne_of_gt (zv (g := gb337) (o := .cells #[.int .i64 t335, .int .i64 t336] 41 (0, 0)) (by (with_reducible repeat (first | refine zd ?_ _ | refine ze ?_ | refine zf ?_ _)); exact BK337.out)) : gb355 ≠ gb337))
                    have n17_ := zm ((by rw [hg]; exact Nat.ne_of_lt (zv (g := gb344) (o := .cells #[.int .i64 t338, .int .i64 t339, .bool t340, .slice Ao33 t341.length co33] 28 (0, 0)) (by (with_reducible repeat (first | refine zd ?_ _ | refine ze ?_ | refine zf ?_ _)); exact BK344.out)) : gb344 ≠ gb355))
                    have n18_ := zm ((by rw [hg]; exact Nat.ne_of_gt (zv (g := gb344) (o := .cells #[.int .i64 t338, .int .i64 t339, .bool t340, .slice Ao33 t341.length co33] 28 (0, 0)) (by (with_reducible repeat (first | refine zd ?_ _ | refine ze ?_ | refine zf ?_ _)); exact BK344.out)) : gb355 ≠ gb344))
                    clear HO_3
                    clear HO_329003
                    clear HO_345003
                    clear BK321
                    clear BK328
                    clear BK337
                    clear BK344
                    clear HB
                    have HO_3 := n0_
                    have HO_329003 := n1_
                    have HO_345003 := n2_
                    have BK321 := n3_
                    have BK328 := n4_
                    have BK337 := n5_
                    have BK344 := n6_
                    have HB := n7_
                    have BK355 := n8_
                    have GW355 := n9_
                    have GE355 := n10_
                    have NB321_355 := n11_
                    have NB355_321 := n12_
                    have NB328_355 := n13_
                    have NB355_328 := n14_
                    have NB337_355 := n15_
                    have NB355_337 := n16_
                    have NB344_355 := n17_
                    have NB355_344 := n18_
                    clear n0_ n1_ n2_ n3_ n4_ n5_ n6_ n7_ n8_ n9_ n10_ n11_ n12_ n13_ n14_ n15_ n16_ n17_ n18_
                    clear hb hbox hg
                    refine hK.out _ _ ⟨(yG BK328.out 0).trans rfl, (yG BK328.out 1).trans rfl, (yG BK328.out 2).trans rfl, (yG BK328.out 3).trans rfl, HS4_, HS5_, HS6_, HS7_, HS8_, HS9_, HS10_, HS11_⟩ (fun hHeld => ?_)
                    clear hK K
                    refine norm_ (a' := ?_) ?_ ?_; rotate_left; (show Act.put _ (some 10) _ = _; simp only [Act.put, yA, yB, yC, i64_w, i32_w]; rfl)
                    refine one_ (i := 12) (N := some 122) #[true, true, true, true, true, true, true, true, true, true, true, true, true, true, false] rfl rfl (one_of HT_.out (by kernel_rfl)) (by decide) (fun K hK => ?_)
                    refine goes_ Try.func22 (by kernel_rfl) rfl #[.slice Ao18 t325.length co18, .int .i64 ((rd_T31 t314 x9_2).f0), .int .i64 ((rd_T31 t314 x9_2).f1)] (by rfl) rfl rfl (by (try simp only [zA, zB, zC]); first | done | rfl | (simp only [zE, zD]; rfl)) ?_
                    with_reducible refine (impl_FindHit.calls kj64 _ _ t325 ((rd_T31 t314 x9_2).f0) ((rd_T31 t314 x9_2).f1) t353 t354 _ ?side1 ?side2 A73.out).mono ?_
                    (case side1 => repeat (first | exact (zF HO_329003.out).2.2 | (with_reducible first | refine zj ?_ _ | refine zk ?_ _ | refine zl ?_)))
                    (case side2 => exact (zF HO_329003.out).2.1)
                    rintro e w93 ⟨rfl, hb⟩
                    have HS4_ := (hb.cell (yF _ _ (hHeld.2.2.2.2.1))).trans (hHeld.2.2.2.2.1)
                    have HS5_ := (hb.cell (yF _ _ (hHeld.2.2.2.2.2.1))).trans (hHeld.2.2.2.2.2.1)
                    have HS6_ := (hb.cell (yF _ _ (hHeld.2.2.2.2.2.2.1))).trans (hHeld.2.2.2.2.2.2.1)
                    have HS7_ := (hb.cell (yF _ _ (hHeld.2.2.2.2.2.2.2.1))).trans (hHeld.2.2.2.2.2.2.2.1)
                    have HS8_ := (hb.cell (yF _ _ (hHeld.2.2.2.2.2.2.2.2.1))).trans (hHeld.2.2.2.2.2.2.2.2.1)
                    have HS9_ := (hb.cell (yF _ _ (hHeld.2.2.2.2.2.2.2.2.2.1))).trans (hHeld.2.2.2.2.2.2.2.2.2.1)
                    have HS10_ := (hb.cell (yF _ _ (hHeld.2.2.2.2.2.2.2.2.2.2.1))).trans (hHeld.2.2.2.2.2.2.2.2.2.2.1)
                    have HS11_ := (hb.cell (yF _ _ (hHeld.2.2.2.2.2.2.2.2.2.2.2))).trans (hHeld.2.2.2.2.2.2.2.2.2.2.2)
                    refine ⟨_, rfl, ?_⟩
                    have n0_ := zm (zp (by (with_reducible repeat (first | apply za | apply zb | apply zc)); exact HO_3.out) hb)
                    have n1_ := zm (zp (by (with_reducible repeat (first | apply za | apply zb | apply zc)); exact HO_329003.out) hb)
                    have n2_ := zm (zp (by (with_reducible repeat (first | apply za | apply zb | apply zc)); exact HO_345003.out) hb)
                    have n3_ := zm (zu (g := gb321) (o := .cells #[.int .i64 t317, .int .i64 t318, .int .i64 t319, .int .i64 t320] 31 (0, 0)) (by (with_reducible repeat (first | refine zd ?_ _ | refine ze ?_ | refine zf ?_ _)); exact BK321.out) hb)
                    have n4_ := zm (zu (g := gb328) (o := .cells #[.int .i64 t322, .int .i64 t323, .bool t324, .slice Ao18 t325.length co18] 28 (0, 0)) (by (with_reducible repeat (first | refine zd ?_ _ | refine ze ?_ | refine zf ?_ _)); exact BK328.out) hb)
                    have n5_ := zm (zu (g := gb337) (o := .cells #[.int .i64 t335, .int .i64 t336] 41 (0, 0)) (by (with_reducible repeat (first | refine zd ?_ _ | refine ze ?_ | refine zf ?_ _)); exact BK337.out) hb)
                    have n6_ := zm (zu (g := gb344) (o := .cells #[.int .i64 t338, .int .i64 t339, .bool t340, .slice Ao33 t341.length co33] 28 (0, 0)) (by (with_reducible repeat (first | refine zd ?_ _ | refine ze ?_ | refine zf ?_ _)); exact BK344.out) hb)
                    have n7_ := zm (zu (g := gb355) (o := .cells #[.int .i64 0, .int .i64 0] 41 (0, 0)) (by (with_reducible repeat (first | refine zd ?_ _ | refine ze ?_ | refine zf ?_ _)); exact BK355.out) hb)
                    have n8_ := zm (zw (by repeat (first | (with_reducible first | exact HB.out | apply zg | apply zh | apply zi | refine zy ?_ GE321.out | refine zy ?_ GE328.out | refine zy ?_ GE337.out | refine zy ?_ GE344.out | refine zy ?_ GE355.out) | exact HB.out)) hb)
                    clear HO_3
                    clear HO_329003
                    clear HO_345003
                    clear BK321
                    clear BK328
                    clear BK337
                    clear BK344
                    clear BK355
                    clear HB
                    have HO_3 := n0_
                    have HO_329003 := n1_
                    have HO_345003 := n2_
                    have BK321 := n3_
                    have BK328 := n4_
                    have BK337 := n5_
                    have BK344 := n6_
                    have BK355 := n7_
                    have HB := n8_
                    clear n0_ n1_ n2_ n3_ n4_ n5_ n6_ n7_ n8_
                    (try clear hb)
                    (try clear hb2)
                    (try clear hk)
                    (try clear hi)
                    refine hK.out _ _ ⟨(yG BK328.out 0).trans rfl, (yG BK328.out 1).trans rfl, (yG BK328.out 2).trans rfl, (yG BK328.out 3).trans rfl, HS4_, HS5_, HS6_, HS7_, HS8_, HS9_, HS10_, HS11_⟩ (fun hHeld => ?_)
                    clear hK K
                    refine norm_ (a' := ?_) ?_ ?_; rotate_left; (show Act.put _ (some 122) _ = _; simp only [Act.put, yA, yB, yC, i64_w, i32_w]; rfl)
                    exact norm_ (by simp only [putAll, Act.put, yA, yB, yC]) (hCont (gb355) _ ⟨hHeld, (by (with_reducible repeat (first | apply za | apply zb | apply zc)); exact HO_3.out), (by (with_reducible repeat (first | apply za | apply zb | apply zc)); exact HO_329003.out), (by (with_reducible repeat (first | apply za | apply zb | apply zc)); exact HO_345003.out), (by (with_reducible repeat (first | refine zd ?_ _ | refine ze ?_ | refine zf ?_ _)); exact BK321.out), (by (with_reducible repeat (first | refine zd ?_ _ | refine ze ?_ | refine zf ?_ _)); exact BK328.out), (by (with_reducible repeat (first | refine zd ?_ _ | refine ze ?_ | refine zf ?_ _)); exact BK337.out), (by (with_reducible repeat (first | refine zd ?_ _ | refine ze ?_ | refine zf ?_ _)); exact BK344.out), (by (with_reducible repeat (first | refine zd ?_ _ | refine ze ?_ | refine zf ?_ _)); exact BK355.out), GW355.out, GE355.out, NB321_355.out, NB355_321.out, NB328_355.out, NB355_328.out, NB337_355.out, NB355_337.out, NB344_355.out, NB355_344.out, (by repeat (first | (with_reducible first | exact HB.out | apply zg | apply zh | apply zi | refine zy ?_ GE321.out | refine zy ?_ GE328.out | refine zy ?_ GE337.out | refine zy ?_ GE344.out | refine zy ?_ GE355.out) | exact HB.out))⟩)
                  rintro gb355 w94 ⟨hS_, h0_, h1_, h2_, h3_, h4_, h5_, h6_, h7_, h8_, h9_, h10_, h11_, h12_, h13_, h14_, h15_, h16_, h17_, h18_⟩
                  have n0_ : Aside0 (Kd.R k31 31 w94 w.heap.size (fun k_ => some k_ ≠ (.slice Ao18 t325.length co18 : Value).ownBlock ∧ some k_ ≠ (.slice Ao33 t341.length co33 : Value).ownBlock ∧ k_ ≠ gb321) (.slice (some ad351) t314.length co13) t314) := ⟨h0_⟩
                  have n1_ : Aside0 (Kd.R k31 31 w94 w.heap.size (fun k_ => some k_ ≠ (.slice (some ad351) t314.length co13 : Value).ownBlock ∧ some k_ ≠ (.slice Ao33 t341.length co33 : Value).ownBlock ∧ k_ ≠ gb321) (.slice Ao18 t325.length co18) t325) := ⟨h1_⟩
                  have n2_ : Aside0 (Kd.R k31 31 w94 w.heap.size (fun k_ => some k_ ≠ (.slice (some ad351) t314.length co13 : Value).ownBlock ∧ some k_ ≠ (.slice Ao18 t325.length co18 : Value).ownBlock ∧ k_ ≠ gb321) (.slice Ao33 t341.length co33) t341) := ⟨h2_⟩
                  have n3_ : Aside0 (w94.heap[gb321]? = some (.cells #[.int .i64 t317, .int .i64 t318, .int .i64 t319, .int .i64 t320] 31 (0, 0))) := ⟨h3_⟩
                  have n4_ : Aside0 (w94.heap[gb328]? = some (.cells #[.int .i64 t322, .int .i64 t323, .bool t324, .slice Ao18 t325.length co18] 28 (0, 0))) := ⟨h4_⟩
                  have n5_ : Aside0 (w94.heap[gb337]? = some (.cells #[.int .i64 t335, .int .i64 t336] 41 (0, 0))) := ⟨h5_⟩
                  have n6_ : Aside0 (w94.heap[gb344]? = some (.cells #[.int .i64 t338, .int .i64 t339, .bool t340, .slice Ao33 t341.length co33] 28 (0, 0))) := ⟨h6_⟩
                  have n7_ : Aside0 (w94.heap[gb355]? = some (.cells #[.int .i64 0, .int .i64 0] 41 (0, 0))) := ⟨h7_⟩
                  have n8_ : Aside0 (w.heap.size ≤ gb355) := ⟨h8_⟩
                  have n9_ : Aside0 (w.heap.size ≤ gb355) := ⟨h9_⟩
                  have n10_ : Aside0 (gb321 ≠ gb355) := ⟨h10_⟩
                  have n11_ : Aside0 (gb355 ≠ gb321) := ⟨h11_⟩
                  have n12_ : Aside0 (gb328 ≠ gb355) := ⟨h12_⟩
                  have n13_ : Aside0 (gb355 ≠ gb328) := ⟨h13_⟩
                  have n14_ : Aside0 (gb337 ≠ gb355) := ⟨h14_⟩
                  have n15_ : Aside0 (gb355 ≠ gb337) := ⟨h15_⟩
                  have n16_ : Aside0 (gb344 ≠ gb355) := ⟨h16_⟩
                  have n17_ : Aside0 (gb355 ≠ gb344) := ⟨h17_⟩
                  have n18_ : Aside0 (Below w.heap.size w w94) := ⟨h18_⟩
                  clear HO_3
                  clear HO_329003
                  clear HO_345003
                  clear BK321
                  clear BK328
                  clear BK337
                  clear BK344
                  clear HB
                  clear h0_ h1_ h2_ h3_ h4_ h5_ h6_ h7_ h8_ h9_ h10_ h11_ h12_ h13_ h14_ h15_ h16_ h17_ h18_
                  have HO_3 := n0_
                  have HO_329003 := n1_
                  have HO_345003 := n2_
                  have BK321 := n3_
                  have BK328 := n4_
                  have BK337 := n5_
                  have BK344 := n6_
                  have BK355 := n7_
                  have GW355 := n8_
                  have GE355 := n9_
                  have NB321_355 := n10_
                  have NB355_321 := n11_
                  have NB328_355 := n12_
                  have NB355_328 := n13_
                  have NB337_355 := n14_
                  have NB355_337 := n15_
                  have NB344_355 := n16_
                  have NB355_344 := n17_
                  have HB := n18_
                  clear n0_ n1_ n2_ n3_ n4_ n5_ n6_ n7_ n8_ n9_ n10_ n11_ n12_ n13_ n14_ n15_ n16_ n17_ n18_
                  have hHeld : w94.cell? ⟨gb328, 0, none⟩ = some (.int .i64 t322) ∧ w94.cell? ⟨gb328, 1, none⟩ = some (.int .i64 t323) ∧ w94.cell? ⟨gb328, 2, none⟩ = some (.bool t324) ∧ w94.cell? ⟨gb328, 3, none⟩ = some (.slice Ao18 t325.length co18) ∧ w94.cell? (ad351.add ((x9_2).toNat * 4)) = some (.int .i64 ((rd_T31 t314 x9_2).f0)) ∧ w94.cell? ⟨(ad351.add ((x9_2).toNat * 4)).block, (ad351.add ((x9_2).toNat * 4)).off + 1, none⟩ = some (.int .i64 ((rd_T31 t314 x9_2).f1)) ∧ w94.cell? ⟨(ad351.add ((x9_2).toNat * 4)).block, (ad351.add ((x9_2).toNat * 4)).off + 2, none⟩ = some (.int .i64 ((rd_T31 t314 x9_2).f2)) ∧ w94.cell? ⟨(ad351.add ((x9_2).toNat * 4)).block, (ad351.add ((x9_2).toNat * 4)).off + 3, none⟩ = some (.int .i64 ((rd_T31 t314 x9_2).f3)) ∧ w94.cell? (ad351.add ((x9_2).toNat * 4)) = some (.int .i64 ((rd_T31 t314 x9_2).f0)) ∧ w94.cell? ⟨(ad351.add ((x9_2).toNat * 4)).block, (ad351.add ((x9_2).toNat * 4)).off + 1, none⟩ = some (.int .i64 ((rd_T31 t314 x9_2).f1)) ∧ w94.cell? ⟨(ad351.add ((x9_2).toNat * 4)).block, (ad351.add ((x9_2).toNat * 4)).off + 2, none⟩ = some (.int .i64 ((rd_T31 t314 x9_2).f2)) ∧ w94.cell? ⟨(ad351.add ((x9_2).toNat * 4)).block, (ad351.add ((x9_2).toNat * 4)).off + 3, none⟩ = some (.int .i64 ((rd_T31 t314 x9_2).f3)) := hS_
                  refine norm_ (a' := ?_) ?_ ?_
                  rotate_left
                  ·simp only [putAll, Act.put, yA, yB, yC]
                   rfl
                  refine one_ (i := 14) (N := none) #[true, true, true, true, true, true, true, true, true, true, true, true, true, true, true] rfl rfl (one_of HT_.out (by kernel_rfl)) (by decide) (fun K hK => ?_)
                  have hs95 : w94.cell? ⟨gb355, 0, none⟩ = some (.int .i64 0) := (yG BK355.out 0).trans rfl
                  have hfs95 := zH BK355.out 0
                  have hns95_0 := NB321_355.out
                  have hns95_1 := NB328_355.out
                  have hns95_2 := NB337_355.out
                  have hns95_3 := NB344_355.out
                  have hms95_0 := NB355_321.out
                  have hms95_1 := NB355_328.out
                  have hms95_2 := NB355_337.out
                  have hms95_3 := NB355_344.out
                  have hs96 : w94.cell? ⟨gb355, 1, none⟩ = some (.int .i64 0) := (yG BK355.out 1).trans rfl
                  have hfs96 := zH BK355.out 1
                  have hns96_0 := NB321_355.out
                  have hns96_1 := NB328_355.out
                  have hns96_2 := NB337_355.out
                  have hns96_3 := NB344_355.out
                  have hms96_0 := NB355_321.out
                  have hms96_1 := NB355_328.out
                  have hms96_2 := NB355_337.out
                  have hms96_3 := NB355_344.out
                  refine skip_ (w1 := ?_) (by rfl) rfl ?_ ?_
                  rotate_left
                  ·go_simp
                   rfl
                  refine hK.out _ _ ⟨((cell_far (p := ⟨gb355, _, none⟩) NB328_355.out _).trans (((cell_far (p := ⟨gb355, _, none⟩) NB328_355.out _).trans (hHeld.1)))), ((cell_far (p := ⟨gb355, _, none⟩) NB328_355.out _).trans (((cell_far (p := ⟨gb355, _, none⟩) NB328_355.out _).trans (hHeld.2.1)))), ((cell_far (p := ⟨gb355, _, none⟩) NB328_355.out _).trans (((cell_far (p := ⟨gb355, _, none⟩) NB328_355.out _).trans (hHeld.2.2.1)))), ((cell_far (p := ⟨gb355, _, none⟩) NB328_355.out _).trans (((cell_far (p := ⟨gb355, _, none⟩) NB328_355.out _).trans (hHeld.2.2.2.1)))), ((cell_far (p := ⟨gb355, _, none⟩) (by first | exact yD (yE HO_3.out BK355.out (by decide)) | (rw [add_block]; exact yD (yE HO_3.out BK355.out (by decide))) | (show (Addr.add _ _).block ≠ _; rw [add_block]; exact yD (yE HO_3.out BK355.out (by decide))) | (dsimp only; exact yD (yE HO_3.out BK355.out (by decide)))) _).trans (((cell_far (p := ⟨gb355, _, none⟩) (by first | exact yD (yE HO_3.out BK355.out (by decide)) | (rw [add_block]; exact yD (yE HO_3.out BK355.out (by decide))) | (show (Addr.add _ _).block ≠ _; rw [add_block]; exact yD (yE HO_3.out BK355.out (by decide))) | (dsimp only; exact yD (yE HO_3.out BK355.out (by decide)))) _).trans (hHeld.2.2.2.2.1)))), ((cell_far (p := ⟨gb355, _, none⟩) (by first | exact yD (yE HO_3.out BK355.out (by decide)) | (rw [add_block]; exact yD (yE HO_3.out BK355.out (by decide))) | (show (Addr.add _ _).block ≠ _; rw [add_block]; exact yD (yE HO_3.out BK355.out (by decide))) | (dsimp only; exact yD (yE HO_3.out BK355.out (by decide)))) _).trans (((cell_far (p := ⟨gb355, _, none⟩) (by first | exact yD (yE HO_3.out BK355.out (by decide)) | (rw [add_block]; exact yD (yE HO_3.out BK355.out (by decide))) | (show (Addr.add _ _).block ≠ _; rw [add_block]; exact yD (yE HO_3.out BK355.out (by decide))) | (dsimp only; exact yD (yE HO_3.out BK355.out (by decide)))) _).trans (hHeld.2.2.2.2.2.1)))), ((cell_far (p := ⟨gb355, _, none⟩) (by first | exact yD (yE HO_3.out BK355.out (by decide)) | (rw [add_block]; exact yD (yE HO_3.out BK355.out (by decide))) | (show (Addr.add _ _).block ≠ _; rw [add_block]; exact yD (yE HO_3.out BK355.out (by decide))) | (dsimp only; exact yD (yE HO_3.out BK355.out (by decide)))) _).trans (((cell_far (p := ⟨gb355, _, none⟩) (by first | exact yD (yE HO_3.out BK355.out (by decide)) | (rw [add_block]; exact yD (yE HO_3.out BK355.out (by decide))) | (show (Addr.add _ _).block ≠ _; rw [add_block]; exact yD (yE HO_3.out BK355.out (by decide))) | (dsimp only; exact yD (yE HO_3.out BK355.out (by decide)))) _).trans (hHeld.2.2.2.2.2.2.1)))), ((cell_far (p := ⟨gb355, _, none⟩) (by first | exact yD (yE HO_3.out BK355.out (by decide)) | (rw [add_block]; exact yD (yE HO_3.out BK355.out (by decide))) | (show (Addr.add _ _).block ≠ _; rw [add_block]; exact yD (yE HO_3.out BK355.out (by decide))) | (dsimp only; exact yD (yE HO_3.out BK355.out (by decide)))) _).trans (((cell_far (p := ⟨gb355, _, none⟩) (by first | exact yD (yE HO_3.out BK355.out (by decide)) | (rw [add_block]; exact yD (yE HO_3.out BK355.out (by decide))) | (show (Addr.add _ _).block ≠ _; rw [add_block]; exact yD (yE HO_3.out BK355.out (by decide))) | (dsimp only; exact yD (yE HO_3.out BK355.out (by decide)))) _).trans (hHeld.2.2.2.2.2.2.2.1)))), ((cell_far (p := ⟨gb355, _, none⟩) (by first | exact yD (yE HO_3.out BK355.out (by decide)) | (rw [add_block]; exact yD (yE HO_3.out BK355.out (by decide))) | (show (Addr.add _ _).block ≠ _; rw [add_block]; exact yD (yE HO_3.out BK355.out (by decide))) | (dsimp only; exact yD (yE HO_3.out BK355.out (by decide)))) _).trans (((cell_far (p := ⟨gb355, _, none⟩) (by first | exact yD (yE HO_3.out BK355.out (by decide)) | (rw [add_block]; exact yD (yE HO_3.out BK355.out (by decide))) | (show (Addr.add _ _).block ≠ _; rw [add_block]; exact yD (yE HO_3.out BK355.out (by decide))) | (dsimp only; exact yD (yE HO_3.out BK355.out (by decide)))) _).trans (hHeld.2.2.2.2.2.2.2.2.1)))), ((cell_far (p := ⟨gb355, _, none⟩) (by first | exact yD (yE HO_3.out BK355.out (by decide)) | (rw [add_block]; exact yD (yE HO_3.out BK355.out (by decide))) | (show (Addr.add _ _).block ≠ _; rw [add_block]; exact yD (yE HO_3.out BK355.out (by decide))) | (dsimp only; exact yD (yE HO_3.out BK355.out (by decide)))) _).trans (((cell_far (p := ⟨gb355, _, none⟩) (by first | exact yD (yE HO_3.out BK355.out (by decide)) | (rw [add_block]; exact yD (yE HO_3.out BK355.out (by decide))) | (show (Addr.add _ _).block ≠ _; rw [add_block]; exact yD (yE HO_3.out BK355.out (by decide))) | (dsimp only; exact yD (yE HO_3.out BK355.out (by decide)))) _).trans (hHeld.2.2.2.2.2.2.2.2.2.1)))), ((cell_far (p := ⟨gb355, _, none⟩) (by first | exact yD (yE HO_3.out BK355.out (by decide)) | (rw [add_block]; exact yD (yE HO_3.out BK355.out (by decide))) | (show (Addr.add _ _).block ≠ _; rw [add_block]; exact yD (yE HO_3.out BK355.out (by decide))) | (dsimp only; exact yD (yE HO_3.out BK355.out (by decide)))) _).trans (((cell_far (p := ⟨gb355, _, none⟩) (by first | exact yD (yE HO_3.out BK355.out (by decide)) | (rw [add_block]; exact yD (yE HO_3.out BK355.out (by decide))) | (show (Addr.add _ _).block ≠ _; rw [add_block]; exact yD (yE HO_3.out BK355.out (by decide))) | (dsimp only; exact yD (yE HO_3.out BK355.out (by decide)))) _).trans (hHeld.2.2.2.2.2.2.2.2.2.2.1)))), ((cell_far (p := ⟨gb355, _, none⟩) (by first | exact yD (yE HO_3.out BK355.out (by decide)) | (rw [add_block]; exact yD (yE HO_3.out BK355.out (by decide))) | (show (Addr.add _ _).block ≠ _; rw [add_block]; exact yD (yE HO_3.out BK355.out (by decide))) | (dsimp only; exact yD (yE HO_3.out BK355.out (by decide)))) _).trans (((cell_far (p := ⟨gb355, _, none⟩) (by first | exact yD (yE HO_3.out BK355.out (by decide)) | (rw [add_block]; exact yD (yE HO_3.out BK355.out (by decide))) | (show (Addr.add _ _).block ≠ _; rw [add_block]; exact yD (yE HO_3.out BK355.out (by decide))) | (dsimp only; exact yD (yE HO_3.out BK355.out (by decide)))) _).trans (hHeld.2.2.2.2.2.2.2.2.2.2.2))))⟩ (fun hHeld => ?_)
                  clear hK K
                  refine done_ (done_of HT_.out (by kernel_rfl)) ?_
                  have hnb97 := NB355_321.out
                  have hnc97 := NB321_355.out
                  have hnb98 := NB355_328.out
                  have hnc98 := NB328_355.out
                  have hnb99 := NB355_337.out
                  have hnc99 := NB337_355.out
                  have hnb100 := NB355_344.out
                  have hnc100 := NB344_355.out
                  have hcz101_0 : w94.cell? ⟨gb355, 0, none⟩ = some (.int .i64 0) := (yG BK355.out 0).trans rfl
                  have hcz101_1 : w94.cell? ⟨gb355, 1, none⟩ = some (.int .i64 0) := (yG BK355.out 1).trans rfl
                  have hfz101_0 := zH BK355.out 0
                  have hfz101_1 := zH BK355.out 1
                  try go_wp2
                  have n0_ : Aside0 (Kd.R k31 31 ((w94.setCell ⟨gb355, 0, none⟩ (.int .i64 t353)).setCell ⟨gb355, 1, none⟩ (.int .i64 t354)) w.heap.size (fun k_ => some k_ ≠ (.slice Ao18 t325.length co18 : Value).ownBlock ∧ some k_ ≠ (.slice Ao33 t341.length co33 : Value).ownBlock ∧ k_ ≠ gb321) (.slice (some ad351) t314.length co13) t314) := ⟨by (with_reducible repeat (first | apply za | apply zb | apply zc)); exact zr (zn (p := ⟨gb355, 1, none⟩) (zn (p := ⟨gb355, 0, none⟩) (zq HO_3.out BK355.out (by decide)) (fun _ hk => hk.2) (.int .i64 t353)) (fun _ hk => hk.2) (.int .i64 t354)) (fun _ hk => ⟨hk.1.1, ⟨hk.1.2.1, hk.1.2.2⟩⟩)⟩
                  have n1_ : Aside0 (Kd.R k31 31 ((w94.setCell ⟨gb355, 0, none⟩ (.int .i64 t353)).setCell ⟨gb355, 1, none⟩ (.int .i64 t354)) w.heap.size (fun k_ => some k_ ≠ (.slice (some ad351) t314.length co13 : Value).ownBlock ∧ some k_ ≠ (.slice Ao33 t341.length co33 : Value).ownBlock ∧ k_ ≠ gb321) (.slice Ao18 t325.length co18) t325) := ⟨by (with_reducible repeat (first | apply za | apply zb | apply zc)); exact zr (zn (p := ⟨gb355, 1, none⟩) (zn (p := ⟨gb355, 0, none⟩) (zq HO_329003.out BK355.out (by decide)) (fun _ hk => hk.2) (.int .i64 t353)) (fun _ hk => hk.2) (.int .i64 t354)) (fun _ hk => ⟨hk.1.1, ⟨hk.1.2.1, hk.1.2.2⟩⟩)⟩
                  have n2_ : Aside0 (Kd.R k31 31 ((w94.setCell ⟨gb355, 0, none⟩ (.int .i64 t353)).setCell ⟨gb355, 1, none⟩ (.int .i64 t354)) w.heap.size (fun k_ => some k_ ≠ (.slice (some ad351) t314.length co13 : Value).ownBlock ∧ some k_ ≠ (.slice Ao18 t325.length co18 : Value).ownBlock ∧ k_ ≠ gb321) (.slice Ao33 t341.length co33) t341) := ⟨by (with_reducible repeat (first | apply za | apply zb | apply zc)); exact zr (zn (p := ⟨gb355, 1, none⟩) (zn (p := ⟨gb355, 0, none⟩) (zq HO_345003.out BK355.out (by decide)) (fun _ hk => hk.2) (.int .i64 t353)) (fun _ hk => hk.2) (.int .i64 t354)) (fun _ hk => ⟨hk.1.1, ⟨hk.1.2.1, hk.1.2.2⟩⟩)⟩
                  have n3_ : Aside0 (((w94.setCell ⟨gb355, 0, none⟩ (.int .i64 t353)).setCell ⟨gb355, 1, none⟩ (.int .i64 t354)).heap[gb321]? = some (.cells #[.int .i64 t317, .int .i64 t318, .int .i64 t319, .int .i64 t320] 31 (0, 0))) := ⟨by (with_reducible repeat (first | refine zd ?_ _ | refine ze ?_ | refine zf ?_ _)); refine blk_far ?_ NB321_355.out _; (with_reducible repeat (first | refine zd ?_ _ | refine ze ?_ | refine zf ?_ _)); refine blk_far ?_ NB321_355.out _; (with_reducible repeat (first | refine zd ?_ _ | refine ze ?_ | refine zf ?_ _)); exact BK321.out⟩
                  have n4_ : Aside0 (((w94.setCell ⟨gb355, 0, none⟩ (.int .i64 t353)).setCell ⟨gb355, 1, none⟩ (.int .i64 t354)).heap[gb328]? = some (.cells #[.int .i64 t322, .int .i64 t323, .bool t324, .slice Ao18 t325.length co18] 28 (0, 0))) := ⟨by (with_reducible repeat (first | refine zd ?_ _ | refine ze ?_ | refine zf ?_ _)); refine blk_far ?_ NB328_355.out _; (with_reducible repeat (first | refine zd ?_ _ | refine ze ?_ | refine zf ?_ _)); refine blk_far ?_ NB328_355.out _; (with_reducible repeat (first | refine zd ?_ _ | refine ze ?_ | refine zf ?_ _)); exact BK328.out⟩
                  have n5_ : Aside0 (((w94.setCell ⟨gb355, 0, none⟩ (.int .i64 t353)).setCell ⟨gb355, 1, none⟩ (.int .i64 t354)).heap[gb337]? = some (.cells #[.int .i64 t335, .int .i64 t336] 41 (0, 0))) := ⟨by (with_reducible repeat (first | refine zd ?_ _ | refine ze ?_ | refine zf ?_ _)); refine blk_far ?_ NB337_355.out _; (with_reducible repeat (first | refine zd ?_ _ | refine ze ?_ | refine zf ?_ _)); refine blk_far ?_ NB337_355.out _; (with_reducible repeat (first | refine zd ?_ _ | refine ze ?_ | refine zf ?_ _)); exact BK337.out⟩
                  have n6_ : Aside0 (((w94.setCell ⟨gb355, 0, none⟩ (.int .i64 t353)).setCell ⟨gb355, 1, none⟩ (.int .i64 t354)).heap[gb344]? = some (.cells #[.int .i64 t338, .int .i64 t339, .bool t340, .slice Ao33 t341.length co33] 28 (0, 0))) := ⟨by (with_reducible repeat (first | refine zd ?_ _ | refine ze ?_ | refine zf ?_ _)); refine blk_far ?_ NB344_355.out _; (with_reducible repeat (first | refine zd ?_ _ | refine ze ?_ | refine zf ?_ _)); refine blk_far ?_ NB344_355.out _; (with_reducible repeat (first | refine zd ?_ _ | refine ze ?_ | refine zf ?_ _)); exact BK344.out⟩
                  have n7_ : Aside0 (((w94.setCell ⟨gb355, 0, none⟩ (.int .i64 t353)).setCell ⟨gb355, 1, none⟩ (.int .i64 t354)).heap[gb355]? = some (.cells #[.int .i64 t353, .int .i64 t354] 41 (0, 0))) := ⟨by (with_reducible repeat (first | refine zd ?_ _ | refine ze ?_ | refine zf ?_ _)); refine blk_put (cs := #[.int .i64 t353, .int .i64 0]) ?_ 1 _ rfl; (with_reducible repeat (first | refine zd ?_ _ | refine ze ?_ | refine zf ?_ _)); refine blk_put (cs := #[.int .i64 0, .int .i64 0]) ?_ 0 _ rfl; (with_reducible repeat (first | refine zd ?_ _ | refine ze ?_ | refine zf ?_ _)); exact BK355.out⟩
                  have n8_ : Aside0 (Below w.heap.size w ((w94.setCell ⟨gb355, 0, none⟩ (.int .i64 t353)).setCell ⟨gb355, 1, none⟩ (.int .i64 t354))) := ⟨by repeat (first | (with_reducible first | exact HB.out | apply zg | apply zh | apply zi | refine zy ?_ GE321.out | refine zy ?_ GE328.out | refine zy ?_ GE337.out | refine zy ?_ GE344.out | refine zy ?_ GE355.out) | exact HB.out)⟩
                  (try clear HO_3)
                  (try clear HO_329003)
                  (try clear HO_345003)
                  (try clear BK321)
                  (try clear BK328)
                  (try clear BK337)
                  (try clear BK344)
                  (try clear BK355)
                  (try clear HB)
                  generalize ((w94.setCell ⟨gb355, 0, none⟩ (.int .i64 t353)).setCell ⟨gb355, 1, none⟩ (.int .i64 t354)) = w102 at n0_ n1_ n2_ n3_ n4_ n5_ n6_ n7_ n8_ ⊢
                  have HO_3 := n0_
                  have HO_329003 := n1_
                  have HO_345003 := n2_
                  have BK321 := n3_
                  have BK328 := n4_
                  have BK337 := n5_
                  have BK344 := n6_
                  have BK355 := n7_
                  have HB := n8_
                  clear n0_ n1_ n2_ n3_ n4_ n5_ n6_ n7_ n8_
                  have n0_ := zm (Kd.R_drew HO_3.out)
                  have n1_ := zm (Kd.R_drew HO_329003.out)
                  have n2_ := zm (Kd.R_drew HO_345003.out)
                  have n3_ := zm (blk_drew BK321.out)
                  have n4_ := zm (blk_drew BK328.out)
                  have n5_ := zm (blk_drew BK337.out)
                  have n6_ := zm (blk_drew BK344.out)
                  have n7_ := zm (blk_drew BK355.out)
                  have n8_ := zm (below_drew1 HB.out)
                  clear HO_3
                  clear HO_329003
                  clear HO_345003
                  clear BK321
                  clear BK328
                  clear BK337
                  clear BK344
                  clear BK355
                  clear HB
                  have HO_3 := n0_
                  have HO_329003 := n1_
                  have HO_345003 := n2_
                  have BK321 := n3_
                  have BK328 := n4_
                  have BK337 := n5_
                  have BK344 := n6_
                  have BK355 := n7_
                  have HB := n8_
                  clear n0_ n1_ n2_ n3_ n4_ n5_ n6_ n7_ n8_
                  have p356 : 0 ≤ (t354 : Int) := of_decide_eq_true (by first | (with_reducible assumption) | assumption)
                  have q356 : t354 < (t325.length : Int) := of_decide_eq_true (by first | (with_reducible assumption) | assumption)
                  obtain ⟨ad356, e356, hx356_0, hx356_1, hx356_2, hx356_3⟩ := at_T31 (zF HO_329003.out).2.2 t354 p356 q356
                  cases e356
                  replace p356 := eq_true p356
                  replace q356 := eq_true q356
                  have p357 : 0 ≤ (x9_2 : Int) := of_decide_eq_true (by first | (with_reducible assumption) | assumption)
                  have q357 : x9_2 < (t314.length : Int) := of_decide_eq_true (by first | (with_reducible assumption) | assumption)
                  obtain ⟨ad357, e357, hx357_0, hx357_1, hx357_2, hx357_3⟩ := at_T31 (zF HO_3.out).2.2 x9_2 p357 q357
                  obtain rfl : ad351 = ad357 := (by injection e357)
                  replace p357 := eq_true p357
                  replace q357 := eq_true q357
                  refine start_ (n := 11) (S := fun w' => w'.cell? ⟨gb328, 0, none⟩ = some (.int .i64 t322) ∧ w'.cell? ⟨gb328, 1, none⟩ = some (.int .i64 t323) ∧ w'.cell? ⟨gb328, 2, none⟩ = some (.bool t324) ∧ w'.cell? ⟨gb328, 3, none⟩ = some (.slice (some ad356) t325.length co18) ∧ w'.cell? ⟨gb355, 0, none⟩ = some (.int .i64 t353) ∧ w'.cell? ⟨gb355, 1, none⟩ = some (.int .i64 t354) ∧ w'.cell? (ad356.add ((t354).toNat * 4)) = some (.int .i64 ((rd_T31 t325 t354).f0)) ∧ w'.cell? ⟨(ad356.add ((t354).toNat * 4)).block, (ad356.add ((t354).toNat * 4)).off + 1, none⟩ = some (.int .i64 ((rd_T31 t325 t354).f1)) ∧ w'.cell? ⟨(ad356.add ((t354).toNat * 4)).block, (ad356.add ((t354).toNat * 4)).off + 2, none⟩ = some (.int .i64 ((rd_T31 t325 t354).f2)) ∧ w'.cell? ⟨(ad356.add ((t354).toNat * 4)).block, (ad356.add ((t354).toNat * 4)).off + 3, none⟩ = some (.int .i64 ((rd_T31 t325 t354).f3)) ∧ w'.cell? (ad351.add ((x9_2).toNat * 4)) = some (.int .i64 ((rd_T31 t314 x9_2).f0)) ∧ w'.cell? ⟨(ad351.add ((x9_2).toNat * 4)).block, (ad351.add ((x9_2).toNat * 4)).off + 1, none⟩ = some (.int .i64 ((rd_T31 t314 x9_2).f1)) ∧ w'.cell? ⟨(ad351.add ((x9_2).toNat * 4)).block, (ad351.add ((x9_2).toNat * 4)).off + 2, none⟩ = some (.int .i64 ((rd_T31 t314 x9_2).f2)) ∧ w'.cell? ⟨(ad351.add ((x9_2).toNat * 4)).block, (ad351.add ((x9_2).toNat * 4)).off + 3, none⟩ = some (.int .i64 ((rd_T31 t314 x9_2).f3))) (ds := []) #[false, false, false, false, false, false, false, false, false, false, false] (by kernel_rfl) rfl rfl ⟨(yG BK328.out 0).trans rfl, (yG BK328.out 1).trans rfl, (yG BK328.out 2).trans rfl, (yG BK328.out 3).trans rfl, (yG BK355.out 0).trans rfl, (yG BK355.out 1).trans rfl, hx356_0, hx356_1, hx356_2, hx356_3, hx357_0, hx357_1, hx357_2, hx357_3⟩ (fun hHeld => ?_); refine with_tabW laws_FnFills.tab19 laws_FnFills.bits19 (fun HT_ HW_ => ?_)
                  generalize w102.drew = w103 at HO_3 HO_329003 HO_345003 BK321 BK328 BK337 BK344 BK355 HB hx356_0 hx356_1 hx356_2 hx356_3 hx357_0 hx357_1 hx357_2 hx357_3 hHeld ⊢
                  refine pure_ (i := 0) (N := some 128) (v := ?_) (a' := ?_) #[true, false, false, false, false, false, false, false, false, false, false] rfl rfl (any_of HT_.out (by kernel_rfl)) (fun _ _ _ h => h) (Or.inl ⟨by rfl, ?_⟩) ?_ ?_; rotate_left; (intro w'; go_simp; with_reducible rfl); rotate_left; (simp only [Act.put, yA, yB, yC, i64_w, i32_w]; rfl)
                  refine pure_ (i := 2) (N := some 130) (v := ?_) (a' := ?_) #[true, false, true, false, false, false, false, false, false, false, false] rfl rfl (any_of HT_.out (by kernel_rfl)) (fun _ _ _ h => h) (Or.inl ⟨by rfl, ?_⟩) ?_ ?_; rotate_left; (intro w'; go_simp; with_reducible rfl); rotate_left; (simp only [Act.put, yA, yB, yC, i64_w, i32_w]; rfl)
                  refine pure_ (i := 6) (N := some 134) (v := ?_) (a' := ?_) #[true, false, true, false, false, false, true, false, false, false, false] rfl rfl (any_of HT_.out (by kernel_rfl)) (fun _ _ _ h => h) (Or.inl ⟨by rfl, ?_⟩) ?_ ?_; rotate_left; (intro w'; go_simp; with_reducible rfl); rotate_left; (simp only [Act.put, yA, yB, yC, i64_w, i32_w]; rfl)
                  refine pure_ (i := 7) (N := some 135) (v := ?_) (a' := ?_) #[true, false, true, false, false, false, true, true, false, false, false] rfl rfl (any_of HT_.out (by kernel_rfl)) (fun _ _ _ h => h) (Or.inl ⟨by rfl, ?_⟩) ?_ ?_; rotate_left; (intro w'; go_simp; with_reducible rfl); rotate_left; (simp only [Act.put, yA, yB, yC, i64_w, i32_w]; rfl)
                  refine pure_ (i := 8) (N := some 136) (v := ?_) (a' := ?_) #[true, false, true, false, false, false, true, true, true, false, false] rfl rfl (any_of HT_.out (by kernel_rfl)) (fun _ _ _ h => h) (Or.inl ⟨by rfl, ?_⟩) ?_ ?_; rotate_left; (intro w'; go_simp; with_reducible rfl); rotate_left; (simp only [Act.put, yA, yB, yC, i64_w, i32_w]; rfl)
                  refine take_ (i := 1) (N := some 129) (v := ?_) (a' := ?_) #[true, true, true, false, false, false, true, true, true, false, false] rfl rfl (take_ofW HT_.out HW_.out (by kernel_rfl)) (fun _ _ _ h => h) (Or.inl ⟨by rfl, ?_⟩) hHeld ?_ ?_; rotate_left; (rintro w' ⟨s0, s1, s2, s3, s4, s5, s6, s7, s8, s9, s10, s11, s12, s13⟩; go_simp; with_reducible rfl); rotate_left; (simp only [Act.put, yA, yB, yC, i64_w, i32_w]; rfl)
                  refine take_ (i := 3) (N := some 131) (v := ?_) (a' := ?_) #[true, true, true, true, false, false, true, true, true, false, false] rfl rfl (take_ofW HT_.out HW_.out (by kernel_rfl)) (fun _ _ _ h => h) (Or.inl ⟨by rfl, ?_⟩) hHeld ?_ ?_; rotate_left; (rintro w' ⟨s0, s1, s2, s3, s4, s5, s6, s7, s8, s9, s10, s11, s12, s13⟩; go_simp; with_reducible rfl); rotate_left; (simp only [Act.put, yA, yB, yC, i64_w, i32_w]; rfl)
                  refine pure_ (i := 4) (N := some 132) (v := ?_) (a' := ?_) #[true, true, true, true, true, false, true, true, true, false, false] rfl rfl (any_of HT_.out (by kernel_rfl)) (fun _ _ _ h => h) (Or.inl ⟨by rfl, ?_⟩) ?_ ?_; rotate_left; (intro w'; go_simp; with_reducible rfl); rotate_left; (simp only [Act.put, yA, yB, yC, i64_w, i32_w]; rfl)
                  refine take_ (i := 5) (N := some 133) (v := ?_) (a' := ?_) #[true, true, true, true, true, true, true, true, true, false, false] rfl rfl (take_ofW HT_.out HW_.out (by kernel_rfl)) (fun _ _ _ h => h) (Or.inl ⟨by rfl, ?_⟩) hHeld ?_ ?_; rotate_left; (rintro w' ⟨s0, s1, s2, s3, s4, s5, s6, s7, s8, s9, s10, s11, s12, s13⟩; go_simp; with_reducible rfl); rotate_left; (simp only [Act.put, yA, yB, yC, i64_w, i32_w]; rfl)
                  refine take_ (i := 9) (N := some 137) (v := ?_) (a' := ?_) #[true, true, true, true, true, true, true, true, true, true, false] rfl rfl (take_ofW HT_.out HW_.out (by kernel_rfl)) (fun _ _ _ h => h) (Or.inl ⟨by rfl, ?_⟩) hHeld ?_ ?_; rotate_left; (rintro w' ⟨s0, s1, s2, s3, s4, s5, s6, s7, s8, s9, s10, s11, s12, s13⟩; go_simp; with_reducible rfl); rotate_left; (simp only [Act.put, yA, yB, yC, i64_w, i32_w]; rfl)
                  refine pure_ (i := 10) (N := some 138) (v := ?_) (a' := ?_) #[true, true, true, true, true, true, true, true, true, true, true] rfl rfl (any_of HT_.out (by kernel_rfl)) (fun _ _ _ h => h) (Or.inl ⟨by rfl, ?_⟩) ?_ ?_; rotate_left; (intro w'; go_simp; with_reducible rfl); rotate_left; (simp only [Act.put, yA, yB, yC, i64_w, i32_w]; rfl)
                  refine done_ (done_of HT_.out (by kernel_rfl)) ?_
                  try go_wp2
                  go_roundg kj64
                  case measure => have := HJ8.out; have := HK2.out; have := HJ64.out; omega
                  case rel => exact ⟨(x8_2), (wrap64 (x9_2 + 1)), (by first | rfl | (simp; done) | (simp [*]; done)), (by first | rfl | (simp; done) | (simp [*]; done)), H', ⟨by have := HJ8.out; have := HK2.out; have := HJ64.out; omega⟩, ⟨by (with_reducible repeat (first | apply za | apply zb | apply zc)); exact HO_3.out⟩, ⟨by (with_reducible repeat (first | apply za | apply zb | apply zc)); exact HO_329003.out⟩, ⟨by (with_reducible repeat (first | apply za | apply zb | apply zc)); exact HO_345003.out⟩, ⟨by (with_reducible repeat (first | refine zd ?_ _ | refine ze ?_ | refine zf ?_ _)); exact BK321.out⟩, ⟨by (with_reducible repeat (first | refine zd ?_ _ | refine ze ?_ | refine zf ?_ _)); exact BK328.out⟩, ⟨by (with_reducible repeat (first | refine zd ?_ _ | refine ze ?_ | refine zf ?_ _)); exact BK337.out⟩, ⟨by (with_reducible repeat (first | refine zd ?_ _ | refine ze ?_ | refine zf ?_ _)); exact BK344.out⟩, ⟨by repeat (first | (with_reducible first | exact HB.out | apply zg | apply zh | apply zi | refine zy ?_ GE321.out | refine zy ?_ GE328.out | refine zy ?_ GE337.out | refine zy ?_ GE344.out | refine zy ?_ GE355.out) | exact HB.out)⟩⟩
                ·rw [if_neg c76] at H
                 exact absurd H (by simp)
               ·rw [if_neg c75] at H
                exact absurd H (by simp)
              ·rw [if_neg c74] at H
               have c74b0 : (t353 == 0) = false := beq_eq_false_iff_ne.mpr c74
               have c74b1 : (t353 != 0) = true := bne_iff_ne.mpr c74
               have H' := zm H
               clear H
               try go_wp2
               have n0_ := zm (Kd.R_drew HO_3.out)
               have n1_ := zm (Kd.R_drew HO_329003.out)
               have n2_ := zm (Kd.R_drew HO_345003.out)
               have n3_ := zm (blk_drew BK321.out)
               have n4_ := zm (blk_drew BK328.out)
               have n5_ := zm (blk_drew BK337.out)
               have n6_ := zm (blk_drew BK344.out)
               have n7_ := zm (below_drew1 HB.out)
               clear HO_3
               clear HO_329003
               clear HO_345003
               clear BK321
               clear BK328
               clear BK337
               clear BK344
               clear HB
               have HO_3 := n0_
               have HO_329003 := n1_
               have HO_345003 := n2_
               have BK321 := n3_
               have BK328 := n4_
               have BK337 := n5_
               have BK344 := n6_
               have HB := n7_
               clear n0_ n1_ n2_ n3_ n4_ n5_ n6_ n7_
               have p351 : 0 ≤ (x9_2 : Int) := of_decide_eq_true (by first | (with_reducible assumption) | assumption)
               have q351 : x9_2 < (t314.length : Int) := of_decide_eq_true (by first | (with_reducible assumption) | assumption)
               obtain ⟨ad351, e351, hx351_0, hx351_1, hx351_2, hx351_3⟩ := at_T31 (zF HO_3.out).2.2 x9_2 p351 q351
               cases e351
               replace p351 := eq_true p351
               replace q351 := eq_true q351
               have p352 : 0 ≤ (x9_2 : Int) := of_decide_eq_true (by first | (with_reducible assumption) | assumption)
               have q352 : x9_2 < (t314.length : Int) := of_decide_eq_true (by first | (with_reducible assumption) | assumption)
               obtain ⟨ad352, e352, hx352_0, hx352_1, hx352_2, hx352_3⟩ := at_T31 (zF HO_3.out).2.2 x9_2 p352 q352
               obtain rfl : ad351 = ad352 := (by injection e352)
               replace p352 := eq_true p352
               replace q352 := eq_true q352
               refine start_ (n := 15) (S := fun w' => w'.cell? ⟨gb328, 0, none⟩ = some (.int .i64 t322) ∧ w'.cell? ⟨gb328, 1, none⟩ = some (.int .i64 t323) ∧ w'.cell? ⟨gb328, 2, none⟩ = some (.bool t324) ∧ w'.cell? ⟨gb328, 3, none⟩ = some (.slice Ao18 t325.length co18) ∧ w'.cell? (ad351.add ((x9_2).toNat * 4)) = some (.int .i64 ((rd_T31 t314 x9_2).f0)) ∧ w'.cell? ⟨(ad351.add ((x9_2).toNat * 4)).block, (ad351.add ((x9_2).toNat * 4)).off + 1, none⟩ = some (.int .i64 ((rd_T31 t314 x9_2).f1)) ∧ w'.cell? ⟨(ad351.add ((x9_2).toNat * 4)).block, (ad351.add ((x9_2).toNat * 4)).off + 2, none⟩ = some (.int .i64 ((rd_T31 t314 x9_2).f2)) ∧ w'.cell? ⟨(ad351.add ((x9_2).toNat * 4)).block, (ad351.add ((x9_2).toNat * 4)).off + 3, none⟩ = some (.int .i64 ((rd_T31 t314 x9_2).f3)) ∧ w'.cell? (ad351.add ((x9_2).toNat * 4)) = some (.int .i64 ((rd_T31 t314 x9_2).f0)) ∧ w'.cell? ⟨(ad351.add ((x9_2).toNat * 4)).block, (ad351.add ((x9_2).toNat * 4)).off + 1, none⟩ = some (.int .i64 ((rd_T31 t314 x9_2).f1)) ∧ w'.cell? ⟨(ad351.add ((x9_2).toNat * 4)).block, (ad351.add ((x9_2).toNat * 4)).off + 2, none⟩ = some (.int .i64 ((rd_T31 t314 x9_2).f2)) ∧ w'.cell? ⟨(ad351.add ((x9_2).toNat * 4)).block, (ad351.add ((x9_2).toNat * 4)).off + 3, none⟩ = some (.int .i64 ((rd_T31 t314 x9_2).f3))) (ds := []) #[false, false, false, false, false, false, false, false, false, false, false, false, false, false, false] (by kernel_rfl) rfl rfl ⟨(yG BK328.out 0).trans rfl, (yG BK328.out 1).trans rfl, (yG BK328.out 2).trans rfl, (yG BK328.out 3).trans rfl, hx351_0, hx351_1, hx351_2, hx351_3, hx352_0, hx352_1, hx352_2, hx352_3⟩ (fun hHeld => ?_); refine with_tabW laws_FnFills.tab16 laws_FnFills.bits16 (fun HT_ HW_ => ?_)
               generalize wc.drew = w104 at HO_3 HO_329003 HO_345003 BK321 BK328 BK337 BK344 HB hx351_0 hx351_1 hx351_2 hx351_3 hx352_0 hx352_1 hx352_2 hx352_3 hHeld ⊢
               refine pure_ (i := 0) (N := some 110) (v := ?_) (a' := ?_) #[true, false, false, false, false, false, false, false, false, false, false, false, false, false, false] rfl rfl (any_of HT_.out (by kernel_rfl)) (fun _ _ _ h => h) (Or.inl ⟨by rfl, ?_⟩) ?_ ?_; rotate_left; (intro w'; go_simp; with_reducible rfl); rotate_left; (simp only [Act.put, yA, yB, yC, i64_w, i32_w]; rfl)
               refine pure_ (i := 2) (N := some 112) (v := ?_) (a' := ?_) #[true, false, true, false, false, false, false, false, false, false, false, false, false, false, false] rfl rfl (any_of HT_.out (by kernel_rfl)) (fun _ _ _ h => h) (Or.inl ⟨by rfl, ?_⟩) ?_ ?_; rotate_left; (intro w'; go_simp; with_reducible rfl); rotate_left; (simp only [Act.put, yA, yB, yC, i64_w, i32_w]; rfl)
               refine pure_ (i := 3) (N := some 113) (v := ?_) (a' := ?_) #[true, false, true, true, false, false, false, false, false, false, false, false, false, false, false] rfl rfl (any_of HT_.out (by kernel_rfl)) (fun _ _ _ h => h) (Or.inl ⟨by rfl, ?_⟩) ?_ ?_; rotate_left; (intro w'; go_simp; with_reducible rfl); rotate_left; (simp only [Act.put, yA, yB, yC, i64_w, i32_w]; rfl)
               refine pure_ (i := 4) (N := some 114) (v := ?_) (a' := ?_) #[true, false, true, true, true, false, false, false, false, false, false, false, false, false, false] rfl rfl (any_of HT_.out (by kernel_rfl)) (fun _ _ _ h => h) (Or.inl ⟨by rfl, ?_⟩) ?_ ?_; rotate_left; (intro w'; go_simp; with_reducible rfl); rotate_left; (simp only [Act.put, yA, yB, yC, i64_w, i32_w]; rfl)
               refine pure_ (i := 5) (N := some 115) (v := ?_) (a' := ?_) #[true, false, true, true, true, true, false, false, false, false, false, false, false, false, false] rfl rfl (any_of HT_.out (by kernel_rfl)) (fun _ _ _ h => h) (Or.inl ⟨by rfl, ?_⟩) ?_ ?_; rotate_left; (intro w'; go_simp; with_reducible rfl); rotate_left; (simp only [Act.put, yA, yB, yC, i64_w, i32_w]; rfl)
               refine pure_ (i := 7) (N := some 117) (v := ?_) (a' := ?_) #[true, false, true, true, true, true, false, true, false, false, false, false, false, false, false] rfl rfl (any_of HT_.out (by kernel_rfl)) (fun _ _ _ h => h) (Or.inl ⟨by rfl, ?_⟩) ?_ ?_; rotate_left; (intro w'; go_simp; with_reducible rfl); rotate_left; (simp only [Act.put, yA, yB, yC, i64_w, i32_w]; rfl)
               refine pure_ (i := 8) (N := some 118) (v := ?_) (a' := ?_) #[true, false, true, true, true, true, false, true, true, false, false, false, false, false, false] rfl rfl (any_of HT_.out (by kernel_rfl)) (fun _ _ _ h => h) (Or.inl ⟨by rfl, ?_⟩) ?_ ?_; rotate_left; (intro w'; go_simp; with_reducible rfl); rotate_left; (simp only [Act.put, yA, yB, yC, i64_w, i32_w]; rfl)
               refine pure_ (i := 9) (N := some 119) (v := ?_) (a' := ?_) #[true, false, true, true, true, true, false, true, true, true, false, false, false, false, false] rfl rfl (any_of HT_.out (by kernel_rfl)) (fun _ _ _ h => h) (Or.inl ⟨by rfl, ?_⟩) ?_ ?_; rotate_left; (intro w'; go_simp; with_reducible rfl); rotate_left; (simp only [Act.put, yA, yB, yC, i64_w, i32_w]; rfl)
               refine pure_ (i := 10) (N := some 120) (v := ?_) (a' := ?_) #[true, false, true, true, true, true, false, true, true, true, true, false, false, false, false] rfl rfl (any_of HT_.out (by kernel_rfl)) (fun _ _ _ h => h) (Or.inl ⟨by rfl, ?_⟩) ?_ ?_; rotate_left; (intro w'; go_simp; with_reducible rfl); rotate_left; (simp only [Act.put, yA, yB, yC, i64_w, i32_w]; rfl)
               refine take_ (i := 1) (N := some 111) (v := ?_) (a' := ?_) #[true, true, true, true, true, true, false, true, true, true, true, false, false, false, false] rfl rfl (take_ofW HT_.out HW_.out (by kernel_rfl)) (fun _ _ _ h => h) (Or.inl ⟨by rfl, ?_⟩) hHeld ?_ ?_; rotate_left; (rintro w' ⟨s0, s1, s2, s3, s4, s5, s6, s7, s8, s9, s10, s11⟩; go_simp; with_reducible rfl); rotate_left; (simp only [Act.put, yA, yB, yC, i64_w, i32_w]; rfl)
               refine take_ (i := 6) (N := some 116) (v := ?_) (a' := ?_) #[true, true, true, true, true, true, true, true, true, true, true, false, false, false, false] rfl rfl (take_ofW HT_.out HW_.out (by kernel_rfl)) (fun _ _ _ h => h) (Or.inl ⟨by rfl, ?_⟩) hHeld ?_ ?_; rotate_left; (rintro w' ⟨s0, s1, s2, s3, s4, s5, s6, s7, s8, s9, s10, s11⟩; go_simp; with_reducible rfl); rotate_left; (simp only [Act.put, yA, yB, yC, i64_w, i32_w]; rfl)
               refine take_ (i := 11) (N := some 121) (v := ?_) (a' := ?_) #[true, true, true, true, true, true, true, true, true, true, true, true, false, false, false] rfl rfl (take_ofW HT_.out HW_.out (by kernel_rfl)) (fun _ _ _ h => h) (Or.inl ⟨by rfl, ?_⟩) hHeld ?_ ?_; rotate_left; (rintro w' ⟨s0, s1, s2, s3, s4, s5, s6, s7, s8, s9, s10, s11⟩; go_simp; with_reducible rfl); rotate_left; (simp only [Act.put, yA, yB, yC, i64_w, i32_w]; rfl)
               refine join_ (σ := Nat) 1 #[true, true, true, true, true, true, true, true, true, true, true, true, true, true, false] (fun s_ => [(122, .agg #[.int .i64 t353, .int .i64 t354]), (10, .pointer (some ⟨s_, 0, none⟩))]) (fun s_ w' => (w'.cell? ⟨gb328, 0, none⟩ = some (.int .i64 t322) ∧ w'.cell? ⟨gb328, 1, none⟩ = some (.int .i64 t323) ∧ w'.cell? ⟨gb328, 2, none⟩ = some (.bool t324) ∧ w'.cell? ⟨gb328, 3, none⟩ = some (.slice Ao18 t325.length co18) ∧ w'.cell? (ad351.add ((x9_2).toNat * 4)) = some (.int .i64 ((rd_T31 t314 x9_2).f0)) ∧ w'.cell? ⟨(ad351.add ((x9_2).toNat * 4)).block, (ad351.add ((x9_2).toNat * 4)).off + 1, none⟩ = some (.int .i64 ((rd_T31 t314 x9_2).f1)) ∧ w'.cell? ⟨(ad351.add ((x9_2).toNat * 4)).block, (ad351.add ((x9_2).toNat * 4)).off + 2, none⟩ = some (.int .i64 ((rd_T31 t314 x9_2).f2)) ∧ w'.cell? ⟨(ad351.add ((x9_2).toNat * 4)).block, (ad351.add ((x9_2).toNat * 4)).off + 3, none⟩ = some (.int .i64 ((rd_T31 t314 x9_2).f3)) ∧ w'.cell? (ad351.add ((x9_2).toNat * 4)) = some (.int .i64 ((rd_T31 t314 x9_2).f0)) ∧ w'.cell? ⟨(ad351.add ((x9_2).toNat * 4)).block, (ad351.add ((x9_2).toNat * 4)).off + 1, none⟩ = some (.int .i64 ((rd_T31 t314 x9_2).f1)) ∧ w'.cell? ⟨(ad351.add ((x9_2).toNat * 4)).block, (ad351.add ((x9_2).toNat * 4)).off + 2, none⟩ = some (.int .i64 ((rd_T31 t314 x9_2).f2)) ∧ w'.cell? ⟨(ad351.add ((x9_2).toNat * 4)).block, (ad351.add ((x9_2).toNat * 4)).off + 3, none⟩ = some (.int .i64 ((rd_T31 t314 x9_2).f3))) ∧ (Kd.R k31 31 w' w.heap.size (fun k_ => some k_ ≠ (.slice Ao18 t325.length co18 : Value).ownBlock ∧ some k_ ≠ (.slice Ao33 t341.length co33 : Value).ownBlock ∧ k_ ≠ gb321) (.slice (some ad351) t314.length co13) t314) ∧ (Kd.R k31 31 w' w.heap.size (fun k_ => some k_ ≠ (.slice (some ad351) t314.length co13 : Value).ownBlock ∧ some k_ ≠ (.slice Ao33 t341.length co33 : Value).ownBlock ∧ k_ ≠ gb321) (.slice Ao18 t325.length co18) t325) ∧ (Kd.R k31 31 w' w.heap.size (fun k_ => some k_ ≠ (.slice (some ad351) t314.length co13 : Value).ownBlock ∧ some k_ ≠ (.slice Ao18 t325.length co18 : Value).ownBlock ∧ k_ ≠ gb321) (.slice Ao33 t341.length co33) t341) ∧ (w'.heap[gb321]? = some (.cells #[.int .i64 t317, .int .i64 t318, .int .i64 t319, .int .i64 t320] 31 (0, 0))) ∧ (w'.heap[gb328]? = some (.cells #[.int .i64 t322, .int .i64 t323, .bool t324, .slice Ao18 t325.length co18] 28 (0, 0))) ∧ (w'.heap[gb337]? = some (.cells #[.int .i64 t335, .int .i64 t336] 41 (0, 0))) ∧ (w'.heap[gb344]? = some (.cells #[.int .i64 t338, .int .i64 t339, .bool t340, .slice Ao33 t341.length co33] 28 (0, 0))) ∧ (w'.heap[s_]? = some (.cells #[.int .i64 0, .int .i64 0] 41 (0, 0))) ∧ (w.heap.size ≤ s_) ∧ (w.heap.size ≤ s_) ∧ (gb321 ≠ s_) ∧ (s_ ≠ gb321) ∧ (gb328 ≠ s_) ∧ (s_ ≠ gb328) ∧ (gb337 ≠ s_) ∧ (s_ ≠ gb337) ∧ (gb344 ≠ s_) ∧ (s_ ≠ gb344) ∧ (Below w.heap.size w w')) ?_ ?_
               rotate_left
               ·intro hCont
                refine two_ (i := 12) (j := 13) (Ni := some 122) (Nj := some 10) #[true, true, true, true, true, true, true, true, true, true, true, true, true, false, false] #[true, true, true, true, true, true, true, true, true, true, true, true, false, true, false] rfl rfl rfl rfl (two_of HT_.out (by kernel_rfl)) (by decide) (by decide) (fun K hK => ?_) (fun K hK => ?_)
                ·skip
                 refine goes_ Try.func22 (by kernel_rfl) rfl #[.slice Ao18 t325.length co18, .int .i64 ((rd_T31 t314 x9_2).f0), .int .i64 ((rd_T31 t314 x9_2).f1)] (by rfl) rfl rfl (by (try simp only [zA, zB, zC]); first | done | rfl | (simp only [zE, zD]; rfl)) ?_
                 with_reducible refine (impl_FindHit.calls kj64 _ _ t325 ((rd_T31 t314 x9_2).f0) ((rd_T31 t314 x9_2).f1) t353 t354 _ ?side1 ?side2 A73.out).mono ?_
                 (case side1 => repeat (first | exact (zF HO_329003.out).2.2 | (with_reducible first | refine zj ?_ _ | refine zk ?_ _ | refine zl ?_)))
                 (case side2 => exact (zF HO_329003.out).2.1)
                 rintro e w105 ⟨rfl, hb⟩
                 have HS4_ := (hb.cell (yF _ _ (hHeld.2.2.2.2.1))).trans (hHeld.2.2.2.2.1)
                 have HS5_ := (hb.cell (yF _ _ (hHeld.2.2.2.2.2.1))).trans (hHeld.2.2.2.2.2.1)
                 have HS6_ := (hb.cell (yF _ _ (hHeld.2.2.2.2.2.2.1))).trans (hHeld.2.2.2.2.2.2.1)
                 have HS7_ := (hb.cell (yF _ _ (hHeld.2.2.2.2.2.2.2.1))).trans (hHeld.2.2.2.2.2.2.2.1)
                 have HS8_ := (hb.cell (yF _ _ (hHeld.2.2.2.2.2.2.2.2.1))).trans (hHeld.2.2.2.2.2.2.2.2.1)
                 have HS9_ := (hb.cell (yF _ _ (hHeld.2.2.2.2.2.2.2.2.2.1))).trans (hHeld.2.2.2.2.2.2.2.2.2.1)
                 have HS10_ := (hb.cell (yF _ _ (hHeld.2.2.2.2.2.2.2.2.2.2.1))).trans (hHeld.2.2.2.2.2.2.2.2.2.2.1)
                 have HS11_ := (hb.cell (yF _ _ (hHeld.2.2.2.2.2.2.2.2.2.2.2))).trans (hHeld.2.2.2.2.2.2.2.2.2.2.2)
                 refine ⟨_, rfl, ?_⟩
                 have n0_ := zm (zp (by (with_reducible repeat (first | apply za | apply zb | apply zc)); exact HO_3.out) hb)
                 have n1_ := zm (zp (by (with_reducible repeat (first | apply za | apply zb | apply zc)); exact HO_329003.out) hb)
                 have n2_ := zm (zp (by (with_reducible repeat (first | apply za | apply zb | apply zc)); exact HO_345003.out) hb)
                 have n3_ := zm (zu (g := gb321) (o := .cells #[.int .i64 t317, .int .i64 t318, .int .i64 t319, .int .i64 t320] 31 (0, 0)) (by (with_reducible repeat (first | refine zd ?_ _ | refine ze ?_ | refine zf ?_ _)); exact BK321.out) hb)
                 have n4_ := zm (zu (g := gb328) (o := .cells #[.int .i64 t322, .int .i64 t323, .bool t324, .slice Ao18 t325.length co18] 28 (0, 0)) (by (with_reducible repeat (first | refine zd ?_ _ | refine ze ?_ | refine zf ?_ _)); exact BK328.out) hb)
                 have n5_ := zm (zu (g := gb337) (o := .cells #[.int .i64 t335, .int .i64 t336] 41 (0, 0)) (by (with_reducible repeat (first | refine zd ?_ _ | refine ze ?_ | refine zf ?_ _)); exact BK337.out) hb)
                 have n6_ := zm (zu (g := gb344) (o := .cells #[.int .i64 t338, .int .i64 t339, .bool t340, .slice Ao33 t341.length co33] 28 (0, 0)) (by (with_reducible repeat (first | refine zd ?_ _ | refine ze ?_ | refine zf ?_ _)); exact BK344.out) hb)
                 have n7_ := zm (zw (by repeat (first | (with_reducible first | exact HB.out | apply zg | apply zh | apply zi | refine zy ?_ GE321.out | refine zy ?_ GE328.out | refine zy ?_ GE337.out | refine zy ?_ GE344.out) | exact HB.out)) hb)
                 clear HO_3
                 clear HO_329003
                 clear HO_345003
                 clear BK321
                 clear BK328
                 clear BK337
                 clear BK344
                 clear HB
                 have HO_3 := n0_
                 have HO_329003 := n1_
                 have HO_345003 := n2_
                 have BK321 := n3_
                 have BK328 := n4_
                 have BK337 := n5_
                 have BK344 := n6_
                 have HB := n7_
                 clear n0_ n1_ n2_ n3_ n4_ n5_ n6_ n7_
                 (try clear hb)
                 (try clear hb2)
                 (try clear hk)
                 (try clear hi)
                 refine hK.out _ _ ⟨(yG BK328.out 0).trans rfl, (yG BK328.out 1).trans rfl, (yG BK328.out 2).trans rfl, (yG BK328.out 3).trans rfl, HS4_, HS5_, HS6_, HS7_, HS8_, HS9_, HS10_, HS11_⟩ (fun hHeld => ?_)
                 clear hK K
                 refine norm_ (a' := ?_) ?_ ?_; rotate_left; (show Act.put _ (some 122) _ = _; simp only [Act.put, yA, yB, yC, i64_w, i32_w]; rfl)
                 refine one_ (i := 13) (N := some 10) #[true, true, true, true, true, true, true, true, true, true, true, true, true, true, false] rfl rfl (one_of HT_.out (by kernel_rfl)) (by decide) (fun K hK => ?_)
                 refine box_step ?hg (N := 10) ?hd (cs := #[.int .i64 0, .int .i64 0]) (t := 41) ?hr ?_; (case hd => rfl); (case hg => rfl); (case hr => first | (go_simp; done) | (go_simp; rfl))
                 intro gb355 hg w106 hbox hb
                 have HS4_ := (hb.cell (yF _ _ (hHeld.2.2.2.2.1))).trans (hHeld.2.2.2.2.1)
                 have HS5_ := (hb.cell (yF _ _ (hHeld.2.2.2.2.2.1))).trans (hHeld.2.2.2.2.2.1)
                 have HS6_ := (hb.cell (yF _ _ (hHeld.2.2.2.2.2.2.1))).trans (hHeld.2.2.2.2.2.2.1)
                 have HS7_ := (hb.cell (yF _ _ (hHeld.2.2.2.2.2.2.2.1))).trans (hHeld.2.2.2.2.2.2.2.1)
                 have HS8_ := (hb.cell (yF _ _ (hHeld.2.2.2.2.2.2.2.2.1))).trans (hHeld.2.2.2.2.2.2.2.2.1)
                 have HS9_ := (hb.cell (yF _ _ (hHeld.2.2.2.2.2.2.2.2.2.1))).trans (hHeld.2.2.2.2.2.2.2.2.2.1)
                 have HS10_ := (hb.cell (yF _ _ (hHeld.2.2.2.2.2.2.2.2.2.2.1))).trans (hHeld.2.2.2.2.2.2.2.2.2.2.1)
                 have HS11_ := (hb.cell (yF _ _ (hHeld.2.2.2.2.2.2.2.2.2.2.2))).trans (hHeld.2.2.2.2.2.2.2.2.2.2.2)
                 have n0_ := zm (zp (by (with_reducible repeat (first | apply za | apply zb | apply zc)); exact HO_3.out) hb)
                 have n1_ := zm (zp (by (with_reducible repeat (first | apply za | apply zb | apply zc)); exact HO_329003.out) hb)
                 have n2_ := zm (zp (by (with_reducible repeat (first | apply za | apply zb | apply zc)); exact HO_345003.out) hb)
                 have n3_ := zm (zu (g := gb321) (o := .cells #[.int .i64 t317, .int .i64 t318, .int .i64 t319, .int .i64 t320] 31 (0, 0)) (by (with_reducible repeat (first | refine zd ?_ _ | refine ze ?_ | refine zf ?_ _)); exact BK321.out) hb)
                 have n4_ := zm (zu (g := gb328) (o := .cells #[.int .i64 t322, .int .i64 t323, .bool t324, .slice Ao18 t325.length co18] 28 (0, 0)) (by (with_reducible repeat (first | refine zd ?_ _ | refine ze ?_ | refine zf ?_ _)); exact BK328.out) hb)
                 have n5_ := zm (zu (g := gb337) (o := .cells #[.int .i64 t335, .int .i64 t336] 41 (0, 0)) (by (with_reducible repeat (first | refine zd ?_ _ | refine ze ?_ | refine zf ?_ _)); exact BK337.out) hb)
                 have n6_ := zm (zu (g := gb344) (o := .cells #[.int .i64 t338, .int .i64 t339, .bool t340, .slice Ao33 t341.length co33] 28 (0, 0)) (by (with_reducible repeat (first | refine zd ?_ _ | refine ze ?_ | refine zf ?_ _)); exact BK344.out) hb)
                 have n7_ := zm (zw (by repeat (first | (with_reducible first | exact HB.out | apply zg | apply zh | apply zi | refine zy ?_ GE321.out | refine zy ?_ GE328.out | refine zy ?_ GE337.out | refine zy ?_ GE344.out) | exact HB.out)) hb)
                 have n8_ := zm (hbox)
                 have n9_ := zm ((by rw [hg]; exact (zx (by repeat (first | (with_reducible first | exact HB.out | apply zg | apply zh | apply zi | refine zy ?_ GE321.out | refine zy ?_ GE328.out | refine zy ?_ GE337.out | refine zy ?_ GE344.out) | exact HB.out))) : w.heap.size ≤ gb355))
                 have n10_ := zm ((by rw [hg]; exact (zx (by repeat (first | (with_reducible first | exact HB.out | apply zg | apply zh | apply zi | refine zy ?_ GE321.out | refine zy ?_ GE328.out | refine zy ?_ GE337.out | refine zy ?_ GE344.out) | exact HB.out))) : w.heap.size ≤ gb355))
                 have n11_ := zm ((by rw [hg]; exact Nat.ne_of_lt (zv (g := gb321) (o := .cells #[.int .i64 t317, .int .i64 t318, .int .i64 t319, .int .i64 t320] 31 (0, 0)) (by (with_reducible repeat (first | refine zd ?_ _ | refine ze ?_ | refine zf ?_ _)); exact BK321.out)) : gb321 ≠ gb355))
                 have n12_ := zm ((by rw [hg]; exact Nat.ne_of_gt (zv (g := gb321) (o := .cells #[.int .i64 t317, .int .i64 t318, .int .i64 t319, .int .i64 t320] 31 (0, 0)) (by (with_reducible repeat (first | refine zd ?_ _ | refine ze ?_ | refine zf ?_ _)); exact BK321.out)) : gb355 ≠ gb321))
                 have n13_ := zm ((by rw [hg]; exact Nat.ne_of_lt (zv (g := gb328) (o := .cells #[.int .i64 t322, .int .i64 t323, .bool t324, .slice Ao18 t325.length co18] 28 (0, 0)) (by (with_reducible repeat (first | refine zd ?_ _ | refine ze ?_ | refine zf ?_ _)); exact BK328.out)) : gb328 ≠ gb355))
                 have n14_ := zm ((by rw [hg]; exact Nat.ne_of_gt (zv (g := gb328) (o := .cells #[.int .i64 t322, .int .i64 t323, .bool t324, .slice Ao18 t325.length co18] 28 (0, 0)) (by (with_reducible repeat (first | refine zd ?_ _ | refine ze ?_ | refine zf ?_ _)); exact BK328.out)) : gb355 ≠ gb328))
                 have n15_ := zm ((by rw [hg]; exact Nat.ne_of_lt (zv (g := gb337) (o := .cells #[.int .i64 t335, .int .i64 t336] 41 (0, 0)) (by (with_reducible repeat (first | refine zd ?_ _ | refine ze ?_ | refine zf ?_ _)); exact BK337.out)) : gb337 ≠ gb355))
                 have n16_ := zm ((by rw [hg]; exact Nat.ne_of_gt (zv (g := gb337) (o := .cells #[.int .i64 t335, .int .i64 t336] 41 (0, 0)) (by (with_reducible repeat (first | refine zd ?_ _ | refine ze ?_ | refine zf ?_ _)); exact BK337.out)) : gb355 ≠ gb337))
                 have n17_ := zm ((by rw [hg]; exact Nat.ne_of_lt (zv (g := gb344) (o := .cells #[.int .i64 t338, .int .i64 t339, .bool t340, .slice Ao33 t341.length co33] 28 (0, 0)) (by (with_reducible repeat (first | refine zd ?_ _ | refine ze ?_ | refine zf ?_ _)); exact BK344.out)) : gb344 ≠ gb355))
                 have n18_ := zm ((by rw [hg]; exact Nat.ne_of_gt (zv (g := gb344) (o := .cells #[.int .i64 t338, .int .i64 t339, .bool t340, .slice Ao33 t341.length co33] 28 (0, 0)) (by (with_reducible repeat (first | refine zd ?_ _ | refine ze ?_ | refine zf ?_ _)); exact BK344.out)) : gb355 ≠ gb344))
                 clear HO_3
                 clear HO_329003
                 clear HO_345003
                 clear BK321
                 clear BK328
                 clear BK337
                 clear BK344
                 clear HB
                 have HO_3 := n0_
                 have HO_329003 := n1_
                 have HO_345003 := n2_
                 have BK321 := n3_
                 have BK328 := n4_
                 have BK337 := n5_
                 have BK344 := n6_
                 have HB := n7_
                 have BK355 := n8_
                 have GW355 := n9_
                 have GE355 := n10_
                 have NB321_355 := n11_
                 have NB355_321 := n12_
                 have NB328_355 := n13_
                 have NB355_328 := n14_
                 have NB337_355 := n15_
                 have NB355_337 := n16_
                 have NB344_355 := n17_
                 have NB355_344 := n18_
                 clear n0_ n1_ n2_ n3_ n4_ n5_ n6_ n7_ n8_ n9_ n10_ n11_ n12_ n13_ n14_ n15_ n16_ n17_ n18_
                 clear hb hbox hg
                 refine hK.out _ _ ⟨(yG BK328.out 0).trans rfl, (yG BK328.out 1).trans rfl, (yG BK328.out 2).trans rfl, (yG BK328.out 3).trans rfl, HS4_, HS5_, HS6_, HS7_, HS8_, HS9_, HS10_, HS11_⟩ (fun hHeld => ?_)
                 clear hK K
                 refine norm_ (a' := ?_) ?_ ?_; rotate_left; (show Act.put _ (some 10) _ = _; simp only [Act.put, yA, yB, yC, i64_w, i32_w]; rfl)
                 exact norm_ (by simp only [putAll, Act.put, yA, yB, yC]) (hCont (gb355) _ ⟨hHeld, (by (with_reducible repeat (first | apply za | apply zb | apply zc)); exact HO_3.out), (by (with_reducible repeat (first | apply za | apply zb | apply zc)); exact HO_329003.out), (by (with_reducible repeat (first | apply za | apply zb | apply zc)); exact HO_345003.out), (by (with_reducible repeat (first | refine zd ?_ _ | refine ze ?_ | refine zf ?_ _)); exact BK321.out), (by (with_reducible repeat (first | refine zd ?_ _ | refine ze ?_ | refine zf ?_ _)); exact BK328.out), (by (with_reducible repeat (first | refine zd ?_ _ | refine ze ?_ | refine zf ?_ _)); exact BK337.out), (by (with_reducible repeat (first | refine zd ?_ _ | refine ze ?_ | refine zf ?_ _)); exact BK344.out), (by (with_reducible repeat (first | refine zd ?_ _ | refine ze ?_ | refine zf ?_ _)); exact BK355.out), GW355.out, GE355.out, NB321_355.out, NB355_321.out, NB328_355.out, NB355_328.out, NB337_355.out, NB355_337.out, NB344_355.out, NB355_344.out, (by repeat (first | (with_reducible first | exact HB.out | apply zg | apply zh | apply zi | refine zy ?_ GE321.out | refine zy ?_ GE328.out | refine zy ?_ GE337.out | refine zy ?_ GE344.out | refine zy ?_ GE355.out) | exact HB.out))⟩)
                ·skip
                 refine box_step ?hg (N := 10) ?hd (cs := #[.int .i64 0, .int .i64 0]) (t := 41) ?hr ?_; (case hd => rfl); (case hg => rfl); (case hr => first | (go_simp; done) | (go_simp; rfl))
                 intro gb355 hg w105 hbox hb
                 have HS4_ := (hb.cell (yF _ _ (hHeld.2.2.2.2.1))).trans (hHeld.2.2.2.2.1)
                 have HS5_ := (hb.cell (yF _ _ (hHeld.2.2.2.2.2.1))).trans (hHeld.2.2.2.2.2.1)
                 have HS6_ := (hb.cell (yF _ _ (hHeld.2.2.2.2.2.2.1))).trans (hHeld.2.2.2.2.2.2.1)
                 have HS7_ := (hb.cell (yF _ _ (hHeld.2.2.2.2.2.2.2.1))).trans (hHeld.2.2.2.2.2.2.2.1)
                 have HS8_ := (hb.cell (yF _ _ (hHeld.2.2.2.2.2.2.2.2.1))).trans (hHeld.2.2.2.2.2.2.2.2.1)
                 have HS9_ := (hb.cell (yF _ _ (hHeld.2.2.2.2.2.2.2.2.2.1))).trans (hHeld.2.2.2.2.2.2.2.2.2.1)
                 have HS10_ := (hb.cell (yF _ _ (hHeld.2.2.2.2.2.2.2.2.2.2.1))).trans (hHeld.2.2.2.2.2.2.2.2.2.2.1)
                 have HS11_ := (hb.cell (yF _ _ (hHeld.2.2.2.2.2.2.2.2.2.2.2))).trans (hHeld.2.2.2.2.2.2.2.2.2.2.2)
                 have n0_ := zm (zp (by (with_reducible repeat (first | apply za | apply zb | apply zc)); exact HO_3.out) hb)
                 have n1_ := zm (zp (by (with_reducible repeat (first | apply za | apply zb | apply zc)); exact HO_329003.out) hb)
                 have n2_ := zm (zp (by (with_reducible repeat (first | apply za | apply zb | apply zc)); exact HO_345003.out) hb)
                 have n3_ := zm (zu (g := gb321) (o := .cells #[.int .i64 t317, .int .i64 t318, .int .i64 t319, .int .i64 t320] 31 (0, 0)) (by (with_reducible repeat (first | refine zd ?_ _ | refine ze ?_ | refine zf ?_ _)); exact BK321.out) hb)
                 have n4_ := zm (zu (g := gb328) (o := .cells #[.int .i64 t322, .int .i64 t323, .bool t324, .slice Ao18 t325.length co18] 28 (0, 0)) (by (with_reducible repeat (first | refine zd ?_ _ | refine ze ?_ | refine zf ?_ _)); exact BK328.out) hb)
                 have n5_ := zm (zu (g := gb337) (o := .cells #[.int .i64 t335, .int .i64 t336] 41 (0, 0)) (by (with_reducible repeat (first | refine zd ?_ _ | refine ze ?_ | refine zf ?_ _)); exact BK337.out) hb)
                 have n6_ := zm (zu (g := gb344) (o := .cells #[.int .i64 t338, .int .i64 t339, .bool t340, .slice Ao33 t341.length co33] 28 (0, 0)) (by (with_reducible repeat (first | refine zd ?_ _ | refine ze ?_ | refine zf ?_ _)); exact BK344.out) hb)
                 have n7_ := zm (zw (by repeat (first | (with_reducible first | exact HB.out | apply zg | apply zh | apply zi | refine zy ?_ GE321.out | refine zy ?_ GE328.out | refine zy ?_ GE337.out | refine zy ?_ GE344.out) | exact HB.out)) hb)
                 have n8_ := zm (hbox)
                 have n9_ := zm ((by rw [hg]; exact (zx (by repeat (first | (with_reducible first | exact HB.out | apply zg | apply zh | apply zi | refine zy ?_ GE321.out | refine zy ?_ GE328.out | refine zy ?_ GE337.out | refine zy ?_ GE344.out) | exact HB.out))) : w.heap.size ≤ gb355))
                 have n10_ := zm ((by rw [hg]; exact (zx (by repeat (first | (with_reducible first | exact HB.out | apply zg | apply zh | apply zi | refine zy ?_ GE321.out | refine zy ?_ GE328.out | refine zy ?_ GE337.out | refine zy ?_ GE344.out) | exact HB.out))) : w.heap.size ≤ gb355))
                 have n11_ := zm ((by rw [hg]; exact Nat.ne_of_lt (zv (g := gb321) (o := .cells #[.int .i64 t317, .int .i64 t318, .int .i64 t319, .int .i64 t320] 31 (0, 0)) (by (with_reducible repeat (first | refine zd ?_ _ | refine ze ?_ | refine zf ?_ _)); exact BK321.out)) : gb321 ≠ gb355))
                 have n12_ := zm ((by rw [hg]; exact Nat.ne_of_gt (zv (g := gb321) (o := .cells #[.int .i64 t317, .int .i64 t318, .int .i64 t319, .int .i64 t320] 31 (0, 0)) (by (with_reducible repeat (first | refine zd ?_ _ | refine ze ?_ | refine zf ?_ _)); exact BK321.out)) : gb355 ≠ gb321))
                 have n13_ := zm ((by rw [hg]; exact Nat.ne_of_lt (zv (g := gb328) (o := .cells #[.int .i64 t322, .int .i64 t323, .bool t324, .slice Ao18 t325.length co18] 28 (0, 0)) (by (with_reducible repeat (first | refine zd ?_ _ | refine ze ?_ | refine zf ?_ _)); exact BK328.out)) : gb328 ≠ gb355))
                 have n14_ := zm ((by rw [hg]; exact Nat.ne_of_gt (zv (g := gb328) (o := .cells #[.int .i64 t322, .int .i64 t323, .bool t324, .slice Ao18 t325.length co18] 28 (0, 0)) (by (with_reducible repeat (first | refine zd ?_ _ | refine ze ?_ | refine zf ?_ _)); exact BK328.out)) : gb355 ≠ gb328))
                 have n15_ := zm ((by rw [hg]; exact Nat.ne_of_lt (zv (g := gb337) (o := .cells #[.int .i64 t335, .int .i64 t336] 41 (0, 0)) (by (with_reducible repeat (first | refine zd ?_ _ | refine ze ?_ | refine zf ?_ _)); exact BK337.out)) : gb337 ≠ gb355))
                 have n16_ := zm ((by rw [hg]; exact Nat.ne_of_gt (zv (g := gb337) (o := .cells #[.int .i64 t335, .int .i64 t336] 41 (0, 0)) (by (with_reducible repeat (first | refine zd ?_ _ | refine ze ?_ | refine zf ?_ _)); exact BK337.out)) : gb355 ≠ gb337))
                 have n17_ := zm ((by rw [hg]; exact Nat.ne_of_lt (zv (g := gb344) (o := .cells #[.int .i64 t338, .int .i64 t339, .bool t340, .slice Ao33 t341.length co33] 28 (0, 0)) (by (with_reducible repeat (first | refine zd ?_ _ | refine ze ?_ | refine zf ?_ _)); exact BK344.out)) : gb344 ≠ gb355))
                 have n18_ := zm ((by rw [hg]; exact Nat.ne_of_gt (zv (g := gb344) (o := .cells #[.int .i64 t338, .int .i64 t339, .bool t340, .slice Ao33 t341.length co33] 28 (0, 0)) (by (with_reducible repeat (first | refine zd ?_ _ | refine ze ?_ | refine zf ?_ _)); exact BK344.out)) : gb355 ≠ gb344))
                 clear HO_3
                 clear HO_329003
                 clear HO_345003
                 clear BK321
                 clear BK328
                 clear BK337
                 clear BK344
                 clear HB
                 have HO_3 := n0_
                 have HO_329003 := n1_
                 have HO_345003 := n2_
                 have BK321 := n3_
                 have BK328 := n4_
                 have BK337 := n5_
                 have BK344 := n6_
                 have HB := n7_
                 have BK355 := n8_
                 have GW355 := n9_
                 have GE355 := n10_
                 have NB321_355 := n11_
                 have NB355_321 := n12_
                 have NB328_355 := n13_
                 have NB355_328 := n14_
                 have NB337_355 := n15_
                 have NB355_337 := n16_
                 have NB344_355 := n17_
                 have NB355_344 := n18_
                 clear n0_ n1_ n2_ n3_ n4_ n5_ n6_ n7_ n8_ n9_ n10_ n11_ n12_ n13_ n14_ n15_ n16_ n17_ n18_
                 clear hb hbox hg
                 refine hK.out _ _ ⟨(yG BK328.out 0).trans rfl, (yG BK328.out 1).trans rfl, (yG BK328.out 2).trans rfl, (yG BK328.out 3).trans rfl, HS4_, HS5_, HS6_, HS7_, HS8_, HS9_, HS10_, HS11_⟩ (fun hHeld => ?_)
                 clear hK K
                 refine norm_ (a' := ?_) ?_ ?_; rotate_left; (show Act.put _ (some 10) _ = _; simp only [Act.put, yA, yB, yC, i64_w, i32_w]; rfl)
                 refine one_ (i := 12) (N := some 122) #[true, true, true, true, true, true, true, true, true, true, true, true, true, true, false] rfl rfl (one_of HT_.out (by kernel_rfl)) (by decide) (fun K hK => ?_)
                 refine goes_ Try.func22 (by kernel_rfl) rfl #[.slice Ao18 t325.length co18, .int .i64 ((rd_T31 t314 x9_2).f0), .int .i64 ((rd_T31 t314 x9_2).f1)] (by rfl) rfl rfl (by (try simp only [zA, zB, zC]); first | done | rfl | (simp only [zE, zD]; rfl)) ?_
                 with_reducible refine (impl_FindHit.calls kj64 _ _ t325 ((rd_T31 t314 x9_2).f0) ((rd_T31 t314 x9_2).f1) t353 t354 _ ?side1 ?side2 A73.out).mono ?_
                 (case side1 => repeat (first | exact (zF HO_329003.out).2.2 | (with_reducible first | refine zj ?_ _ | refine zk ?_ _ | refine zl ?_)))
                 (case side2 => exact (zF HO_329003.out).2.1)
                 rintro e w106 ⟨rfl, hb⟩
                 have HS4_ := (hb.cell (yF _ _ (hHeld.2.2.2.2.1))).trans (hHeld.2.2.2.2.1)
                 have HS5_ := (hb.cell (yF _ _ (hHeld.2.2.2.2.2.1))).trans (hHeld.2.2.2.2.2.1)
                 have HS6_ := (hb.cell (yF _ _ (hHeld.2.2.2.2.2.2.1))).trans (hHeld.2.2.2.2.2.2.1)
                 have HS7_ := (hb.cell (yF _ _ (hHeld.2.2.2.2.2.2.2.1))).trans (hHeld.2.2.2.2.2.2.2.1)
                 have HS8_ := (hb.cell (yF _ _ (hHeld.2.2.2.2.2.2.2.2.1))).trans (hHeld.2.2.2.2.2.2.2.2.1)
                 have HS9_ := (hb.cell (yF _ _ (hHeld.2.2.2.2.2.2.2.2.2.1))).trans (hHeld.2.2.2.2.2.2.2.2.2.1)
                 have HS10_ := (hb.cell (yF _ _ (hHeld.2.2.2.2.2.2.2.2.2.2.1))).trans (hHeld.2.2.2.2.2.2.2.2.2.2.1)
                 have HS11_ := (hb.cell (yF _ _ (hHeld.2.2.2.2.2.2.2.2.2.2.2))).trans (hHeld.2.2.2.2.2.2.2.2.2.2.2)
                 refine ⟨_, rfl, ?_⟩
                 have n0_ := zm (zp (by (with_reducible repeat (first | apply za | apply zb | apply zc)); exact HO_3.out) hb)
                 have n1_ := zm (zp (by (with_reducible repeat (first | apply za | apply zb | apply zc)); exact HO_329003.out) hb)
                 have n2_ := zm (zp (by (with_reducible repeat (first | apply za | apply zb | apply zc)); exact HO_345003.out) hb)
                 have n3_ := zm (zu (g := gb321) (o := .cells #[.int .i64 t317, .int .i64 t318, .int .i64 t319, .int .i64 t320] 31 (0, 0)) (by (with_reducible repeat (first | refine zd ?_ _ | refine ze ?_ | refine zf ?_ _)); exact BK321.out) hb)
                 have n4_ := zm (zu (g := gb328) (o := .cells #[.int .i64 t322, .int .i64 t323, .bool t324, .slice Ao18 t325.length co18] 28 (0, 0)) (by (with_reducible repeat (first | refine zd ?_ _ | refine ze ?_ | refine zf ?_ _)); exact BK328.out) hb)
                 have n5_ := zm (zu (g := gb337) (o := .cells #[.int .i64 t335, .int .i64 t336] 41 (0, 0)) (by (with_reducible repeat (first | refine zd ?_ _ | refine ze ?_ | refine zf ?_ _)); exact BK337.out) hb)
                 have n6_ := zm (zu (g := gb344) (o := .cells #[.int .i64 t338, .int .i64 t339, .bool t340, .slice Ao33 t341.length co33] 28 (0, 0)) (by (with_reducible repeat (first | refine zd ?_ _ | refine ze ?_ | refine zf ?_ _)); exact BK344.out) hb)
                 have n7_ := zm (zu (g := gb355) (o := .cells #[.int .i64 0, .int .i64 0] 41 (0, 0)) (by (with_reducible repeat (first | refine zd ?_ _ | refine ze ?_ | refine zf ?_ _)); exact BK355.out) hb)
                 have n8_ := zm (zw (by repeat (first | (with_reducible first | exact HB.out | apply zg | apply zh | apply zi | refine zy ?_ GE321.out | refine zy ?_ GE328.out | refine zy ?_ GE337.out | refine zy ?_ GE344.out | refine zy ?_ GE355.out) | exact HB.out)) hb)
                 clear HO_3
                 clear HO_329003
                 clear HO_345003
                 clear BK321
                 clear BK328
                 clear BK337
                 clear BK344
                 clear BK355
                 clear HB
                 have HO_3 := n0_
                 have HO_329003 := n1_
                 have HO_345003 := n2_
                 have BK321 := n3_
                 have BK328 := n4_
                 have BK337 := n5_
                 have BK344 := n6_
                 have BK355 := n7_
                 have HB := n8_
                 clear n0_ n1_ n2_ n3_ n4_ n5_ n6_ n7_ n8_
                 (try clear hb)
                 (try clear hb2)
                 (try clear hk)
                 (try clear hi)
                 refine hK.out _ _ ⟨(yG BK328.out 0).trans rfl, (yG BK328.out 1).trans rfl, (yG BK328.out 2).trans rfl, (yG BK328.out 3).trans rfl, HS4_, HS5_, HS6_, HS7_, HS8_, HS9_, HS10_, HS11_⟩ (fun hHeld => ?_)
                 clear hK K
                 refine norm_ (a' := ?_) ?_ ?_; rotate_left; (show Act.put _ (some 122) _ = _; simp only [Act.put, yA, yB, yC, i64_w, i32_w]; rfl)
                 exact norm_ (by simp only [putAll, Act.put, yA, yB, yC]) (hCont (gb355) _ ⟨hHeld, (by (with_reducible repeat (first | apply za | apply zb | apply zc)); exact HO_3.out), (by (with_reducible repeat (first | apply za | apply zb | apply zc)); exact HO_329003.out), (by (with_reducible repeat (first | apply za | apply zb | apply zc)); exact HO_345003.out), (by (with_reducible repeat (first | refine zd ?_ _ | refine ze ?_ | refine zf ?_ _)); exact BK321.out), (by (with_reducible repeat (first | refine zd ?_ _ | refine ze ?_ | refine zf ?_ _)); exact BK328.out), (by (with_reducible repeat (first | refine zd ?_ _ | refine ze ?_ | refine zf ?_ _)); exact BK337.out), (by (with_reducible repeat (first | refine zd ?_ _ | refine ze ?_ | refine zf ?_ _)); exact BK344.out), (by (with_reducible repeat (first | refine zd ?_ _ | refine ze ?_ | refine zf ?_ _)); exact BK355.out), GW355.out, GE355.out, NB321_355.out, NB355_321.out, NB328_355.out, NB355_328.out, NB337_355.out, NB355_337.out, NB344_355.out, NB355_344.out, (by repeat (first | (with_reducible first | exact HB.out | apply zg | apply zh | apply zi | refine zy ?_ GE321.out | refine zy ?_ GE328.out | refine zy ?_ GE337.out | refine zy ?_ GE344.out | refine zy ?_ GE355.out) | exact HB.out))⟩)
               rintro gb355 w107 ⟨hS_, h0_, h1_, h2_, h3_, h4_, h5_, h6_, h7_, h8_, h9_, h10_, h11_, h12_, h13_, h14_, h15_, h16_, h17_, h18_⟩
               have n0_ : Aside0 (Kd.R k31 31 w107 w.heap.size (fun k_ => some k_ ≠ (.slice Ao18 t325.length co18 : Value).ownBlock ∧ some k_ ≠ (.slice Ao33 t341.length co33 : Value).ownBlock ∧ k_ ≠ gb321) (.slice (some ad351) t314.length co13) t314) := ⟨h0_⟩
               have n1_ : Aside0 (Kd.R k31 31 w107 w.heap.size (fun k_ => some k_ ≠ (.slice (some ad351) t314.length co13 : Value).ownBlock ∧ some k_ ≠ (.slice Ao33 t341.length co33 : Value).ownBlock ∧ k_ ≠ gb321) (.slice Ao18 t325.length co18) t325) := ⟨h1_⟩
               have n2_ : Aside0 (Kd.R k31 31 w107 w.heap.size (fun k_ => some k_ ≠ (.slice (some ad351) t314.length co13 : Value).ownBlock ∧ some k_ ≠ (.slice Ao18 t325.length co18 : Value).ownBlock ∧ k_ ≠ gb321) (.slice Ao33 t341.length co33) t341) := ⟨h2_⟩
               have n3_ : Aside0 (w107.heap[gb321]? = some (.cells #[.int .i64 t317, .int .i64 t318, .int .i64 t319, .int .i64 t320] 31 (0, 0))) := ⟨h3_⟩
               have n4_ : Aside0 (w107.heap[gb328]? = some (.cells #[.int .i64 t322, .int .i64 t323, .bool t324, .slice Ao18 t325.length co18] 28 (0, 0))) := ⟨h4_⟩
               have n5_ : Aside0 (w107.heap[gb337]? = some (.cells #[.int .i64 t335, .int .i64 t336] 41 (0, 0))) := ⟨h5_⟩
               have n6_ : Aside0 (w107.heap[gb344]? = some (.cells #[.int .i64 t338, .int .i64 t339, .bool t340, .slice Ao33 t341.length co33] 28 (0, 0))) := ⟨h6_⟩
               have n7_ : Aside0 (w107.heap[gb355]? = some (.cells #[.int .i64 0, .int .i64 0] 41 (0, 0))) := ⟨h7_⟩
               have n8_ : Aside0 (w.heap.size ≤ gb355) := ⟨h8_⟩
               have n9_ : Aside0 (w.heap.size ≤ gb355) := ⟨h9_⟩
               have n10_ : Aside0 (gb321 ≠ gb355) := ⟨h10_⟩
               have n11_ : Aside0 (gb355 ≠ gb321) := ⟨h11_⟩
               have n12_ : Aside0 (gb328 ≠ gb355) := ⟨h12_⟩
               have n13_ : Aside0 (gb355 ≠ gb328) := ⟨h13_⟩
               have n14_ : Aside0 (gb337 ≠ gb355) := ⟨h14_⟩
               have n15_ : Aside0 (gb355 ≠ gb337) := ⟨h15_⟩
               have n16_ : Aside0 (gb344 ≠ gb355) := ⟨h16_⟩
               have n17_ : Aside0 (gb355 ≠ gb344) := ⟨h17_⟩
               have n18_ : Aside0 (Below w.heap.size w w107) := ⟨h18_⟩
               clear HO_3
               clear HO_329003
               clear HO_345003
               clear BK321
               clear BK328
               clear BK337
               clear BK344
               clear HB
               clear h0_ h1_ h2_ h3_ h4_ h5_ h6_ h7_ h8_ h9_ h10_ h11_ h12_ h13_ h14_ h15_ h16_ h17_ h18_
               have HO_3 := n0_
               have HO_329003 := n1_
               have HO_345003 := n2_
               have BK321 := n3_
               have BK328 := n4_
               have BK337 := n5_
               have BK344 := n6_
               have BK355 := n7_
               have GW355 := n8_
               have GE355 := n9_
               have NB321_355 := n10_
               have NB355_321 := n11_
               have NB328_355 := n12_
               have NB355_328 := n13_
               have NB337_355 := n14_
               have NB355_337 := n15_
               have NB344_355 := n16_
               have NB355_344 := n17_
               have HB := n18_
               clear n0_ n1_ n2_ n3_ n4_ n5_ n6_ n7_ n8_ n9_ n10_ n11_ n12_ n13_ n14_ n15_ n16_ n17_ n18_
               have hHeld : w107.cell? ⟨gb328, 0, none⟩ = some (.int .i64 t322) ∧ w107.cell? ⟨gb328, 1, none⟩ = some (.int .i64 t323) ∧ w107.cell? ⟨gb328, 2, none⟩ = some (.bool t324) ∧ w107.cell? ⟨gb328, 3, none⟩ = some (.slice Ao18 t325.length co18) ∧ w107.cell? (ad351.add ((x9_2).toNat * 4)) = some (.int .i64 ((rd_T31 t314 x9_2).f0)) ∧ w107.cell? ⟨(ad351.add ((x9_2).toNat * 4)).block, (ad351.add ((x9_2).toNat * 4)).off + 1, none⟩ = some (.int .i64 ((rd_T31 t314 x9_2).f1)) ∧ w107.cell? ⟨(ad351.add ((x9_2).toNat * 4)).block, (ad351.add ((x9_2).toNat * 4)).off + 2, none⟩ = some (.int .i64 ((rd_T31 t314 x9_2).f2)) ∧ w107.cell? ⟨(ad351.add ((x9_2).toNat * 4)).block, (ad351.add ((x9_2).toNat * 4)).off + 3, none⟩ = some (.int .i64 ((rd_T31 t314 x9_2).f3)) ∧ w107.cell? (ad351.add ((x9_2).toNat * 4)) = some (.int .i64 ((rd_T31 t314 x9_2).f0)) ∧ w107.cell? ⟨(ad351.add ((x9_2).toNat * 4)).block, (ad351.add ((x9_2).toNat * 4)).off + 1, none⟩ = some (.int .i64 ((rd_T31 t314 x9_2).f1)) ∧ w107.cell? ⟨(ad351.add ((x9_2).toNat * 4)).block, (ad351.add ((x9_2).toNat * 4)).off + 2, none⟩ = some (.int .i64 ((rd_T31 t314 x9_2).f2)) ∧ w107.cell? ⟨(ad351.add ((x9_2).toNat * 4)).block, (ad351.add ((x9_2).toNat * 4)).off + 3, none⟩ = some (.int .i64 ((rd_T31 t314 x9_2).f3)) := hS_
               refine norm_ (a' := ?_) ?_ ?_
               rotate_left
               ·simp only [putAll, Act.put, yA, yB, yC]
                rfl
               refine one_ (i := 14) (N := none) #[true, true, true, true, true, true, true, true, true, true, true, true, true, true, true] rfl rfl (one_of HT_.out (by kernel_rfl)) (by decide) (fun K hK => ?_)
               have hs108 : w107.cell? ⟨gb355, 0, none⟩ = some (.int .i64 0) := (yG BK355.out 0).trans rfl
               have hfs108 := zH BK355.out 0
               have hns108_0 := NB321_355.out
               have hns108_1 := NB328_355.out
               have hns108_2 := NB337_355.out
               have hns108_3 := NB344_355.out
               have hms108_0 := NB355_321.out
               have hms108_1 := NB355_328.out
               have hms108_2 := NB355_337.out
               have hms108_3 := NB355_344.out
               have hs109 : w107.cell? ⟨gb355, 1, none⟩ = some (.int .i64 0) := (yG BK355.out 1).trans rfl
               have hfs109 := zH BK355.out 1
               have hns109_0 := NB321_355.out
               have hns109_1 := NB328_355.out
               have hns109_2 := NB337_355.out
               have hns109_3 := NB344_355.out
               have hms109_0 := NB355_321.out
               have hms109_1 := NB355_328.out
               have hms109_2 := NB355_337.out
               have hms109_3 := NB355_344.out
               refine skip_ (w1 := ?_) (by rfl) rfl ?_ ?_
               rotate_left
               ·go_simp
                rfl
               refine hK.out _ _ ⟨((cell_far (p := ⟨gb355, _, none⟩) NB328_355.out _).trans (((cell_far (p := ⟨gb355, _, none⟩) NB328_355.out _).trans (hHeld.1)))), ((cell_far (p := ⟨gb355, _, none⟩) NB328_355.out _).trans (((cell_far (p := ⟨gb355, _, none⟩) NB328_355.out _).trans (hHeld.2.1)))), ((cell_far (p := ⟨gb355, _, none⟩) NB328_355.out _).trans (((cell_far (p := ⟨gb355, _, none⟩) NB328_355.out _).trans (hHeld.2.2.1)))), ((cell_far (p := ⟨gb355, _, none⟩) NB328_355.out _).trans (((cell_far (p := ⟨gb355, _, none⟩) NB328_355.out _).trans (hHeld.2.2.2.1)))), ((cell_far (p := ⟨gb355, _, none⟩) (by first | exact yD (yE HO_3.out BK355.out (by decide)) | (rw [add_block]; exact yD (yE HO_3.out BK355.out (by decide))) | (show (Addr.add _ _).block ≠ _; rw [add_block]; exact yD (yE HO_3.out BK355.out (by decide))) | (dsimp only; exact yD (yE HO_3.out BK355.out (by decide)))) _).trans (((cell_far (p := ⟨gb355, _, none⟩) (by first | exact yD (yE HO_3.out BK355.out (by decide)) | (rw [add_block]; exact yD (yE HO_3.out BK355.out (by decide))) | (show (Addr.add _ _).block ≠ _; rw [add_block]; exact yD (yE HO_3.out BK355.out (by decide))) | (dsimp only; exact yD (yE HO_3.out BK355.out (by decide)))) _).trans (hHeld.2.2.2.2.1)))), ((cell_far (p := ⟨gb355, _, none⟩) (by first | exact yD (yE HO_3.out BK355.out (by decide)) | (rw [add_block]; exact yD (yE HO_3.out BK355.out (by decide))) | (show (Addr.add _ _).block ≠ _; rw [add_block]; exact yD (yE HO_3.out BK355.out (by decide))) | (dsimp only; exact yD (yE HO_3.out BK355.out (by decide)))) _).trans (((cell_far (p := ⟨gb355, _, none⟩) (by first | exact yD (yE HO_3.out BK355.out (by decide)) | (rw [add_block]; exact yD (yE HO_3.out BK355.out (by decide))) | (show (Addr.add _ _).block ≠ _; rw [add_block]; exact yD (yE HO_3.out BK355.out (by decide))) | (dsimp only; exact yD (yE HO_3.out BK355.out (by decide)))) _).trans (hHeld.2.2.2.2.2.1)))), ((cell_far (p := ⟨gb355, _, none⟩) (by first | exact yD (yE HO_3.out BK355.out (by decide)) | (rw [add_block]; exact yD (yE HO_3.out BK355.out (by decide))) | (show (Addr.add _ _).block ≠ _; rw [add_block]; exact yD (yE HO_3.out BK355.out (by decide))) | (dsimp only; exact yD (yE HO_3.out BK355.out (by decide)))) _).trans (((cell_far (p := ⟨gb355, _, none⟩) (by first | exact yD (yE HO_3.out BK355.out (by decide)) | (rw [add_block]; exact yD (yE HO_3.out BK355.out (by decide))) | (show (Addr.add _ _).block ≠ _; rw [add_block]; exact yD (yE HO_3.out BK355.out (by decide))) | (dsimp only; exact yD (yE HO_3.out BK355.out (by decide)))) _).trans (hHeld.2.2.2.2.2.2.1)))), ((cell_far (p := ⟨gb355, _, none⟩) (by first | exact yD (yE HO_3.out BK355.out (by decide)) | (rw [add_block]; exact yD (yE HO_3.out BK355.out (by decide))) | (show (Addr.add _ _).block ≠ _; rw [add_block]; exact yD (yE HO_3.out BK355.out (by decide))) | (dsimp only; exact yD (yE HO_3.out BK355.out (by decide)))) _).trans (((cell_far (p := ⟨gb355, _, none⟩) (by first | exact yD (yE HO_3.out BK355.out (by decide)) | (rw [add_block]; exact yD (yE HO_3.out BK355.out (by decide))) | (show (Addr.add _ _).block ≠ _; rw [add_block]; exact yD (yE HO_3.out BK355.out (by decide))) | (dsimp only; exact yD (yE HO_3.out BK355.out (by decide)))) _).trans (hHeld.2.2.2.2.2.2.2.1)))), ((cell_far (p := ⟨gb355, _, none⟩) (by first | exact yD (yE HO_3.out BK355.out (by decide)) | (rw [add_block]; exact yD (yE HO_3.out BK355.out (by decide))) | (show (Addr.add _ _).block ≠ _; rw [add_block]; exact yD (yE HO_3.out BK355.out (by decide))) | (dsimp only; exact yD (yE HO_3.out BK355.out (by decide)))) _).trans (((cell_far (p := ⟨gb355, _, none⟩) (by first | exact yD (yE HO_3.out BK355.out (by decide)) | (rw [add_block]; exact yD (yE HO_3.out BK355.out (by decide))) | (show (Addr.add _ _).block ≠ _; rw [add_block]; exact yD (yE HO_3.out BK355.out (by decide))) | (dsimp only; exact yD (yE HO_3.out BK355.out (by decide)))) _).trans (hHeld.2.2.2.2.2.2.2.2.1)))), ((cell_far (p := ⟨gb355, _, none⟩) (by first | exact yD (yE HO_3.out BK355.out (by decide)) | (rw [add_block]; exact yD (yE HO_3.out BK355.out (by decide))) | (show (Addr.add _ _).block ≠ _; rw [add_block]; exact yD (yE HO_3.out BK355.out (by decide))) | (dsimp only; exact yD (yE HO_3.out BK355.out (by decide)))) _).trans (((cell_far (p := ⟨gb355, _, none⟩) (by first | exact yD (yE HO_3.out BK355.out (by decide)) | (rw [add_block]; exact yD (yE HO_3.out BK355.out (by decide))) | (show (Addr.add _ _).block ≠ _; rw [add_block]; exact yD (yE HO_3.out BK355.out (by decide))) | (dsimp only; exact yD (yE HO_3.out BK355.out (by decide)))) _).trans (hHeld.2.2.2.2.2.2.2.2.2.1)))), ((cell_far (p := ⟨gb355, _, none⟩) (by first | exact yD (yE HO_3.out BK355.out (by decide)) | (rw [add_block]; exact yD (yE HO_3.out BK355.out (by decide))) | (show (Addr.add _ _).block ≠ _; rw [add_block]; exact yD (yE HO_3.out BK355.out (by decide))) | (dsimp only; exact yD (yE HO_3.out BK355.out (by decide)))) _).trans (((cell_far (p := ⟨gb355, _, none⟩) (by first | exact yD (yE HO_3.out BK355.out (by decide)) | (rw [add_block]; exact yD (yE HO_3.out BK355.out (by decide))) | (show (Addr.add _ _).block ≠ _; rw [add_block]; exact yD (yE HO_3.out BK355.out (by decide))) | (dsimp only; exact yD (yE HO_3.out BK355.out (by decide)))) _).trans (hHeld.2.2.2.2.2.2.2.2.2.2.1)))), ((cell_far (p := ⟨gb355, _, none⟩) (by first | exact yD (yE HO_3.out BK355.out (by decide)) | (rw [add_block]; exact yD (yE HO_3.out BK355.out (by decide))) | (show (Addr.add _ _).block ≠ _; rw [add_block]; exact yD (yE HO_3.out BK355.out (by decide))) | (dsimp only; exact yD (yE HO_3.out BK355.out (by decide)))) _).trans (((cell_far (p := ⟨gb355, _, none⟩) (by first | exact yD (yE HO_3.out BK355.out (by decide)) | (rw [add_block]; exact yD (yE HO_3.out BK355.out (by decide))) | (show (Addr.add _ _).block ≠ _; rw [add_block]; exact yD (yE HO_3.out BK355.out (by decide))) | (dsimp only; exact yD (yE HO_3.out BK355.out (by decide)))) _).trans (hHeld.2.2.2.2.2.2.2.2.2.2.2))))⟩ (fun hHeld => ?_)
               clear hK K
               refine done_ (done_of HT_.out (by kernel_rfl)) ?_
               have hnb110 := NB355_321.out
               have hnc110 := NB321_355.out
               have hnb111 := NB355_328.out
               have hnc111 := NB328_355.out
               have hnb112 := NB355_337.out
               have hnc112 := NB337_355.out
               have hnb113 := NB355_344.out
               have hnc113 := NB344_355.out
               have hcz114_0 : w107.cell? ⟨gb355, 0, none⟩ = some (.int .i64 0) := (yG BK355.out 0).trans rfl
               have hcz114_1 : w107.cell? ⟨gb355, 1, none⟩ = some (.int .i64 0) := (yG BK355.out 1).trans rfl
               have hfz114_0 := zH BK355.out 0
               have hfz114_1 := zH BK355.out 1
               try go_wp2
               go_roundg kj64
               case measure => have := HJ8.out; have := HK2.out; have := HJ64.out; omega
               case rel => exact ⟨(wrap64 (x8_2 + 1)), (wrap64 (x9_2 + 1)), (by first | rfl | (simp; done) | (simp [*]; done)), (by first | rfl | (simp; done) | (simp [*]; done)), H', ⟨by have := HJ8.out; have := HK2.out; have := HJ64.out; omega⟩, ⟨by (with_reducible repeat (first | apply za | apply zb | apply zc)); exact zr (zn (p := ⟨gb355, 1, none⟩) (zn (p := ⟨gb355, 0, none⟩) (zq HO_3.out BK355.out (by decide)) (fun _ hk => hk.2) (.int .i64 t353)) (fun _ hk => hk.2) (.int .i64 t354)) (fun _ hk => ⟨hk.1.1, ⟨hk.1.2.1, hk.1.2.2⟩⟩)⟩, ⟨by (with_reducible repeat (first | apply za | apply zb | apply zc)); exact zr (zn (p := ⟨gb355, 1, none⟩) (zn (p := ⟨gb355, 0, none⟩) (zq HO_329003.out BK355.out (by decide)) (fun _ hk => hk.2) (.int .i64 t353)) (fun _ hk => hk.2) (.int .i64 t354)) (fun _ hk => ⟨hk.1.1, ⟨hk.1.2.1, hk.1.2.2⟩⟩)⟩, ⟨by (with_reducible repeat (first | apply za | apply zb | apply zc)); exact zr (zn (p := ⟨gb355, 1, none⟩) (zn (p := ⟨gb355, 0, none⟩) (zq HO_345003.out BK355.out (by decide)) (fun _ hk => hk.2) (.int .i64 t353)) (fun _ hk => hk.2) (.int .i64 t354)) (fun _ hk => ⟨hk.1.1, ⟨hk.1.2.1, hk.1.2.2⟩⟩)⟩, ⟨by (with_reducible repeat (first | refine zd ?_ _ | refine ze ?_ | refine zf ?_ _)); refine blk_far ?_ NB321_355.out _; (with_reducible repeat (first | refine zd ?_ _ | refine ze ?_ | refine zf ?_ _)); refine blk_far ?_ NB321_355.out _; (with_reducible repeat (first | refine zd ?_ _ | refine ze ?_ | refine zf ?_ _)); exact BK321.out⟩, ⟨by (with_reducible repeat (first | refine zd ?_ _ | refine ze ?_ | refine zf ?_ _)); refine blk_far ?_ NB328_355.out _; (with_reducible repeat (first | refine zd ?_ _ | refine ze ?_ | refine zf ?_ _)); refine blk_far ?_ NB328_355.out _; (with_reducible repeat (first | refine zd ?_ _ | refine ze ?_ | refine zf ?_ _)); exact BK328.out⟩, ⟨by (with_reducible repeat (first | refine zd ?_ _ | refine ze ?_ | refine zf ?_ _)); refine blk_far ?_ NB337_355.out _; (with_reducible repeat (first | refine zd ?_ _ | refine ze ?_ | refine zf ?_ _)); refine blk_far ?_ NB337_355.out _; (with_reducible repeat (first | refine zd ?_ _ | refine ze ?_ | refine zf ?_ _)); exact BK337.out⟩, ⟨by (with_reducible repeat (first | refine zd ?_ _ | refine ze ?_ | refine zf ?_ _)); refine blk_far ?_ NB344_355.out _; (with_reducible repeat (first | refine zd ?_ _ | refine ze ?_ | refine zf ?_ _)); refine blk_far ?_ NB344_355.out _; (with_reducible repeat (first | refine zd ?_ _ | refine ze ?_ | refine zf ?_ _)); exact BK344.out⟩, ⟨by repeat (first | (with_reducible first | exact HB.out | apply zg | apply zh | apply zi | refine zy ?_ GE321.out | refine zy ?_ GE328.out | refine zy ?_ GE337.out | refine zy ?_ GE344.out | refine zy ?_ GE355.out) | exact HB.out)⟩⟩
             ·rw [if_neg c72] at H
              exact absurd H (by simp)
            ·rw [if_neg c71] at H
             exact absurd H (by simp)
        ·rw [if_neg c64] at H
         have c64b0 : decide (x9_2 < (t314.length : Int)) = false := decide_eq_false c64
         clear c64
         by_cases c115 : x8_2 ≤ 1
         ·rw [if_pos c115] at H
          have c115b0 : decide (x8_2 ≤ 1) = true := decide_eq_true c115
          clear c115
          by_cases c116 : x8_2 = 0
          ·rw [if_pos c116] at H
           have c116b0 : (x8_2 == 0) = true := beq_iff_eq.mpr c116
           have c116b1 : (x8_2 != 0) = false := bne_eq_false_iff_eq.mpr c116
           clear c116
           clear H
           go_wp2
           go_ret
           exact ⟨by first | rfl | (simp [errW_none, errW_some] <;> rfl) | (simp [*, errW_none, errW_some] <;> rfl), by repeat (first | (with_reducible first | exact HB.out | apply zg | apply zh | apply zi | refine zy ?_ GE321.out | refine zy ?_ GE328.out | refine zy ?_ GE337.out | refine zy ?_ GE344.out) | exact HB.out)⟩
          ·rw [if_neg c116] at H
           have c116b0 : (x8_2 == 0) = false := beq_eq_false_iff_ne.mpr c116
           have c116b1 : (x8_2 != 0) = true := bne_iff_ne.mpr c116
           replace H := Option.some.inj H
           go_wp2
           go_ret
           exact ⟨by first | rfl | (simp [errW_none, errW_some] <;> rfl) | (simp [*, errW_none, errW_some] <;> rfl), by repeat (first | (with_reducible first | exact HB.out | apply zg | apply zh | apply zi | refine zy ?_ GE321.out | refine zy ?_ GE328.out | refine zy ?_ GE337.out | refine zy ?_ GE344.out) | exact HB.out)⟩
         ·rw [if_neg c115] at H
          have c115b0 : decide (x8_2 ≤ 1) = false := decide_eq_false c115
          clear c115
          exact absurd H (by simp)
  ·rw [if_neg c6] at H
   have c6b0 : (t322 == 0) = false := beq_eq_false_iff_ne.mpr c6
   have c6b1 : (t322 != 0) = true := bne_iff_ne.mpr c6
   replace H := yH.mp H
   obtain ⟨⟨t329, t330, t331, t332⟩, A1170, H⟩ := H
   try dsimp only at H
   have A117 := zm A1170
   clear A1170
   replace H := Option.some.inj H
   go_enter Try.func8, Try.ntmps8
   try go_wp2_with (first | ((with_reducible refine gate_callee (f := 31) rfl ?_); refine goesL_ (some 12) rfl rfl Try.func31 (by kernel_rfl) rfl #[.slice A0 l0.length c0] rfl (by (try simp only [zA, zB, zC]); first | done | rfl | (simp only [zE, zD]; rfl)) ?_; (with_reducible refine (laws_lwBig.calls _ _ l0 false _ ?side1 ?side2 A2.out).mono ?_); (case side1 => repeat (first | exact HR0.out | (with_reducible first | refine zj ?_ _ | refine zk ?_ _ | refine zl ?_))); (case side2 => exact HC0.out); rintro e w' ⟨rfl, ⟨nd, rfl⟩⟩; refine ⟨_, rfl, ?_⟩) | ((with_reducible refine gate_callee (f := 32) rfl ?_); refine goesL_ (some 15) rfl rfl Try.func32 (by kernel_rfl) rfl #[.slice A0 l0.length c0] rfl (by (try simp only [zA, zB, zC]); first | done | rfl | (simp only [zE, zD]; rfl)) ?_; (with_reducible refine (spec_DrawFillCache.calls k _ _ l0 t314 t317 t318 t319 t320 _ ?side1 ?side2 A4.out).mono ?_); (case side1 => repeat (first | exact HR0.out | (with_reducible first | refine zj ?_ _ | refine zk ?_ _ | refine zl ?_))); (case side2 => exact HC0.out); rintro e w118 ⟨v315, rfl, ho0, hb⟩; refine ⟨_, rfl, ?_⟩; have n0_ := zm (zz ho0 (zx (by repeat (first | (with_reducible first | exact HB.out | apply zg | apply zh | apply zi) | exact HB.out)))); have n1_ := zm (zw (by repeat (first | (with_reducible first | exact HB.out | apply zg | apply zh | apply zi) | exact HB.out)) hb); clear HB; have HO316 := n0_; have HB := n1_; clear n0_ n1_; (try clear hb); (try clear hb2); (try clear hk); (try clear hi); (try clear ho0)) | ((with_reducible refine gate_dst (N := 4) rfl ?_); (try (refine gate_guard (by rfl) ?_; dsimp only)); refine box_event ?hg (N := 4) ?hd (cs := #[.int .i64 0, .int .i64 0, .int .i64 0, .int .i64 0]) (t := 31) ?hr ?_; (case hd => rfl); (case hg => rfl); (case hr => first | (go_simp; done) | (go_simp; rfl)); intro gb321 hg w119 hbox hb; have n0_ := zm (zp (Kd.R_elderB (by (with_reducible repeat (first | apply za | apply zb | apply zc)); exact HO316.out) gb321 (Nat.le_of_eq hg.symm)) hb); have n1_ := zm (zw (by repeat (first | (with_reducible first | exact HB.out | apply zg | apply zh | apply zi) | exact HB.out)) hb); have n2_ := zm (hbox); have n3_ := zm ((by rw [hg]; exact (zx (by repeat (first | (with_reducible first | exact HB.out | apply zg | apply zh | apply zi) | exact HB.out))) : w.heap.size ≤ gb321)); have n4_ := zm ((by rw [hg]; exact (zx (by repeat (first | (with_reducible first | exact HB.out | apply zg | apply zh | apply zi) | exact HB.out))) : w.heap.size ≤ gb321)); clear HO316; clear HB; have HO316 := n0_; have HB := n1_; have BK321 := n2_; have GW321 := n3_; have GE321 := n4_; clear n0_ n1_ n2_ n3_ n4_; clear hb hbox hg; have hcz120_0 : w119.cell? ⟨gb321, 0, none⟩ = some (.int .i64 0) := (yG BK321.out 0).trans rfl; have hcz120_1 : w119.cell? ⟨gb321, 1, none⟩ = some (.int .i64 0) := (yG BK321.out 1).trans rfl; have hcz120_2 : w119.cell? ⟨gb321, 2, none⟩ = some (.int .i64 0) := (yG BK321.out 2).trans rfl; have hcz120_3 : w119.cell? ⟨gb321, 3, none⟩ = some (.int .i64 0) := (yG BK321.out 3).trans rfl; have hfz120_0 := zH BK321.out 0; have hfz120_1 := zH BK321.out 1; have hfz120_2 := zH BK321.out 2; have hfz120_3 := zH BK321.out 3; obtain ⟨Ao121, co121, eo121⟩ := Kd.R_slice HO316.out; subst eo121) | ((with_reducible refine gate_callee (f := 13) rfl ?_); refine goesL_ (some 20) rfl rfl Try.func13 (by kernel_rfl) rfl #[.slice Ao121 t314.length co121, .agg #[.int .i64 t317, .int .i64 t318, .int .i64 t319, .int .i64 t320]] rfl (by (try simp only [zA, zB, zC]); first | done | rfl | (simp only [zE, zD]; rfl)) ?_; (with_reducible refine (impl_FillCache.calls k _ _ t314 t317 t318 t319 t320 t322 t323 t324 t325 _ ?side1 ?side2 A5.out).mono ?_); (case side1 => refine (zF (e := 31) (base := w.heap.size) (ok := fun k_ => (True ∧ k_ ≠ gb321)) (n := t314.length) (c := co121) ?_).2.2; exact (by (with_reducible repeat (first | apply za | apply zb | apply zc)); exact (zr (zn (p := ⟨gb321, 3, none⟩) (zn (p := ⟨gb321, 2, none⟩) (zn (p := ⟨gb321, 1, none⟩) (zn (p := ⟨gb321, 0, none⟩) (zr HO316.out (fun k_ hk => (⟨hk, hk.2⟩ : _ ∧ k_ ≠ gb321))) (fun _ hk => hk.2) (.int .i64 t317)) (fun _ hk => hk.2) (.int .i64 t318)) (fun _ hk => hk.2) (.int .i64 t319)) (fun _ hk => hk.2) (.int .i64 t320)) (fun _ h_ => h_.1)))); (case side2 => exact (zF HO316.out).2.1); rintro e w122 ⟨v326, rfl, ho0, hb⟩; refine ⟨_, rfl, ?_⟩; have n0_ := zm (zo (by (with_reducible repeat (first | apply za | apply zb | apply zc)); exact (zr (zn (p := ⟨gb321, 3, none⟩) (zn (p := ⟨gb321, 2, none⟩) (zn (p := ⟨gb321, 1, none⟩) (zn (p := ⟨gb321, 0, none⟩) (zr HO316.out (fun k_ hk => (⟨hk, hk.2⟩ : _ ∧ k_ ≠ gb321))) (fun _ hk => hk.2) (.int .i64 t317)) (fun _ hk => hk.2) (.int .i64 t318)) (fun _ hk => hk.2) (.int .i64 t319)) (fun _ hk => hk.2) (.int .i64 t320)) (fun _ h_ => h_.1))) (zt ho0) hb); have n1_ := zm (zz (Kd.R_newB (zs ho0 (zG (by (with_reducible repeat (first | apply za | apply zb | apply zc)); exact (zr (zn (p := ⟨gb321, 3, none⟩) (zn (p := ⟨gb321, 2, none⟩) (zn (p := ⟨gb321, 1, none⟩) (zn (p := ⟨gb321, 0, none⟩) (zr HO316.out (fun k_ hk => (⟨hk, hk.2⟩ : _ ∧ k_ ≠ gb321))) (fun _ hk => hk.2) (.int .i64 t317)) (fun _ hk => hk.2) (.int .i64 t318)) (fun _ hk => hk.2) (.int .i64 t319)) (fun _ hk => hk.2) (.int .i64 t320)) (fun _ h_ => h_.1))))) (g := gb321) (o := .cells #[.int .i64 t317, .int .i64 t318, .int .i64 t319, .int .i64 t320] 31 (0, 0)) (by (with_reducible repeat (first | refine zd ?_ _ | refine ze ?_ | refine zf ?_ _)); refine blk_put (cs := #[.int .i64 t317, .int .i64 t318, .int .i64 t319, .int .i64 0]) ?_ 3 _ rfl; (with_reducible repeat (first | refine zd ?_ _ | refine ze ?_ | refine zf ?_ _)); refine blk_put (cs := #[.int .i64 t317, .int .i64 t318, .int .i64 0, .int .i64 0]) ?_ 2 _ rfl; (with_reducible repeat (first | refine zd ?_ _ | refine ze ?_ | refine zf ?_ _)); refine blk_put (cs := #[.int .i64 t317, .int .i64 0, .int .i64 0, .int .i64 0]) ?_ 1 _ rfl; (with_reducible repeat (first | refine zd ?_ _ | refine ze ?_ | refine zf ?_ _)); refine blk_put (cs := #[.int .i64 0, .int .i64 0, .int .i64 0, .int .i64 0]) ?_ 0 _ rfl; (with_reducible repeat (first | refine zd ?_ _ | refine ze ?_ | refine zf ?_ _)); exact BK321.out)) (zx (by repeat (first | (with_reducible first | exact HB.out | apply zg | apply zh | apply zi | refine zy ?_ GE321.out) | exact HB.out)))); have n2_ := zm (zu (g := gb321) (o := .cells #[.int .i64 t317, .int .i64 t318, .int .i64 t319, .int .i64 t320] 31 (0, 0)) (by (with_reducible repeat (first | refine zd ?_ _ | refine ze ?_ | refine zf ?_ _)); refine blk_put (cs := #[.int .i64 t317, .int .i64 t318, .int .i64 t319, .int .i64 0]) ?_ 3 _ rfl; (with_reducible repeat (first | refine zd ?_ _ | refine ze ?_ | refine zf ?_ _)); refine blk_put (cs := #[.int .i64 t317, .int .i64 t318, .int .i64 0, .int .i64 0]) ?_ 2 _ rfl; (with_reducible repeat (first | refine zd ?_ _ | refine ze ?_ | refine zf ?_ _)); refine blk_put (cs := #[.int .i64 t317, .int .i64 0, .int .i64 0, .int .i64 0]) ?_ 1 _ rfl; (with_reducible repeat (first | refine zd ?_ _ | refine ze ?_ | refine zf ?_ _)); refine blk_put (cs := #[.int .i64 0, .int .i64 0, .int .i64 0, .int .i64 0]) ?_ 0 _ rfl; (with_reducible repeat (first | refine zd ?_ _ | refine ze ?_ | refine zf ?_ _)); exact BK321.out) hb); have n3_ := zm (zw (by repeat (first | (with_reducible first | exact HB.out | apply zg | apply zh | apply zi | refine zy ?_ GE321.out) | exact HB.out)) hb); clear HO316; clear BK321; clear HB; have HO316 := n0_; have HO327 := n1_; have BK321 := n2_; have HB := n3_; clear n0_ n1_ n2_ n3_; (try clear hb); (try clear hb2); (try clear hk); (try clear hi); (try clear ho0)) | ((with_reducible refine gate_dst (N := 5) rfl ?_); (try (refine gate_guard (by rfl) ?_; dsimp only)); refine box_event ?hg (N := 5) ?hd (cs := #[.int .i64 0, .int .i64 0, .bool false, .slice none 0 0]) (t := 28) ?hr ?_; (case hd => rfl); (case hg => rfl); (case hr => first | (go_simp; done) | (go_simp; rfl)); intro gb328 hg w123 hbox hb; have n0_ := zm (zp (by (with_reducible repeat (first | apply za | apply zb | apply zc)); exact HO316.out) hb); have n1_ := zm (zp (by (with_reducible repeat (first | apply za | apply zb | apply zc)); exact HO327.out) hb); have n2_ := zm (zu (g := gb321) (o := .cells #[.int .i64 t317, .int .i64 t318, .int .i64 t319, .int .i64 t320] 31 (0, 0)) (by (with_reducible repeat (first | refine zd ?_ _ | refine ze ?_ | refine zf ?_ _)); exact BK321.out) hb); have n3_ := zm (zw (by repeat (first | (with_reducible first | exact HB.out | apply zg | apply zh | apply zi | refine zy ?_ GE321.out) | exact HB.out)) hb); have n4_ := zm (hbox); have n5_ := zm ((by rw [hg]; exact (zx (by repeat (first | (with_reducible first | exact HB.out | apply zg | apply zh | apply zi | refine zy ?_ GE321.out) | exact HB.out))) : w.heap.size ≤ gb328)); have n6_ := zm ((by rw [hg]; exact (zx (by repeat (first | (with_reducible first | exact HB.out | apply zg | apply zh | apply zi | refine zy ?_ GE321.out) | exact HB.out))) : w.heap.size ≤ gb328)); have n7_ := zm ((by rw [hg]; exact Nat.ne_of_lt (zv (g := gb321) (o := .cells #[.int .i64 t317, .int .i64 t318, .int .i64 t319, .int .i64 t320] 31 (0, 0)) (by (with_reducible repeat (first | refine zd ?_ _ | refine ze ?_ | refine zf ?_ _)); exact BK321.out)) : gb321 ≠ gb328)); have n8_ := zm ((by rw [hg]; exact Nat.ne_of_gt (zv (g := gb321) (o := .cells #[.int .i64 t317, .int .i64 t318, .int .i64 t319, .int .i64 t320] 31 (0, 0)) (by (with_reducible repeat (first | refine zd ?_ _ | refine ze ?_ | refine zf ?_ _)); exact BK321.out)) : gb328 ≠ gb321)); clear HO316; clear HO327; clear BK321; clear HB; have HO316 := n0_; have HO327 := n1_; have BK321 := n2_; have HB := n3_; have BK328 := n4_; have GW328 := n5_; have GE328 := n6_; have NB321_328 := n7_; have NB328_321 := n8_; clear n0_ n1_ n2_ n3_ n4_ n5_ n6_ n7_ n8_; clear hb hbox hg; have hnb124 := NB328_321.out; have hnc124 := NB321_328.out; have hcz125_0 : w123.cell? ⟨gb328, 0, none⟩ = some (.int .i64 0) := (yG BK328.out 0).trans rfl; have hcz125_1 : w123.cell? ⟨gb328, 1, none⟩ = some (.int .i64 0) := (yG BK328.out 1).trans rfl; have hcz125_2 : w123.cell? ⟨gb328, 2, none⟩ = some (.bool false) := (yG BK328.out 2).trans rfl; have hcz125_3 : w123.cell? ⟨gb328, 3, none⟩ = some (.slice none 0 0) := (yG BK328.out 3).trans rfl; have hfz125_0 := zH BK328.out 0; have hfz125_1 := zH BK328.out 1; have hfz125_2 := zH BK328.out 2; have hfz125_3 := zH BK328.out 3; obtain ⟨Ao126, co126, eo126⟩ := Kd.R_slice HO327.out; subst eo126))
   have n0_ : Aside0 (Kd.R k31 31 ((((w123.setCell ⟨gb328, 0, none⟩ (.int .i64 t322)).setCell ⟨gb328, 1, none⟩ (.int .i64 t323)).setCell ⟨gb328, 2, none⟩ (.bool t324)).setCell ⟨gb328, 3, none⟩ (.slice Ao126 t325.length co126)) w.heap.size (fun k_ => some k_ ≠ (.slice Ao126 t325.length co126 : Value).ownBlock ∧ k_ ≠ gb321) (.slice Ao121 t314.length co121) t314) := ⟨by (with_reducible repeat (first | apply za | apply zb | apply zc)); exact zr (zn (p := ⟨gb328, 3, none⟩) (zn (p := ⟨gb328, 2, none⟩) (zn (p := ⟨gb328, 1, none⟩) (zn (p := ⟨gb328, 0, none⟩) (zq HO316.out BK328.out (by decide)) (fun _ hk => hk.2) (.int .i64 t322)) (fun _ hk => hk.2) (.int .i64 t323)) (fun _ hk => hk.2) (.bool t324)) (fun _ hk => hk.2) (.slice Ao126 t325.length co126)) (fun _ hk => ⟨hk.1.2, hk.1.1.2⟩)⟩
   have n1_ : Aside0 (Kd.R k31 31 ((((w123.setCell ⟨gb328, 0, none⟩ (.int .i64 t322)).setCell ⟨gb328, 1, none⟩ (.int .i64 t323)).setCell ⟨gb328, 2, none⟩ (.bool t324)).setCell ⟨gb328, 3, none⟩ (.slice Ao126 t325.length co126)) w.heap.size (fun k_ => some k_ ≠ (.slice Ao121 t314.length co121 : Value).ownBlock ∧ k_ ≠ gb321) (.slice Ao126 t325.length co126) t325) := ⟨by (with_reducible repeat (first | apply za | apply zb | apply zc)); exact zr (zn (p := ⟨gb328, 3, none⟩) (zn (p := ⟨gb328, 2, none⟩) (zn (p := ⟨gb328, 1, none⟩) (zn (p := ⟨gb328, 0, none⟩) (zq HO327.out BK328.out (by decide)) (fun _ hk => hk.2) (.int .i64 t322)) (fun _ hk => hk.2) (.int .i64 t323)) (fun _ hk => hk.2) (.bool t324)) (fun _ hk => hk.2) (.slice Ao126 t325.length co126)) (fun _ hk => ⟨hk.1.1.2, hk.1.2⟩)⟩
   have n2_ : Aside0 (((((w123.setCell ⟨gb328, 0, none⟩ (.int .i64 t322)).setCell ⟨gb328, 1, none⟩ (.int .i64 t323)).setCell ⟨gb328, 2, none⟩ (.bool t324)).setCell ⟨gb328, 3, none⟩ (.slice Ao126 t325.length co126)).heap[gb321]? = some (.cells #[.int .i64 t317, .int .i64 t318, .int .i64 t319, .int .i64 t320] 31 (0, 0))) := ⟨by (with_reducible repeat (first | refine zd ?_ _ | refine ze ?_ | refine zf ?_ _)); refine blk_far ?_ NB321_328.out _; (with_reducible repeat (first | refine zd ?_ _ | refine ze ?_ | refine zf ?_ _)); refine blk_far ?_ NB321_328.out _; (with_reducible repeat (first | refine zd ?_ _ | refine ze ?_ | refine zf ?_ _)); refine blk_far ?_ NB321_328.out _; (with_reducible repeat (first | refine zd ?_ _ | refine ze ?_ | refine zf ?_ _)); refine blk_far ?_ NB321_328.out _; (with_reducible repeat (first | refine zd ?_ _ | refine ze ?_ | refine zf ?_ _)); exact BK321.out⟩
   have n3_ : Aside0 (((((w123.setCell ⟨gb328, 0, none⟩ (.int .i64 t322)).setCell ⟨gb328, 1, none⟩ (.int .i64 t323)).setCell ⟨gb328, 2, none⟩ (.bool t324)).setCell ⟨gb328, 3, none⟩ (.slice Ao126 t325.length co126)).heap[gb328]? = some (.cells #[.int .i64 t322, .int .i64 t323, .bool t324, .slice Ao126 t325.length co126] 28 (0, 0))) := ⟨by (with_reducible repeat (first | refine zd ?_ _ | refine ze ?_ | refine zf ?_ _)); refine blk_put (cs := #[.int .i64 t322, .int .i64 t323, .bool t324, .slice none 0 0]) ?_ 3 _ rfl; (with_reducible repeat (first | refine zd ?_ _ | refine ze ?_ | refine zf ?_ _)); refine blk_put (cs := #[.int .i64 t322, .int .i64 t323, .bool false, .slice none 0 0]) ?_ 2 _ rfl; (with_reducible repeat (first | refine zd ?_ _ | refine ze ?_ | refine zf ?_ _)); refine blk_put (cs := #[.int .i64 t322, .int .i64 0, .bool false, .slice none 0 0]) ?_ 1 _ rfl; (with_reducible repeat (first | refine zd ?_ _ | refine ze ?_ | refine zf ?_ _)); refine blk_put (cs := #[.int .i64 0, .int .i64 0, .bool false, .slice none 0 0]) ?_ 0 _ rfl; (with_reducible repeat (first | refine zd ?_ _ | refine ze ?_ | refine zf ?_ _)); exact BK328.out⟩
   have n4_ : Aside0 (Below w.heap.size w ((((w123.setCell ⟨gb328, 0, none⟩ (.int .i64 t322)).setCell ⟨gb328, 1, none⟩ (.int .i64 t323)).setCell ⟨gb328, 2, none⟩ (.bool t324)).setCell ⟨gb328, 3, none⟩ (.slice Ao126 t325.length co126))) := ⟨by repeat (first | (with_reducible first | exact HB.out | apply zg | apply zh | apply zi | refine zy ?_ GE321.out | refine zy ?_ GE328.out) | exact HB.out)⟩
   (try clear HO316)
   (try clear HO327)
   (try clear BK321)
   (try clear BK328)
   (try clear HB)
   generalize ((((w123.setCell ⟨gb328, 0, none⟩ (.int .i64 t322)).setCell ⟨gb328, 1, none⟩ (.int .i64 t323)).setCell ⟨gb328, 2, none⟩ (.bool t324)).setCell ⟨gb328, 3, none⟩ (.slice Ao126 t325.length co126)) = w127 at n0_ n1_ n2_ n3_ n4_ ⊢
   have HO316 := n0_
   have HO327 := n1_
   have BK321 := n2_
   have BK328 := n3_
   have HB := n4_
   clear n0_ n1_ n2_ n3_ n4_
   have n0_ := zm (Kd.R_drew HO316.out)
   have n1_ := zm (Kd.R_drew HO327.out)
   have n2_ := zm (blk_drew BK321.out)
   have n3_ := zm (blk_drew BK328.out)
   have n4_ := zm (below_drew1 HB.out)
   clear HO316
   clear HO327
   clear BK321
   clear BK328
   clear HB
   have HO316 := n0_
   have HO327 := n1_
   have BK321 := n2_
   have BK328 := n3_
   have HB := n4_
   clear n0_ n1_ n2_ n3_ n4_
   refine start_ (n := 8) (S := fun w' => w'.cell? ⟨gb321, 0, none⟩ = some (.int .i64 t317) ∧ w'.cell? ⟨gb321, 1, none⟩ = some (.int .i64 t318) ∧ w'.cell? ⟨gb321, 2, none⟩ = some (.int .i64 t319) ∧ w'.cell? ⟨gb321, 3, none⟩ = some (.int .i64 t320) ∧ w'.cell? ⟨gb328, 0, none⟩ = some (.int .i64 t322) ∧ w'.cell? ⟨gb328, 1, none⟩ = some (.int .i64 t323) ∧ w'.cell? ⟨gb328, 2, none⟩ = some (.bool t324) ∧ w'.cell? ⟨gb328, 3, none⟩ = some (.slice Ao126 t325.length co126)) (ds := []) #[false, false, false, false, false, false, false, false] (by kernel_rfl) rfl rfl ⟨(yG BK321.out 0).trans rfl, (yG BK321.out 1).trans rfl, (yG BK321.out 2).trans rfl, (yG BK321.out 3).trans rfl, (yG BK328.out 0).trans rfl, (yG BK328.out 1).trans rfl, (yG BK328.out 2).trans rfl, (yG BK328.out 3).trans rfl⟩ (fun hHeld => ?_); refine with_tabW laws_FnFills.tab6 laws_FnFills.bits6 (fun HT_ HW_ => ?_)
   generalize w127.drew = w128 at HO316 HO327 BK321 BK328 HB hHeld ⊢
   refine pure_ (i := 0) (N := some 24) (v := ?_) (a' := ?_) #[true, false, false, false, false, false, false, false] rfl rfl (any_of HT_.out (by kernel_rfl)) (fun _ _ _ h => h) (Or.inl ⟨by rfl, ?_⟩) ?_ ?_; rotate_left; (intro w'; go_simp; with_reducible rfl); rotate_left; (simp only [Act.put, yA, yB, yC, i64_w, i32_w]; rfl)
   refine pure_ (i := 4) (N := some 28) (v := ?_) (a' := ?_) #[true, false, false, false, true, false, false, false] rfl rfl (any_of HT_.out (by kernel_rfl)) (fun _ _ _ h => h) (Or.inl ⟨by rfl, ?_⟩) ?_ ?_; rotate_left; (intro w'; go_simp; with_reducible rfl); rotate_left; (simp only [Act.put, yA, yB, yC, i64_w, i32_w]; rfl)
   refine take_ (i := 1) (N := some 25) (v := ?_) (a' := ?_) #[true, true, false, false, true, false, false, false] rfl rfl (take_ofW HT_.out HW_.out (by kernel_rfl)) (fun _ _ _ h => h) (Or.inl ⟨by rfl, ?_⟩) hHeld ?_ ?_; rotate_left; (rintro w' ⟨s0, s1, s2, s3, s4, s5, s6, s7⟩; go_simp; with_reducible rfl); rotate_left; (simp only [Act.put, yA, yB, yC, i64_w, i32_w]; rfl)
   refine take_ (i := 5) (N := some 29) (v := ?_) (a' := ?_) #[true, true, false, false, true, true, false, false] rfl rfl (take_ofW HT_.out HW_.out (by kernel_rfl)) (fun _ _ _ h => h) (Or.inl ⟨by rfl, ?_⟩) hHeld ?_ ?_; rotate_left; (rintro w' ⟨s0, s1, s2, s3, s4, s5, s6, s7⟩; go_simp; with_reducible rfl); rotate_left; (simp only [Act.put, yA, yB, yC, i64_w, i32_w]; rfl)
   refine one_ (i := 2) (N := some 26) #[true, true, true, false, true, true, false, false] rfl rfl (one_of HT_.out (by kernel_rfl)) (by decide) (fun K hK => ?_)
   refine goes_ Try.func10 (by kernel_rfl) rfl #[.slice Ao121 t314.length co121, .agg #[.int .i64 t317, .int .i64 t318, .int .i64 t319, .int .i64 t320]] (by rfl) rfl rfl (by (try simp only [zA, zB, zC]); first | done | rfl | (simp only [zE, zD]; rfl)) ?_
   with_reducible refine (spec_FillCache.calls k _ _ t314 t317 t318 t319 t320 t329 t330 t331 t332 _ ?side1 ?side2 A117.out).mono ?_
   (case side1 => repeat (first | exact (zF HO316.out).2.2 | (with_reducible first | refine zj ?_ _ | refine zk ?_ _ | refine zl ?_)))
   (case side2 => exact (zF HO316.out).2.1)
   rintro e w129 ⟨v333, rfl, ho0, hb⟩
   refine ⟨_, rfl, ?_⟩
   have n0_ := zm (zo (by (with_reducible repeat (first | apply za | apply zb | apply zc)); exact HO316.out) (zt ho0) hb)
   have n1_ := zm (zo (by (with_reducible repeat (first | apply za | apply zb | apply zc)); exact HO327.out) (zt ho0) hb)
   have n2_ := zm (zz (Kd.R_newB (zs (zs ho0 (zG (by (with_reducible repeat (first | apply za | apply zb | apply zc)); exact HO316.out))) (zG (by (with_reducible repeat (first | apply za | apply zb | apply zc)); exact HO327.out))) (g := gb321) (o := .cells #[.int .i64 t317, .int .i64 t318, .int .i64 t319, .int .i64 t320] 31 (0, 0)) (by (with_reducible repeat (first | refine zd ?_ _ | refine ze ?_ | refine zf ?_ _)); exact BK321.out)) (zx (by repeat (first | (with_reducible first | exact HB.out | apply zg | apply zh | apply zi | refine zy ?_ GE321.out | refine zy ?_ GE328.out) | exact HB.out))))
   have n3_ := zm (zu (g := gb321) (o := .cells #[.int .i64 t317, .int .i64 t318, .int .i64 t319, .int .i64 t320] 31 (0, 0)) (by (with_reducible repeat (first | refine zd ?_ _ | refine ze ?_ | refine zf ?_ _)); exact BK321.out) hb)
   have n4_ := zm (zu (g := gb328) (o := .cells #[.int .i64 t322, .int .i64 t323, .bool t324, .slice Ao126 t325.length co126] 28 (0, 0)) (by (with_reducible repeat (first | refine zd ?_ _ | refine ze ?_ | refine zf ?_ _)); exact BK328.out) hb)
   have n5_ := zm (zw (by repeat (first | (with_reducible first | exact HB.out | apply zg | apply zh | apply zi | refine zy ?_ GE321.out | refine zy ?_ GE328.out) | exact HB.out)) hb)
   clear HO316
   clear HO327
   clear BK321
   clear BK328
   clear HB
   have HO316 := n0_
   have HO327 := n1_
   have HO334 := n2_
   have BK321 := n3_
   have BK328 := n4_
   have HB := n5_
   clear n0_ n1_ n2_ n3_ n4_ n5_
   (try clear hb)
   (try clear hb2)
   (try clear hk)
   (try clear hi)
   (try clear ho0)
   refine hK.out _ _ ⟨(yG BK321.out 0).trans rfl, (yG BK321.out 1).trans rfl, (yG BK321.out 2).trans rfl, (yG BK321.out 3).trans rfl, (yG BK328.out 0).trans rfl, (yG BK328.out 1).trans rfl, (yG BK328.out 2).trans rfl, (yG BK328.out 3).trans rfl⟩ (fun hHeld => ?_)
   clear hK K
   refine norm_ (a' := ?_) ?_ ?_; rotate_left; (show Act.put _ (some 26) _ = _; simp only [Act.put, yA, yB, yC, i64_w, i32_w]; rfl)
   refine pure_ (i := 3) (N := some 27) (v := ?_) (a' := ?_) #[true, true, true, true, true, true, false, false] rfl rfl (any_of HT_.out (by kernel_rfl)) (fun _ _ _ h => h) (Or.inl ⟨by rfl, ?_⟩) ?_ ?_; rotate_left; (intro w'; go_simp; with_reducible rfl); rotate_left; (simp only [Act.put, yA, yB, yC, i64_w, i32_w]; rfl)
   refine pure_ (i := 6) (N := some 30) (v := ?_) (a' := ?_) #[true, true, true, true, true, true, true, false] rfl rfl (any_of HT_.out (by kernel_rfl)) (fun _ _ _ h => h) (Or.inl ⟨by rfl, ?_⟩) ?_ ?_; rotate_left; (intro w'; go_simp; with_reducible rfl); rotate_left; (simp only [Act.put, yA, yB, yC, i64_w, i32_w]; rfl)
   refine pure_ (i := 7) (N := some 2) (v := ?_) (a' := ?_) #[true, true, true, true, true, true, true, true] rfl rfl (any_of HT_.out (by kernel_rfl)) (fun _ _ _ h => h) (Or.inl ⟨by rfl, ?_⟩) ?_ ?_; rotate_left; (intro w'; go_simp; with_reducible rfl); rotate_left; (simp only [Act.put, yA, yB, yC, i64_w, i32_w]; rfl)
   refine done_ (done_of HT_.out (by kernel_rfl)) ?_
   try go_wp2
   go_ret
   exact ⟨by first | rfl | (simp [errW_none, errW_some] <;> rfl) | (simp [*, errW_none, errW_some] <;> rfl), by repeat (first | (with_reducible first | exact HB.out | apply zg | apply zh | apply zi | refine zy ?_ GE321.out | refine zy ?_ GE328.out) | exact HB.out)⟩

/-- THE ONE PURE STATEMENT of laws_FnFills: yours. -/
def laws_FnFills.Pure : Prop := ∀ (l0 : List Int), l0.length ≤ maxLen → l0.length * 1 ≤ 140737488351232 → (∀ x ∈ l0, (Lit.int .u8 x).wf = true) → ∃ k, laws_FnFills.f k l0 = some true
theorem laws_FnFills.walk (P : laws_FnFills.Pure) (a0 : Option Addr) (len0 cap0 : Nat) (z0 : List Int) (w : World) (w0 : (a0 = none ∧ len0 = 0 ∧ cap0 = 0 ∧ z0 = []) ∨ ∃ x, a0 = some x ∧ len0 ≤ cap0 ∧ cap0 ≤ maxLen ∧ z0.length = cap0 ∧ (∀ i, i < z0.length → w.cell? (x.add i) = some (.int .u8 (z0.getD i 0))) ∧ ∀ n ∈ z0, (Lit.int .u8 n).wf = true) (y0 : len0 * 1 ≤ 140737488351232) :
    Calls Try.prog 8 #[.slice a0 len0 cap0] w fun e w' => e = .returned (.bool true) ∧ Below w.heap.size w w' := by
  obtain ⟨l0, rfl, hr0, hm0, hw0, hc0⟩ := ReadsInt.ofRowC w0
  obtain ⟨k, h⟩ := P l0 hm0 y0 hw0
  refine (laws_FnFills.calls k _ _ l0 w (Kd.C_of_reads (d := (0 : Int)) (h1 := fun _ => rfl) hr0) hc0 h).mono ?_
  rintro e w' ⟨rfl, hd⟩
  exact ⟨rfl, hd⟩

end Go.Proofs.Ytoojkiihbpnfdaa.PFnFills
