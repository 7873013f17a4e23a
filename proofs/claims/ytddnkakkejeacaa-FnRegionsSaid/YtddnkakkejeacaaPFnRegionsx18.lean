-- The Go functions of FnRegions as Lean functions, each with its proof. Written by the session's own program (wip/gen/hp.py), which drives the kit's print.py.
import Derived.Test.YtddnkakkejeacaaPFnRegionsx0
import Derived.Test.YtddnkakkejeacaaPFnRegionsx1
import Derived.Test.YtddnkakkejeacaaPFnRegionsx4
import Derived.Test.YtddnkakkejeacaaPFnRegionsx9
import Derived.Test.YtddnkakkejeacaaPFnRegionsx12
import Derived.Test.YtddnkakkejeacaaPFnRegionsx15
import Derived.Test.YtddnkakkejeacaaPFnRegionsx16
import Derived.Test.YtddnkakkejeacaaPFnRegionsx17
namespace Go.Proofs.Ytddnkakkejeacaa.PFnRegions
open Go.RowKit Go.Proofs.YtddnkakkejeacaaW.PrintWords Go.Proofs.YtddnkakkejeacaaW.PrintLast Go.Proofs.YtddnkakkejeacaaW.PrintMore
attribute [local go_sem] max2_int min2_int max_two min_two max_three min_three max_four min_four   -- for this text's walks alone
set_option linter.unusedVariables false
set_option linter.unusedSimpArgs false

/-! ### laws_FnRegions: function 7 -/
mutual
def laws_FnRegions.l0 : Nat → List Int → Int → Int → Int → Int → Int → Int → Int → Int → List Int → Option (Bool)
  | 0, _, _, _, _, _, _, _, _, _, _ => none
  | k + 1, x5, x8, x264000, x264001, x265000, x265001, x271000, x271001, x276000, x276001 => if x276000 = 0 then (laws_FnRegions.j1 k x5 x8 (decide (x8 < (x5.length : Int))) x264000 x264001 x265000 x265001 x271000 x271001 x276000 x276001) else (laws_FnRegions.j1 k x5 x8 false x264000 x264001 x265000 x265001 x271000 x271001 x276000 x276001)
def laws_FnRegions.j1 : Nat → List Int → Int → Bool → Int → Int → Int → Int → Int → Int → Int → List Int → Option (Bool)
  | 0, _, _, _, _, _, _, _, _, _, _, _ => none
  | k + 1, x5, x8, x43, x264000, x264001, x265000, x265001, x271000, x271001, x276000, x276001 => if x43 = true then (if x8 ≥ x271000 then (if x8 < (wrap64 (x271000 + x271001)) then (if 0 ≤ x8 then (if x8 < (x276001.length : Int) then (if (rd x276001 x8) = 0 then (if (x8 < (wrap64 (x271000 + x271001))) then (laws_FnRegions.l0 k x5 (wrap64 (x8 + 1)) x264000 x264001 x265000 x265001 x271000 x271001 x276000 x276001) else (if x8 < (x5.length : Int) then (if (rd x276001 x8) = (rd x5 x8) then (laws_FnRegions.l0 k x5 (wrap64 (x8 + 1)) x264000 x264001 x265000 x265001 x271000 x271001 x276000 x276001) else (some false)) else (none))) else (some false)) else (none)) else (none)) else (if (x8 < (wrap64 (x271000 + x271001))) then (laws_FnRegions.l0 k x5 (wrap64 (x8 + 1)) x264000 x264001 x265000 x265001 x271000 x271001 x276000 x276001) else (if 0 ≤ x8 then (if x8 < (x276001.length : Int) then (if x8 < (x5.length : Int) then (if (rd x276001 x8) = (rd x5 x8) then (laws_FnRegions.l0 k x5 (wrap64 (x8 + 1)) x264000 x264001 x265000 x265001 x271000 x271001 x276000 x276001) else (some false)) else (none)) else (none)) else (none)))) else (if 0 ≤ x8 then (if x8 < (x276001.length : Int) then (if x8 < (x5.length : Int) then (if (rd x276001 x8) = (rd x5 x8) then (laws_FnRegions.l0 k x5 (wrap64 (x8 + 1)) x264000 x264001 x265000 x265001 x271000 x271001 x276000 x276001) else (some false)) else (none)) else (none)) else (none))) else ((spec_RegionFault.f x264000 x264001).bind fun t287 => (if t287 = 0 then ((spec_RegionFault.f x265000 x265001).bind fun t288 => (laws_FnRegions.j2 k (t288 != 0) x264000 x264001 x265000 x265001)) else (laws_FnRegions.j2 k true x264000 x264001 x265000 x265001)))
def laws_FnRegions.j2 : Nat → Bool → Int → Int → Int → Int → Option (Bool)
  | 0, _, _, _, _, _ => none
  | k + 1, x91, x264000, x264001, x265000, x265001 => if x91 = true then ((impl_RegionsMeet.f x264000 x264001 x265000 x265001).bind fun t289 => (some (!t289))) else (laws_FnRegions.l1 k false x264000 x264000 x264001 x265000 x265001)
def laws_FnRegions.l1 : Nat → Bool → Int → Int → Int → Int → Int → Option (Bool)
  | 0, _, _, _, _, _, _ => none
  | k + 1, x10, x11, x264000, x264001, x265000, x265001 => if x11 < (wrap64 (x264000 + x264001)) then (if x10 = true then (laws_FnRegions.l1 k true (wrap64 (x11 + 1)) x264000 x264001 x265000 x265001) else (if x11 ≥ x265000 then (laws_FnRegions.l1 k (decide (x11 < (wrap64 (x265000 + x265001)))) (wrap64 (x11 + 1)) x264000 x264001 x265000 x265001) else (laws_FnRegions.l1 k false (wrap64 (x11 + 1)) x264000 x264001 x265000 x265001))) else ((impl_PagesOf.f k x264000 x264001).bind fun bt290 => ((impl_RegionsMeet.f x264000 x264001 x265000 x265001).bind fun t295 => (if (t295 == x10) = true then ((impl_RegionsMeet.f x265000 x265001 x264000 x264001).bind fun t296 => (if (t296 == x10) = true then ((impl_RegionsApart.f (([(⟨x264000, x264001⟩ : S47), (⟨x265000, x265001⟩ : S47)] : List (S47)))).bind fun t300 => (if (t300 == (!x10)) = true then (if bt290.1 = 0 then (some (((bt290.2.length : Int) == 0) == (x264001 == 0))) else (some false)) else (some false))) else (some false))) else (some false))))
end
def laws_FnRegions.f (k : Nat) (l0 : List Int) : Option (Bool) := (laws_lwBig.f l0).bind fun t258 => (if t258 = true then (some true) else ((spec_DrawRegionsMeet.f l0).bind fun bt259 => ((spec_DrawWipeRegion.f k l0).bind fun bt265 => ((impl_WipeRegion.f k bt265.1 bt265.2.1 bt265.2.2).bind fun bt271 => ((spec_WipeRegion.f k bt265.1 bt265.2.1 bt265.2.2).bind fun bt276 => (if bt271.1 = bt276.1 then (laws_FnRegions.l0 k bt265.1 0 bt259.1 bt259.2.1 bt259.2.2.1 bt259.2.2.2 bt265.2.1 bt265.2.2 bt271.1 bt271.2) else (some false)))))))
theorem laws_FnRegions.mono_l : ∀ k, (∀ y0 y1 y2 y3 y4 y5 y6 y7 y8 y9, LeO (laws_FnRegions.l0 k y0 y1 y2 y3 y4 y5 y6 y7 y8 y9) (laws_FnRegions.l0 (k + 1) y0 y1 y2 y3 y4 y5 y6 y7 y8 y9)) ∧ (∀ y0 y1 y2 y3 y4 y5 y6 y7 y8 y9 y10, LeO (laws_FnRegions.j1 k y0 y1 y2 y3 y4 y5 y6 y7 y8 y9 y10) (laws_FnRegions.j1 (k + 1) y0 y1 y2 y3 y4 y5 y6 y7 y8 y9 y10)) ∧ (∀ y0 y1 y2 y3 y4, LeO (laws_FnRegions.j2 k y0 y1 y2 y3 y4) (laws_FnRegions.j2 (k + 1) y0 y1 y2 y3 y4)) ∧ (∀ y0 y1 y2 y3 y4 y5, LeO (laws_FnRegions.l1 k y0 y1 y2 y3 y4 y5) (laws_FnRegions.l1 (k + 1) y0 y1 y2 y3 y4 y5))
  | 0 => ⟨fun _ _ _ _ _ _ _ _ _ _ r h => by simp [laws_FnRegions.l0] at h, fun _ _ _ _ _ _ _ _ _ _ _ r h => by simp [laws_FnRegions.j1] at h, fun _ _ _ _ _ r h => by simp [laws_FnRegions.j2] at h, fun _ _ _ _ _ _ r h => by simp [laws_FnRegions.l1] at h⟩
  | k + 1 => by
    obtain ⟨ih0, ih1, ih2, ih3⟩ := laws_FnRegions.mono_l k
    refine ⟨?_, ?_, ?_, ?_⟩
    · intro y0 y1 y2 y3 y4 y5 y6 y7 y8 y9
      unfold laws_FnRegions.l0
      repeat' first
      | (with_reducible exact ih0 _ _ _ _ _ _ _ _ _ _)
      | (with_reducible exact ih1 _ _ _ _ _ _ _ _ _ _ _)
      | (with_reducible exact ih2 _ _ _ _ _)
      | (with_reducible exact ih3 _ _ _ _ _ _)
      | (with_reducible exact impl_PagesOf.mono _ _ _)
      | (with_reducible exact impl_WipeRegion.mono _ _ _ _)
      | (with_reducible exact spec_DrawWipeRegion.mono _ _)
      | (with_reducible exact spec_WipeRegion.mono _ _ _ _)
      | (with_reducible exact LeO.refl _)
      | (with_reducible exact LeO.none _)
      | (with_reducible refine LeO.ite ?_ ?_)
      | (with_reducible refine LeO.bind ?_ (fun _ => ?_))
      | exact ih0 _ _ _ _ _ _ _ _ _ _
      | exact ih1 _ _ _ _ _ _ _ _ _ _ _
      | exact ih2 _ _ _ _ _
      | exact ih3 _ _ _ _ _ _
      | exact impl_PagesOf.mono _ _ _
      | exact impl_WipeRegion.mono _ _ _ _
      | exact spec_DrawWipeRegion.mono _ _
      | exact spec_WipeRegion.mono _ _ _ _
      | exact LeO.none _
      | refine LeO.ite ?_ ?_
      | refine LeO.bind ?_ (fun _ => ?_)
    · intro y0 y1 y2 y3 y4 y5 y6 y7 y8 y9 y10
      unfold laws_FnRegions.j1
      repeat' first
      | (with_reducible exact ih0 _ _ _ _ _ _ _ _ _ _)
      | (with_reducible exact ih1 _ _ _ _ _ _ _ _ _ _ _)
      | (with_reducible exact ih2 _ _ _ _ _)
      | (with_reducible exact ih3 _ _ _ _ _ _)
      | (with_reducible exact impl_PagesOf.mono _ _ _)
      | (with_reducible exact impl_WipeRegion.mono _ _ _ _)
      | (with_reducible exact spec_DrawWipeRegion.mono _ _)
      | (with_reducible exact spec_WipeRegion.mono _ _ _ _)
      | (with_reducible exact LeO.refl _)
      | (with_reducible exact LeO.none _)
      | (with_reducible refine LeO.ite ?_ ?_)
      | (with_reducible refine LeO.bind ?_ (fun _ => ?_))
      | exact ih0 _ _ _ _ _ _ _ _ _ _
      | exact ih1 _ _ _ _ _ _ _ _ _ _ _
      | exact ih2 _ _ _ _ _
      | exact ih3 _ _ _ _ _ _
      | exact impl_PagesOf.mono _ _ _
      | exact impl_WipeRegion.mono _ _ _ _
      | exact spec_DrawWipeRegion.mono _ _
      | exact spec_WipeRegion.mono _ _ _ _
      | exact LeO.none _
      | refine LeO.ite ?_ ?_
      | refine LeO.bind ?_ (fun _ => ?_)
    · intro y0 y1 y2 y3 y4
      unfold laws_FnRegions.j2
      repeat' first
      | (with_reducible exact ih0 _ _ _ _ _ _ _ _ _ _)
      | (with_reducible exact ih1 _ _ _ _ _ _ _ _ _ _ _)
      | (with_reducible exact ih2 _ _ _ _ _)
      | (with_reducible exact ih3 _ _ _ _ _ _)
      | (with_reducible exact impl_PagesOf.mono _ _ _)
      | (with_reducible exact impl_WipeRegion.mono _ _ _ _)
      | (with_reducible exact spec_DrawWipeRegion.mono _ _)
      | (with_reducible exact spec_WipeRegion.mono _ _ _ _)
      | (with_reducible exact LeO.refl _)
      | (with_reducible exact LeO.none _)
      | (with_reducible refine LeO.ite ?_ ?_)
      | (with_reducible refine LeO.bind ?_ (fun _ => ?_))
      | exact ih0 _ _ _ _ _ _ _ _ _ _
      | exact ih1 _ _ _ _ _ _ _ _ _ _ _
      | exact ih2 _ _ _ _ _
      | exact ih3 _ _ _ _ _ _
      | exact impl_PagesOf.mono _ _ _
      | exact impl_WipeRegion.mono _ _ _ _
      | exact spec_DrawWipeRegion.mono _ _
      | exact spec_WipeRegion.mono _ _ _ _
      | exact LeO.none _
      | refine LeO.ite ?_ ?_
      | refine LeO.bind ?_ (fun _ => ?_)
    · intro y0 y1 y2 y3 y4 y5
      unfold laws_FnRegions.l1
      repeat' first
      | (with_reducible exact ih0 _ _ _ _ _ _ _ _ _ _)
      | (with_reducible exact ih1 _ _ _ _ _ _ _ _ _ _ _)
      | (with_reducible exact ih2 _ _ _ _ _)
      | (with_reducible exact ih3 _ _ _ _ _ _)
      | (with_reducible exact impl_PagesOf.mono _ _ _)
      | (with_reducible exact impl_WipeRegion.mono _ _ _ _)
      | (with_reducible exact spec_DrawWipeRegion.mono _ _)
      | (with_reducible exact spec_WipeRegion.mono _ _ _ _)
      | (with_reducible exact LeO.refl _)
      | (with_reducible exact LeO.none _)
      | (with_reducible refine LeO.ite ?_ ?_)
      | (with_reducible refine LeO.bind ?_ (fun _ => ?_))
      | exact ih0 _ _ _ _ _ _ _ _ _ _
      | exact ih1 _ _ _ _ _ _ _ _ _ _ _
      | exact ih2 _ _ _ _ _
      | exact ih3 _ _ _ _ _ _
      | exact impl_PagesOf.mono _ _ _
      | exact impl_WipeRegion.mono _ _ _ _
      | exact spec_DrawWipeRegion.mono _ _
      | exact spec_WipeRegion.mono _ _ _ _
      | exact LeO.none _
      | refine LeO.ite ?_ ?_
      | refine LeO.bind ?_ (fun _ => ?_)
theorem laws_FnRegions.mono : ∀ a0 k, LeO (laws_FnRegions.f k a0) (laws_FnRegions.f (k + 1) a0) := by
  intro a0 k
  obtain ⟨ih0, ih1, ih2, ih3⟩ := laws_FnRegions.mono_l k
  unfold laws_FnRegions.f
  repeat' first
      | (with_reducible exact ih0 _ _ _ _ _ _ _ _ _ _)
      | (with_reducible exact ih1 _ _ _ _ _ _ _ _ _ _ _)
      | (with_reducible exact ih2 _ _ _ _ _)
      | (with_reducible exact ih3 _ _ _ _ _ _)
      | (with_reducible exact impl_PagesOf.mono _ _ _)
      | (with_reducible exact impl_WipeRegion.mono _ _ _ _)
      | (with_reducible exact spec_DrawWipeRegion.mono _ _)
      | (with_reducible exact spec_WipeRegion.mono _ _ _ _)
      | (with_reducible exact LeO.refl _)
      | (with_reducible exact LeO.none _)
      | (with_reducible refine LeO.ite ?_ ?_)
      | (with_reducible refine LeO.bind ?_ (fun _ => ?_))
      | exact ih0 _ _ _ _ _ _ _ _ _ _
      | exact ih1 _ _ _ _ _ _ _ _ _ _ _
      | exact ih2 _ _ _ _ _
      | exact ih3 _ _ _ _ _ _
      | exact impl_PagesOf.mono _ _ _
      | exact impl_WipeRegion.mono _ _ _ _
      | exact spec_DrawWipeRegion.mono _ _
      | exact spec_WipeRegion.mono _ _ _ _
      | exact LeO.none _
      | refine LeO.ite ?_ ?_
      | refine LeO.bind ?_ (fun _ => ?_)
def laws_FnRegions.T12 : Bool × List (List Nat × List Nat) := (true, [([], []), ([0], [0]), ([1], [1]), ([2, 1], [1, 2]), ([1], [1]), ([3, 4, 1], [1, 3, 4]), ([5, 1], [1, 5]), ([6, 1], [1, 6]), ([1, 7], [1, 7]), ([8, 1], [8]), ([9], [9]), ([10, 9], [9, 10]), ([11, 9, 9], [9, 11]), ([12], [12]), ([13, 12], [12, 13]), ([12], [12]), ([14, 15, 12], [12, 14, 15]), ([16, 12], [12, 16]), ([12], [12]), ([12], [12]), ([18, 19, 12], [12, 18, 19]), ([20, 12], [12, 20]), ([17, 21, 12], [12, 17, 21]), ([12, 22, 9], [9, 12, 22]), ([9, 23], [9, 23])])
def laws_FnRegions.B12 : List Nat := [0, 1, 3, 7, 3, 31, 63, 127, 255, 511, 1023, 2047, 4095, 8191, 16383, 8191, 65535, 131071, 8191, 8191, 794623, 1843199, 4194303, 8388607, 16777215]
theorem laws_FnRegions.tab12 : rtab .any (opsOf Try.f7 12) = laws_FnRegions.T12 := by kernel_rfl
theorem laws_FnRegions.bits12 : waitsOk laws_FnRegions.T12.2 laws_FnRegions.B12 = true := by kernel_rfl
set_option maxHeartbeats 8000000 in
set_option maxRecDepth 100000 in
theorem laws_FnRegions.calls (k : Nat) (A0 : Option Addr) (c0 : Nat) (l0 : List Int) (w : World) (hr0 : Kd.C (Kd.int .u8) w A0 l0.length l0) (hc0 : l0.length ≤ c0) (h : laws_FnRegions.f k l0 = some true) :
    Calls Try.prog 7 #[.slice A0 l0.length c0] w fun e w' => e = .returned (.bool true) ∧ Below w.heap.size w w' := by
  have hfd31_0 : ∀ (c0_ c1_ : Value) (W : World), (Instr.field 31 (.agg #[c0_, c1_]) 0).run Try.prog W = .ok (c0_) W := fun c0_ c1_ W => by rfl
  have hu47 := Try.underlying47
  have hu31 := Try.underlying31
  have hu57 := Try.underlying57
  have HR0 := Aside0.mk hr0
  have HC0 := Aside0.mk hc0
  clear hr0 hc0
  have HB := Aside0.mk (Below.refl w.heap.size w)
  have H : ((laws_lwBig.f l0).bind fun t258 => (if t258 = true then (some true) else ((spec_DrawRegionsMeet.f l0).bind fun bt259 => ((spec_DrawWipeRegion.f k l0).bind fun bt265 => ((impl_WipeRegion.f k bt265.1 bt265.2.1 bt265.2.2).bind fun bt271 => ((spec_WipeRegion.f k bt265.1 bt265.2.1 bt265.2.2).bind fun bt276 => (if bt271.1 = bt276.1 then (laws_FnRegions.l0 k bt265.1 0 bt259.1 bt259.2.1 bt259.2.2.1 bt259.2.2.2 bt265.2.1 bt265.2.2 bt271.1 bt271.2) else (some false)))))))) = some true := h
  clear h
  replace H := Option.bind_eq_some_iff.mp H
  obtain ⟨t258, A20, H⟩ := H
  replace H : (if t258 = true then (some true) else ((spec_DrawRegionsMeet.f l0).bind fun bt259 => ((spec_DrawWipeRegion.f k l0).bind fun bt265 => ((impl_WipeRegion.f k bt265.1 bt265.2.1 bt265.2.2).bind fun bt271 => ((spec_WipeRegion.f k bt265.1 bt265.2.1 bt265.2.2).bind fun bt276 => (if bt271.1 = bt276.1 then (laws_FnRegions.l0 k bt265.1 0 bt259.1 bt259.2.1 bt259.2.2.1 bt259.2.2.2 bt265.2.1 bt265.2.2 bt271.1 bt271.2) else (some false))))))) = some true := H
  have A2 := Aside0.mk A20
  clear A20
  by_cases c3 : t258 = true
  · subst c3
    have H1 : (some true) = some true := rfl
    clear H
    have H := H1
    clear H1
    clear H
    go_enter Try.func7, Try.ntmps7
    go_wp2_with (first | ((with_reducible refine gate_callee (f := 21) rfl ?_); refine goesL_ (some 14) rfl rfl Try.func21 (by kernel_rfl) rfl #[.slice A0 l0.length c0] rfl (by (try simp only [List.map_toArray, List.map_cons, List.map_nil]); first | done | rfl | (simp only [List.length_drop, List.length_take]; rfl)) ?_; (with_reducible refine (laws_lwBig.calls _ _ l0 true _ ?side1 ?side2 A2.out).mono ?_); (case side1 => repeat (first | exact HR0.out | (with_reducible refine Kd.C_alloc ?_ _) | (with_reducible refine Kd.C_drewN ?_ _) | (with_reducible refine Kd.C_drew ?_))); (case side2 => exact HC0.out); rintro e w' ⟨rfl, ⟨nd, rfl⟩⟩; refine ⟨_, rfl, ?_⟩))
    go_ret
    exact ⟨by first | rfl | (simp [errW_none, errW_some] <;> rfl) | (simp [*, errW_none, errW_some] <;> rfl), by repeat (first | (with_reducible first | exact HB.out | apply below_alloc | apply pw_below_drewN | apply below_drew1) | exact HB.out)⟩
  · replace c3 := Bool.eq_false_iff.mpr c3
    subst c3
    have H1 : ((spec_DrawRegionsMeet.f l0).bind fun bt259 => ((spec_DrawWipeRegion.f k l0).bind fun bt265 => ((impl_WipeRegion.f k bt265.1 bt265.2.1 bt265.2.2).bind fun bt271 => ((spec_WipeRegion.f k bt265.1 bt265.2.1 bt265.2.2).bind fun bt276 => (if bt271.1 = bt276.1 then (laws_FnRegions.l0 k bt265.1 0 bt259.1 bt259.2.1 bt259.2.2.1 bt259.2.2.2 bt265.2.1 bt265.2.2 bt271.1 bt271.2) else (some false)))))) = some true := by rw [if_neg (show ¬ (false = true) by decide)] at H; exact H
    clear H
    have H := H1
    clear H1
    replace H := Option.bind_eq_some_iff.mp H
    obtain ⟨⟨t259, t260, t261, t262⟩, A40, H⟩ := H
    replace H : ((spec_DrawWipeRegion.f k l0).bind fun bt265 => ((impl_WipeRegion.f k bt265.1 bt265.2.1 bt265.2.2).bind fun bt271 => ((spec_WipeRegion.f k bt265.1 bt265.2.1 bt265.2.2).bind fun bt276 => (if bt271.1 = bt276.1 then (laws_FnRegions.l0 k bt265.1 0 t259 t260 t261 t262 bt265.2.1 bt265.2.2 bt271.1 bt271.2) else (some false))))) = some true := H
    have A4 := Aside0.mk A40
    clear A40
    replace H := Option.bind_eq_some_iff.mp H
    obtain ⟨⟨t265, t268, t269⟩, A50, H⟩ := H
    replace H : ((impl_WipeRegion.f k t265 t268 t269).bind fun bt271 => ((spec_WipeRegion.f k t265 t268 t269).bind fun bt276 => (if bt271.1 = bt276.1 then (laws_FnRegions.l0 k t265 0 t259 t260 t261 t262 t268 t269 bt271.1 bt271.2) else (some false)))) = some true := H
    have A5 := Aside0.mk A50
    clear A50
    replace H := Option.bind_eq_some_iff.mp H
    obtain ⟨⟨t271, t272⟩, A60, H⟩ := H
    replace H : ((spec_WipeRegion.f k t265 t268 t269).bind fun bt276 => (if t271 = bt276.1 then (laws_FnRegions.l0 k t265 0 t259 t260 t261 t262 t268 t269 t271 t272) else (some false))) = some true := H
    have A6 := Aside0.mk A60
    clear A60
    replace H := Option.bind_eq_some_iff.mp H
    obtain ⟨⟨t276, t277⟩, A70, H⟩ := H
    replace H : (if t271 = t276 then (laws_FnRegions.l0 k t265 0 t259 t260 t261 t262 t268 t269 t271 t272) else (some false)) = some true := H
    have A7 := Aside0.mk A70
    clear A70
    by_cases c8 : t271 = t276
    · rw [if_pos c8] at H
      have c8b0 : (t271 == t276) = true := beq_iff_eq.mpr c8
      have c8b1 : (t271 != t276) = false := bne_eq_false_iff_eq.mpr c8
      clear c8
      have H' := Aside0.mk H
      clear H
      go_enter Try.func7, Try.ntmps7
      try go_wp2_with (first | ((with_reducible refine gate_callee (f := 21) rfl ?_); refine goesL_ (some 14) rfl rfl Try.func21 (by kernel_rfl) rfl #[.slice A0 l0.length c0] rfl (by (try simp only [List.map_toArray, List.map_cons, List.map_nil]); first | done | rfl | (simp only [List.length_drop, List.length_take]; rfl)) ?_; (with_reducible refine (laws_lwBig.calls _ _ l0 false _ ?side1 ?side2 A2.out).mono ?_); (case side1 => repeat (first | exact HR0.out | (with_reducible refine Kd.C_alloc ?_ _) | (with_reducible refine Kd.C_drewN ?_ _) | (with_reducible refine Kd.C_drew ?_))); (case side2 => exact HC0.out); rintro e w' ⟨rfl, ⟨nd, rfl⟩⟩; refine ⟨_, rfl, ?_⟩) | ((with_reducible refine gate_callee (f := 30) rfl ?_); refine goesL_ (some 17) rfl rfl Try.func30 (by kernel_rfl) rfl #[.slice A0 l0.length c0] rfl (by (try simp only [List.map_toArray, List.map_cons, List.map_nil]); first | done | rfl | (simp only [List.length_drop, List.length_take]; rfl)) ?_; (with_reducible refine (spec_DrawRegionsMeet.calls _ _ l0 t259 t260 t261 t262 _ ?side1 ?side2 A4.out).mono ?_); (case side1 => repeat (first | exact HR0.out | (with_reducible refine Kd.C_alloc ?_ _) | (with_reducible refine Kd.C_drewN ?_ _) | (with_reducible refine Kd.C_drew ?_))); (case side2 => exact HC0.out); rintro e w9 ⟨rfl, hb⟩; refine ⟨_, rfl, ?_⟩; have n0_ := Aside0.mk (below_step (by repeat (first | (with_reducible first | exact HB.out | apply below_alloc | apply pw_below_drewN | apply below_drew1) | exact HB.out)) hb); clear HB; have HB := n0_; clear n0_; (try clear hb); (try clear hb2); (try clear hk); (try clear hi)) | ((with_reducible refine gate_dst (N := 3) rfl ?_); (try (refine gate_guard (by rfl) ?_; dsimp only)); refine box_event ?hg (N := 3) ?hd (cs := #[.int .i64 0, .int .i64 0]) (t := 47) ?hr ?_; (case hd => rfl); (case hg => rfl); (case hr => first | (go_simp; done) | (go_simp; rfl)); intro gb263 hg w10 hbox hb; have n0_ := Aside0.mk (below_step (by repeat (first | (with_reducible first | exact HB.out | apply below_alloc | apply pw_below_drewN | apply below_drew1) | exact HB.out)) hb); have n1_ := Aside0.mk (hbox); have n2_ := Aside0.mk ((by rw [hg]; exact (below_size (by repeat (first | (with_reducible first | exact HB.out | apply below_alloc | apply pw_below_drewN | apply below_drew1) | exact HB.out))) : w.heap.size ≤ gb263)); have n3_ := Aside0.mk ((by rw [hg]; exact (below_size (by repeat (first | (with_reducible first | exact HB.out | apply below_alloc | apply pw_below_drewN | apply below_drew1) | exact HB.out))) : w.heap.size ≤ gb263)); clear HB; have HB := n0_; have BK263 := n1_; have GW263 := n2_; have GE263 := n3_; clear n0_ n1_ n2_ n3_; clear hb hbox hg) | ((with_reducible refine gate_dst (N := 4) rfl ?_); (try (refine gate_guard (by rfl) ?_; dsimp only)); refine box_event ?hg (N := 4) ?hd (cs := #[.int .i64 0, .int .i64 0]) (t := 47) ?hr ?_; (case hd => rfl); (case hg => rfl); (case hr => first | (go_simp; done) | (go_simp; rfl)); intro gb264 hg w11 hbox hb; have n0_ := Aside0.mk (blk_below (g := gb263) (o := .cells #[.int .i64 0, .int .i64 0] 47 (0, 0)) (by (with_reducible repeat (first | refine blk_drewN ?_ _ | refine blk_drew ?_ | refine blk_alloc ?_ _)); exact BK263.out) hb); have n1_ := Aside0.mk (below_step (by repeat (first | (with_reducible first | exact HB.out | apply below_alloc | apply pw_below_drewN | apply below_drew1 | refine below_set ?_ GE263.out) | exact HB.out)) hb); have n2_ := Aside0.mk (hbox); have n3_ := Aside0.mk ((by rw [hg]; exact (below_size (by repeat (first | (with_reducible first | exact HB.out | apply below_alloc | apply pw_below_drewN | apply below_drew1 | refine below_set ?_ GE263.out) | exact HB.out))) : w.heap.size ≤ gb264)); have n4_ := Aside0.mk ((by rw [hg]; exact (below_size (by repeat (first | (with_reducible first | exact HB.out | apply below_alloc | apply pw_below_drewN | apply below_drew1 | refine below_set ?_ GE263.out) | exact HB.out))) : w.heap.size ≤ gb264)); have n5_ := Aside0.mk ((by rw [hg]; exact Nat.ne_of_lt (blk_lt (g := gb263) (o := .cells #[.int .i64 0, .int .i64 0] 47 (0, 0)) (by (with_reducible repeat (first | refine blk_drewN ?_ _ | refine blk_drew ?_ | refine blk_alloc ?_ _)); exact BK263.out)) : gb263 ≠ gb264)); have n6_ := Aside0.mk ((by rw [hg]; exact Nat.ne_of_gt (blk_lt (g := gb263) (o := .cells #[.int .i64 0, .int .i64 0] 47 (0, 0)) (by (with_reducible repeat (first | refine blk_drewN ?_ _ | refine blk_drew ?_ | refine blk_alloc ?_ _)); exact BK263.out)) : gb264 ≠ gb263)); clear BK263; clear HB; have BK263 := n0_; have HB := n1_; have BK264 := n2_; have GW264 := n3_; have GE264 := n4_; have NB263_264 := n5_; have NB264_263 := n6_; clear n0_ n1_ n2_ n3_ n4_ n5_ n6_; clear hb hbox hg; have hnb12 := NB263_264.out; have hnc12 := NB264_263.out; have hcz13_0 : w11.cell? ⟨gb263, 0, none⟩ = some (.int .i64 0) := (blk_cell BK263.out 0).trans rfl; have hcz13_1 : w11.cell? ⟨gb263, 1, none⟩ = some (.int .i64 0) := (blk_cell BK263.out 1).trans rfl; have hfz13_0 := blk_frozen BK263.out 0; have hfz13_1 := blk_frozen BK263.out 1; have hcz14_0 : w11.cell? ⟨gb264, 0, none⟩ = some (.int .i64 0) := (blk_cell BK264.out 0).trans rfl; have hcz14_1 : w11.cell? ⟨gb264, 1, none⟩ = some (.int .i64 0) := (blk_cell BK264.out 1).trans rfl; have hfz14_0 := blk_frozen BK264.out 0; have hfz14_1 := blk_frozen BK264.out 1) | ((with_reducible refine gate_callee (f := 31) rfl ?_); refine goesL_ (some 22) rfl rfl Try.func31 (by kernel_rfl) rfl #[.slice A0 l0.length c0] rfl (by (try simp only [List.map_toArray, List.map_cons, List.map_nil]); first | done | rfl | (simp only [List.length_drop, List.length_take]; rfl)) ?_; (with_reducible refine (spec_DrawWipeRegion.calls k _ _ l0 t265 t268 t269 _ ?side1 ?side2 A5.out).mono ?_); (case side1 => exact Kd.C_below HR0.out (by repeat (first | (with_reducible first | exact HB.out | apply below_alloc | apply pw_below_drewN | apply below_drew1 | refine below_set ?_ GE263.out | refine below_set ?_ GE264.out) | exact HB.out))); (case side2 => exact HC0.out); rintro e w15 ⟨v266, rfl, ho0, hb⟩; refine ⟨_, rfl, ?_⟩; have n0_ := Aside0.mk (Kd.Q_lower ho0 (below_size (by repeat (first | (with_reducible first | exact HB.out | apply below_alloc | apply pw_below_drewN | apply below_drew1 | refine below_set ?_ GE263.out | refine below_set ?_ GE264.out) | exact HB.out)))); have n1_ := Aside0.mk (blk_below (g := gb263) (o := .cells #[.int .i64 t259, .int .i64 t260] 47 (0, 0)) (by (with_reducible repeat (first | refine blk_drewN ?_ _ | refine blk_drew ?_ | refine blk_alloc ?_ _)); refine blk_far ?_ NB263_264.out _; (with_reducible repeat (first | refine blk_drewN ?_ _ | refine blk_drew ?_ | refine blk_alloc ?_ _)); refine blk_far ?_ NB263_264.out _; (with_reducible repeat (first | refine blk_drewN ?_ _ | refine blk_drew ?_ | refine blk_alloc ?_ _)); refine blk_put (cs := #[.int .i64 t259, .int .i64 0]) ?_ 1 _ rfl; (with_reducible repeat (first | refine blk_drewN ?_ _ | refine blk_drew ?_ | refine blk_alloc ?_ _)); refine blk_put (cs := #[.int .i64 0, .int .i64 0]) ?_ 0 _ rfl; (with_reducible repeat (first | refine blk_drewN ?_ _ | refine blk_drew ?_ | refine blk_alloc ?_ _)); exact BK263.out) hb); have n2_ := Aside0.mk (blk_below (g := gb264) (o := .cells #[.int .i64 t261, .int .i64 t262] 47 (0, 0)) (by (with_reducible repeat (first | refine blk_drewN ?_ _ | refine blk_drew ?_ | refine blk_alloc ?_ _)); refine blk_put (cs := #[.int .i64 t261, .int .i64 0]) ?_ 1 _ rfl; (with_reducible repeat (first | refine blk_drewN ?_ _ | refine blk_drew ?_ | refine blk_alloc ?_ _)); refine blk_put (cs := #[.int .i64 0, .int .i64 0]) ?_ 0 _ rfl; (with_reducible repeat (first | refine blk_drewN ?_ _ | refine blk_drew ?_ | refine blk_alloc ?_ _)); refine blk_far ?_ NB264_263.out _; (with_reducible repeat (first | refine blk_drewN ?_ _ | refine blk_drew ?_ | refine blk_alloc ?_ _)); refine blk_far ?_ NB264_263.out _; (with_reducible repeat (first | refine blk_drewN ?_ _ | refine blk_drew ?_ | refine blk_alloc ?_ _)); exact BK264.out) hb); have n3_ := Aside0.mk (below_step (by repeat (first | (with_reducible first | exact HB.out | apply below_alloc | apply pw_below_drewN | apply below_drew1 | refine below_set ?_ GE263.out | refine below_set ?_ GE264.out) | exact HB.out)) hb); clear BK263; clear BK264; clear HB; have HO267 := n0_; have BK263 := n1_; have BK264 := n2_; have HB := n3_; clear n0_ n1_ n2_ n3_; (try clear hb); (try clear hb2); (try clear hk); (try clear hi); (try clear ho0)) | ((with_reducible refine gate_dst (N := 6) rfl ?_); (try (refine gate_guard (by rfl) ?_; dsimp only)); refine box_event ?hg (N := 6) ?hd (cs := #[.int .i64 0, .int .i64 0]) (t := 47) ?hr ?_; (case hd => rfl); (case hg => rfl); (case hr => first | (go_simp; done) | (go_simp; rfl)); intro gb270 hg w16 hbox hb; have n0_ := Aside0.mk (Kd.Q_below (by (with_reducible repeat (first | apply Kd.Q_alloc | apply Kd.Q_drewN | apply Kd.Q_drew)); exact HO267.out) hb); have n1_ := Aside0.mk (blk_below (g := gb263) (o := .cells #[.int .i64 t259, .int .i64 t260] 47 (0, 0)) (by (with_reducible repeat (first | refine blk_drewN ?_ _ | refine blk_drew ?_ | refine blk_alloc ?_ _)); exact BK263.out) hb); have n2_ := Aside0.mk (blk_below (g := gb264) (o := .cells #[.int .i64 t261, .int .i64 t262] 47 (0, 0)) (by (with_reducible repeat (first | refine blk_drewN ?_ _ | refine blk_drew ?_ | refine blk_alloc ?_ _)); exact BK264.out) hb); have n3_ := Aside0.mk (below_step (by repeat (first | (with_reducible first | exact HB.out | apply below_alloc | apply pw_below_drewN | apply below_drew1 | refine below_set ?_ GE263.out | refine below_set ?_ GE264.out) | exact HB.out)) hb); have n4_ := Aside0.mk (hbox); have n5_ := Aside0.mk ((by rw [hg]; exact (below_size (by repeat (first | (with_reducible first | exact HB.out | apply below_alloc | apply pw_below_drewN | apply below_drew1 | refine below_set ?_ GE263.out | refine below_set ?_ GE264.out) | exact HB.out))) : w.heap.size ≤ gb270)); have n6_ := Aside0.mk ((by rw [hg]; exact (below_size (by repeat (first | (with_reducible first | exact HB.out | apply below_alloc | apply pw_below_drewN | apply below_drew1 | refine below_set ?_ GE263.out | refine below_set ?_ GE264.out) | exact HB.out))) : w.heap.size ≤ gb270)); have n7_ := Aside0.mk ((by rw [hg]; exact Nat.ne_of_lt (blk_lt (g := gb263) (o := .cells #[.int .i64 t259, .int .i64 t260] 47 (0, 0)) (by (with_reducible repeat (first | refine blk_drewN ?_ _ | refine blk_drew ?_ | refine blk_alloc ?_ _)); exact BK263.out)) : gb263 ≠ gb270)); have n8_ := Aside0.mk ((by rw [hg]; exact Nat.ne_of_gt (blk_lt (g := gb263) (o := .cells #[.int .i64 t259, .int .i64 t260] 47 (0, 0)) (by (with_reducible repeat (first | refine blk_drewN ?_ _ | refine blk_drew ?_ | refine blk_alloc ?_ _)); exact BK263.out)) : gb270 ≠ gb263)); have n9_ := Aside0.mk ((by rw [hg]; exact Nat.ne_of_lt (blk_lt (g := gb264) (o := .cells #[.int .i64 t261, .int .i64 t262] 47 (0, 0)) (by (with_reducible repeat (first | refine blk_drewN ?_ _ | refine blk_drew ?_ | refine blk_alloc ?_ _)); exact BK264.out)) : gb264 ≠ gb270)); have n10_ := Aside0.mk ((by rw [hg]; exact Nat.ne_of_gt (blk_lt (g := gb264) (o := .cells #[.int .i64 t261, .int .i64 t262] 47 (0, 0)) (by (with_reducible repeat (first | refine blk_drewN ?_ _ | refine blk_drew ?_ | refine blk_alloc ?_ _)); exact BK264.out)) : gb270 ≠ gb264)); clear HO267; clear BK263; clear BK264; clear HB; have HO267 := n0_; have BK263 := n1_; have BK264 := n2_; have HB := n3_; have BK270 := n4_; have GW270 := n5_; have GE270 := n6_; have NB263_270 := n7_; have NB270_263 := n8_; have NB264_270 := n9_; have NB270_264 := n10_; clear n0_ n1_ n2_ n3_ n4_ n5_ n6_ n7_ n8_ n9_ n10_; clear hb hbox hg; have hnb17 := NB270_263.out; have hnc17 := NB263_270.out; have hnb18 := NB270_264.out; have hnc18 := NB264_270.out; have hcz19_0 : w16.cell? ⟨gb270, 0, none⟩ = some (.int .i64 0) := (blk_cell BK270.out 0).trans rfl; have hcz19_1 : w16.cell? ⟨gb270, 1, none⟩ = some (.int .i64 0) := (blk_cell BK270.out 1).trans rfl; have hfz19_0 := blk_frozen BK270.out 0; have hfz19_1 := blk_frozen BK270.out 1; obtain ⟨Ao20, co20, eo20, _⟩ := Kd.Q_slice HO267.out; subst eo20) | ((with_reducible refine gate_callee (f := 29) rfl ?_); refine goesL_ (some 27) rfl rfl Try.func29 (by kernel_rfl) rfl #[.slice Ao20 t265.length co20, .agg #[.int .i64 t268, .int .i64 t269]] rfl (by (try simp only [List.map_toArray, List.map_cons, List.map_nil]); first | done | rfl | (simp only [List.length_drop, List.length_take]; rfl)) ?_; (with_reducible refine (impl_WipeRegion.calls k _ _ t265 t268 t269 t271 t272 _ ?side1 ?side2 A6.out).mono ?_); (case side1 => refine (Kd.Q_reads' (e := 2) (base := w.heap.size) (ok := fun k_ => True) (n := t265.length) (c := co20) ?_).2.2; exact (by (with_reducible repeat (first | apply Kd.Q_alloc | apply Kd.Q_drewN | apply Kd.Q_drew)); exact (Kd.Q_mono (Kd.Q_far (p := ⟨gb270, 1, none⟩) (Kd.Q_far (p := ⟨gb270, 0, none⟩) (Kd.Q_types HO267.out BK270.out (by decide)) (fun _ hk => hk.2) (.int .i64 t268)) (fun _ hk => hk.2) (.int .i64 t269)) (fun _ h_ => h_.1)))); (case side2 => exact (Kd.Q_reads' HO267.out).2.1); rintro e w21 ⟨v273, rfl, ho0, hb⟩; refine ⟨_, rfl, ?_⟩; have n0_ := Aside0.mk (Kd.Q_elder' (by (with_reducible repeat (first | apply Kd.Q_alloc | apply Kd.Q_drewN | apply Kd.Q_drew)); exact (Kd.Q_mono (Kd.Q_far (p := ⟨gb270, 1, none⟩) (Kd.Q_far (p := ⟨gb270, 0, none⟩) (Kd.Q_types HO267.out BK270.out (by decide)) (fun _ hk => hk.2) (.int .i64 t268)) (fun _ hk => hk.2) (.int .i64 t269)) (fun _ h_ => h_.1))) (Kd.R_base ho0) hb); have n1_ := Aside0.mk (Kd.R_lower (Kd.R_new' ho0 (Kd.Q_lt (by (with_reducible repeat (first | apply Kd.Q_alloc | apply Kd.Q_drewN | apply Kd.Q_drew)); exact (Kd.Q_mono (Kd.Q_far (p := ⟨gb270, 1, none⟩) (Kd.Q_far (p := ⟨gb270, 0, none⟩) (Kd.Q_types HO267.out BK270.out (by decide)) (fun _ hk => hk.2) (.int .i64 t268)) (fun _ hk => hk.2) (.int .i64 t269)) (fun _ h_ => h_.1))))) (below_size (by repeat (first | (with_reducible first | exact HB.out | apply below_alloc | apply pw_below_drewN | apply below_drew1 | refine below_set ?_ GE263.out | refine below_set ?_ GE264.out | refine below_set ?_ GE270.out) | exact HB.out)))); have n2_ := Aside0.mk (blk_below (g := gb263) (o := .cells #[.int .i64 t259, .int .i64 t260] 47 (0, 0)) (by (with_reducible repeat (first | refine blk_drewN ?_ _ | refine blk_drew ?_ | refine blk_alloc ?_ _)); refine blk_far ?_ NB263_270.out _; (with_reducible repeat (first | refine blk_drewN ?_ _ | refine blk_drew ?_ | refine blk_alloc ?_ _)); refine blk_far ?_ NB263_270.out _; (with_reducible repeat (first | refine blk_drewN ?_ _ | refine blk_drew ?_ | refine blk_alloc ?_ _)); exact BK263.out) hb); have n3_ := Aside0.mk (blk_below (g := gb264) (o := .cells #[.int .i64 t261, .int .i64 t262] 47 (0, 0)) (by (with_reducible repeat (first | refine blk_drewN ?_ _ | refine blk_drew ?_ | refine blk_alloc ?_ _)); refine blk_far ?_ NB264_270.out _; (with_reducible repeat (first | refine blk_drewN ?_ _ | refine blk_drew ?_ | refine blk_alloc ?_ _)); refine blk_far ?_ NB264_270.out _; (with_reducible repeat (first | refine blk_drewN ?_ _ | refine blk_drew ?_ | refine blk_alloc ?_ _)); exact BK264.out) hb); have n4_ := Aside0.mk (blk_below (g := gb270) (o := .cells #[.int .i64 t268, .int .i64 t269] 47 (0, 0)) (by (with_reducible repeat (first | refine blk_drewN ?_ _ | refine blk_drew ?_ | refine blk_alloc ?_ _)); refine blk_put (cs := #[.int .i64 t268, .int .i64 0]) ?_ 1 _ rfl; (with_reducible repeat (first | refine blk_drewN ?_ _ | refine blk_drew ?_ | refine blk_alloc ?_ _)); refine blk_put (cs := #[.int .i64 0, .int .i64 0]) ?_ 0 _ rfl; (with_reducible repeat (first | refine blk_drewN ?_ _ | refine blk_drew ?_ | refine blk_alloc ?_ _)); exact BK270.out) hb); have n5_ := Aside0.mk (below_step (by repeat (first | (with_reducible first | exact HB.out | apply below_alloc | apply pw_below_drewN | apply below_drew1 | refine below_set ?_ GE263.out | refine below_set ?_ GE264.out | refine below_set ?_ GE270.out) | exact HB.out)) hb); clear HO267; clear BK263; clear BK264; clear BK270; clear HB; have HO267 := n0_; have HO274 := n1_; have BK263 := n2_; have BK264 := n3_; have BK270 := n4_; have HB := n5_; clear n0_ n1_ n2_ n3_ n4_ n5_; (try clear hb); (try clear hb2); (try clear hk); (try clear hi); (try clear ho0)) | ((with_reducible refine gate_dst (N := 7) rfl ?_); (try (refine gate_guard (by rfl) ?_; dsimp only)); refine box_event ?hg (N := 7) ?hd (cs := #[.int .i64 0, .slice none 0 0]) (t := 31) ?hr ?_; (case hd => rfl); (case hg => rfl); (case hr => first | (go_simp; done) | (go_simp; rfl)); intro gb275 hg w22 hbox hb; have n0_ := Aside0.mk (Kd.Q_below (by (with_reducible repeat (first | apply Kd.Q_alloc | apply Kd.Q_drewN | apply Kd.Q_drew)); exact HO267.out) hb); have n1_ := Aside0.mk (Kd.R_below (by (with_reducible repeat (first | apply Kd.R_alloc | apply Kd.R_drewN | apply Kd.R_drew)); exact HO274.out) hb); have n2_ := Aside0.mk (blk_below (g := gb263) (o := .cells #[.int .i64 t259, .int .i64 t260] 47 (0, 0)) (by (with_reducible repeat (first | refine blk_drewN ?_ _ | refine blk_drew ?_ | refine blk_alloc ?_ _)); exact BK263.out) hb); have n3_ := Aside0.mk (blk_below (g := gb264) (o := .cells #[.int .i64 t261, .int .i64 t262] 47 (0, 0)) (by (with_reducible repeat (first | refine blk_drewN ?_ _ | refine blk_drew ?_ | refine blk_alloc ?_ _)); exact BK264.out) hb); have n4_ := Aside0.mk (blk_below (g := gb270) (o := .cells #[.int .i64 t268, .int .i64 t269] 47 (0, 0)) (by (with_reducible repeat (first | refine blk_drewN ?_ _ | refine blk_drew ?_ | refine blk_alloc ?_ _)); exact BK270.out) hb); have n5_ := Aside0.mk (below_step (by repeat (first | (with_reducible first | exact HB.out | apply below_alloc | apply pw_below_drewN | apply below_drew1 | refine below_set ?_ GE263.out | refine below_set ?_ GE264.out | refine below_set ?_ GE270.out) | exact HB.out)) hb); have n6_ := Aside0.mk (hbox); have n7_ := Aside0.mk ((by rw [hg]; exact (below_size (by repeat (first | (with_reducible first | exact HB.out | apply below_alloc | apply pw_below_drewN | apply below_drew1 | refine below_set ?_ GE263.out | refine below_set ?_ GE264.out | refine below_set ?_ GE270.out) | exact HB.out))) : w.heap.size ≤ gb275)); have n8_ := Aside0.mk ((by rw [hg]; exact (below_size (by repeat (first | (with_reducible first | exact HB.out | apply below_alloc | apply pw_below_drewN | apply below_drew1 | refine below_set ?_ GE263.out | refine below_set ?_ GE264.out | refine below_set ?_ GE270.out) | exact HB.out))) : w.heap.size ≤ gb275)); have n9_ := Aside0.mk ((by rw [hg]; exact Nat.ne_of_lt (blk_lt (g := gb263) (o := .cells #[.int .i64 t259, .int .i64 t260] 47 (0, 0)) (by (with_reducible repeat (first | refine blk_drewN ?_ _ | refine blk_drew ?_ | refine blk_alloc ?_ _)); exact BK263.out)) : gb263 ≠ gb275)); have n10_ := Aside0.mk ((by rw [hg]; exact Nat.ne_of_gt (blk_lt (g := gb263) (o := .cells #[.int .i64 t259, .int .i64 t260] 47 (0, 0)) (by (with_reducible repeat (first | refine blk_drewN ?_ _ | refine blk_drew ?_ | refine blk_alloc ?_ _)); exact BK263.out)) : gb275 ≠ gb263)); have n11_ := Aside0.mk ((by rw [hg]; exact Nat.ne_of_lt (blk_lt (g := gb264) (o := .cells #[.int .i64 t261, .int .i64 t262] 47 (0, 0)) (by (with_reducible repeat (first | refine blk_drewN ?_ _ | refine blk_drew ?_ | refine blk_alloc ?_ _)); exact BK264.out)) : gb264 ≠ gb275)); have n12_ := Aside0.mk ((by rw [hg]; exact Nat.ne_of_gt (blk_lt (g := gb264) (o := .cells #[.int .i64 t261, .int .i64 t262] 47 (0, 0)) (by (with_reducible repeat (first | refine blk_drewN ?_ _ | refine blk_drew ?_ | refine blk_alloc ?_ _)); exact BK264.out)) : gb275 ≠ gb264)); have n13_ := Aside0.mk ((by rw [hg]; exact Nat.ne_of_lt (blk_lt (g := gb270) (o := .cells #[.int .i64 t268, .int .i64 t269] 47 (0, 0)) (by (with_reducible repeat (first | refine blk_drewN ?_ _ | refine blk_drew ?_ | refine blk_alloc ?_ _)); exact BK270.out)) : gb270 ≠ gb275)); have n14_ := Aside0.mk ((by rw [hg]; exact Nat.ne_of_gt (blk_lt (g := gb270) (o := .cells #[.int .i64 t268, .int .i64 t269] 47 (0, 0)) (by (with_reducible repeat (first | refine blk_drewN ?_ _ | refine blk_drew ?_ | refine blk_alloc ?_ _)); exact BK270.out)) : gb275 ≠ gb270)); clear HO267; clear HO274; clear BK263; clear BK264; clear BK270; clear HB; have HO267 := n0_; have HO274 := n1_; have BK263 := n2_; have BK264 := n3_; have BK270 := n4_; have HB := n5_; have BK275 := n6_; have GW275 := n7_; have GE275 := n8_; have NB263_275 := n9_; have NB275_263 := n10_; have NB264_275 := n11_; have NB275_264 := n12_; have NB270_275 := n13_; have NB275_270 := n14_; clear n0_ n1_ n2_ n3_ n4_ n5_ n6_ n7_ n8_ n9_ n10_ n11_ n12_ n13_ n14_; clear hb hbox hg; have hnb23 := NB275_263.out; have hnc23 := NB263_275.out; have hnb24 := NB275_264.out; have hnc24 := NB264_275.out; have hnb25 := NB275_270.out; have hnc25 := NB270_275.out; have hcz26_0 : w22.cell? ⟨gb275, 0, none⟩ = some (.int .i64 0) := (blk_cell BK275.out 0).trans rfl; have hcz26_1 : w22.cell? ⟨gb275, 1, none⟩ = some (.slice none 0 0) := (blk_cell BK275.out 1).trans rfl; have hfz26_0 := blk_frozen BK275.out 0; have hfz26_1 := blk_frozen BK275.out 1; obtain ⟨Ao27, co27, eo27⟩ := Kd.R_slice HO274.out; subst eo27))
      have n0_ : Aside0 (Kd.Q (Kd.int .i64) 2 ((w22.setCell ⟨gb275, 0, none⟩ (.int .i64 t271)).setCell ⟨gb275, 1, none⟩ (.slice Ao27 t272.length co27)) w.heap.size (fun k_ => some k_ ≠ (.slice Ao27 t272.length co27 : Value).ownBlock) (.slice Ao20 t265.length co20) t265) := ⟨by (with_reducible repeat (first | apply Kd.Q_alloc | apply Kd.Q_drewN | apply Kd.Q_drew)); exact Kd.Q_mono (Kd.Q_far (p := ⟨gb275, 1, none⟩) (Kd.Q_far (p := ⟨gb275, 0, none⟩) (Kd.Q_types HO267.out BK275.out (by decide)) (fun _ hk => hk.2) (.int .i64 t271)) (fun _ hk => hk.2) (.slice Ao27 t272.length co27)) (fun _ hk => hk.1.2)⟩
      have n1_ : Aside0 (Kd.R (Kd.int .i64) 2 ((w22.setCell ⟨gb275, 0, none⟩ (.int .i64 t271)).setCell ⟨gb275, 1, none⟩ (.slice Ao27 t272.length co27)) w.heap.size (fun k_ => some k_ ≠ (.slice Ao20 t265.length co20 : Value).ownBlock) (.slice Ao27 t272.length co27) t272) := ⟨by (with_reducible repeat (first | apply Kd.R_alloc | apply Kd.R_drewN | apply Kd.R_drew)); exact Kd.R_mono (Kd.R_far (p := ⟨gb275, 1, none⟩) (Kd.R_far (p := ⟨gb275, 0, none⟩) (Kd.R_types HO274.out BK275.out (by decide)) (fun _ hk => hk.2) (.int .i64 t271)) (fun _ hk => hk.2) (.slice Ao27 t272.length co27)) (fun _ hk => hk.1.2)⟩
      have n2_ : Aside0 (((w22.setCell ⟨gb275, 0, none⟩ (.int .i64 t271)).setCell ⟨gb275, 1, none⟩ (.slice Ao27 t272.length co27)).heap[gb263]? = some (.cells #[.int .i64 t259, .int .i64 t260] 47 (0, 0))) := ⟨by (with_reducible repeat (first | refine blk_drewN ?_ _ | refine blk_drew ?_ | refine blk_alloc ?_ _)); refine blk_far ?_ NB263_275.out _; (with_reducible repeat (first | refine blk_drewN ?_ _ | refine blk_drew ?_ | refine blk_alloc ?_ _)); refine blk_far ?_ NB263_275.out _; (with_reducible repeat (first | refine blk_drewN ?_ _ | refine blk_drew ?_ | refine blk_alloc ?_ _)); exact BK263.out⟩
      have n3_ : Aside0 (((w22.setCell ⟨gb275, 0, none⟩ (.int .i64 t271)).setCell ⟨gb275, 1, none⟩ (.slice Ao27 t272.length co27)).heap[gb264]? = some (.cells #[.int .i64 t261, .int .i64 t262] 47 (0, 0))) := ⟨by (with_reducible repeat (first | refine blk_drewN ?_ _ | refine blk_drew ?_ | refine blk_alloc ?_ _)); refine blk_far ?_ NB264_275.out _; (with_reducible repeat (first | refine blk_drewN ?_ _ | refine blk_drew ?_ | refine blk_alloc ?_ _)); refine blk_far ?_ NB264_275.out _; (with_reducible repeat (first | refine blk_drewN ?_ _ | refine blk_drew ?_ | refine blk_alloc ?_ _)); exact BK264.out⟩
      have n4_ : Aside0 (((w22.setCell ⟨gb275, 0, none⟩ (.int .i64 t271)).setCell ⟨gb275, 1, none⟩ (.slice Ao27 t272.length co27)).heap[gb270]? = some (.cells #[.int .i64 t268, .int .i64 t269] 47 (0, 0))) := ⟨by (with_reducible repeat (first | refine blk_drewN ?_ _ | refine blk_drew ?_ | refine blk_alloc ?_ _)); refine blk_far ?_ NB270_275.out _; (with_reducible repeat (first | refine blk_drewN ?_ _ | refine blk_drew ?_ | refine blk_alloc ?_ _)); refine blk_far ?_ NB270_275.out _; (with_reducible repeat (first | refine blk_drewN ?_ _ | refine blk_drew ?_ | refine blk_alloc ?_ _)); exact BK270.out⟩
      have n5_ : Aside0 (((w22.setCell ⟨gb275, 0, none⟩ (.int .i64 t271)).setCell ⟨gb275, 1, none⟩ (.slice Ao27 t272.length co27)).heap[gb275]? = some (.cells #[.int .i64 t271, .slice Ao27 t272.length co27] 31 (0, 0))) := ⟨by (with_reducible repeat (first | refine blk_drewN ?_ _ | refine blk_drew ?_ | refine blk_alloc ?_ _)); refine blk_put (cs := #[.int .i64 t271, .slice none 0 0]) ?_ 1 _ rfl; (with_reducible repeat (first | refine blk_drewN ?_ _ | refine blk_drew ?_ | refine blk_alloc ?_ _)); refine blk_put (cs := #[.int .i64 0, .slice none 0 0]) ?_ 0 _ rfl; (with_reducible repeat (first | refine blk_drewN ?_ _ | refine blk_drew ?_ | refine blk_alloc ?_ _)); exact BK275.out⟩
      have n6_ : Aside0 (Below w.heap.size w ((w22.setCell ⟨gb275, 0, none⟩ (.int .i64 t271)).setCell ⟨gb275, 1, none⟩ (.slice Ao27 t272.length co27))) := ⟨by repeat (first | (with_reducible first | exact HB.out | apply below_alloc | apply pw_below_drewN | apply below_drew1 | refine below_set ?_ GE263.out | refine below_set ?_ GE264.out | refine below_set ?_ GE270.out | refine below_set ?_ GE275.out) | exact HB.out)⟩
      (try clear HO267)
      (try clear HO274)
      (try clear BK263)
      (try clear BK264)
      (try clear BK270)
      (try clear BK275)
      (try clear HB)
      generalize ((w22.setCell ⟨gb275, 0, none⟩ (.int .i64 t271)).setCell ⟨gb275, 1, none⟩ (.slice Ao27 t272.length co27)) = w28 at n0_ n1_ n2_ n3_ n4_ n5_ n6_ ⊢
      have HO267 := n0_
      have HO274 := n1_
      have BK263 := n2_
      have BK264 := n3_
      have BK270 := n4_
      have BK275 := n5_
      have HB := n6_
      clear n0_ n1_ n2_ n3_ n4_ n5_ n6_
      have n0_ := Aside0.mk (Kd.Q_drew HO267.out)
      have n1_ := Aside0.mk (Kd.R_drew HO274.out)
      have n2_ := Aside0.mk (blk_drew BK263.out)
      have n3_ := Aside0.mk (blk_drew BK264.out)
      have n4_ := Aside0.mk (blk_drew BK270.out)
      have n5_ := Aside0.mk (blk_drew BK275.out)
      have n6_ := Aside0.mk (below_drew1 HB.out)
      clear HO267
      clear HO274
      clear BK263
      clear BK264
      clear BK270
      clear BK275
      clear HB
      have HO267 := n0_
      have HO274 := n1_
      have BK263 := n2_
      have BK264 := n3_
      have BK270 := n4_
      have BK275 := n5_
      have HB := n6_
      clear n0_ n1_ n2_ n3_ n4_ n5_ n6_
      refine start_ (n := 7) (S := fun w' => w'.cell? ⟨gb275, 0, none⟩ = some (.int .i64 t271) ∧ w'.cell? ⟨gb275, 1, none⟩ = some (.slice Ao27 t272.length co27) ∧ w'.cell? ⟨gb270, 0, none⟩ = some (.int .i64 t268) ∧ w'.cell? ⟨gb270, 1, none⟩ = some (.int .i64 t269)) (ds := []) #[false, false, false, false, false, false, false] (by kernel_rfl) rfl rfl ⟨(blk_cell BK275.out 0).trans rfl, (blk_cell BK275.out 1).trans rfl, (blk_cell BK270.out 0).trans rfl, (blk_cell BK270.out 1).trans rfl⟩ (fun hHeld => ?_)
      generalize w28.drew = w29 at HO267 HO274 BK263 BK264 BK270 BK275 HB hHeld ⊢
      refine pure_ (i := 0) (N := some 28) (v := ?_) (a' := ?_) #[true, false, false, false, false, false, false] rfl rfl (by kernel_rfl) (fun _ _ _ h => h) (Or.inl ⟨by rfl, ?_⟩) ?_ ?_
      rotate_left
      · intro w'
        go_simp
        with_reducible rfl
      rotate_left
      · simp only [Act.put, List.setIfInBounds_toArray, List.set_cons_zero, List.set_cons_succ, i64_w, i32_w]
        rfl
      refine pure_ (i := 2) (N := some 30) (v := ?_) (a' := ?_) #[true, false, true, false, false, false, false] rfl rfl (by kernel_rfl) (fun _ _ _ h => h) (Or.inl ⟨by rfl, ?_⟩) ?_ ?_
      rotate_left
      · intro w'
        go_simp
        with_reducible rfl
      rotate_left
      · simp only [Act.put, List.setIfInBounds_toArray, List.set_cons_zero, List.set_cons_succ, i64_w, i32_w]
        rfl
      refine take_ (i := 1) (N := some 29) (v := ?_) (a' := ?_) #[true, true, true, false, false, false, false] rfl rfl (by kernel_rfl) (fun _ _ _ h => h) (Or.inl ⟨by rfl, ?_⟩) hHeld ?_ ?_
      rotate_left
      · rintro w' ⟨s0, s1, s2, s3⟩
        go_simp
        with_reducible rfl
      rotate_left
      · simp only [Act.put, List.setIfInBounds_toArray, List.set_cons_zero, List.set_cons_succ, i64_w, i32_w]
        rfl
      refine take_ (i := 3) (N := some 31) (v := ?_) (a' := ?_) #[true, true, true, true, false, false, false] rfl rfl (by kernel_rfl) (fun _ _ _ h => h) (Or.inl ⟨by rfl, ?_⟩) hHeld ?_ ?_
      rotate_left
      · rintro w' ⟨s0, s1, s2, s3⟩
        go_simp
        with_reducible rfl
      rotate_left
      · simp only [Act.put, List.setIfInBounds_toArray, List.set_cons_zero, List.set_cons_succ, i64_w, i32_w]
        rfl
      refine one_ (i := 4) (N := some 32) #[true, true, true, true, true, false, false] rfl rfl (by kernel_rfl) (by decide) (fun K hK => ?_)
      refine goes_ Try.func27 (by kernel_rfl) rfl #[.slice Ao20 t265.length co20, .agg #[.int .i64 t268, .int .i64 t269]] (by rfl) rfl rfl (by (try simp only [List.map_toArray, List.map_cons, List.map_nil]); first | done | rfl | (simp only [List.length_drop, List.length_take]; rfl)) ?_
      with_reducible refine (spec_WipeRegion.calls k _ _ t265 t268 t269 t276 t277 _ ?side1 ?side2 A7.out).mono ?_
      (case side1 => repeat (first | exact (Kd.Q_reads' HO267.out).2.2 | (with_reducible refine Kd.C_alloc ?_ _) | (with_reducible refine Kd.C_drewN ?_ _) | (with_reducible refine Kd.C_drew ?_)))
      (case side2 => exact (Kd.Q_reads' HO267.out).2.1)
      rintro e w30 ⟨v278, rfl, ho0, hb⟩
      refine ⟨_, rfl, ?_⟩
      have n0_ := Aside0.mk (Kd.Q_elder' (by (with_reducible repeat (first | apply Kd.Q_alloc | apply Kd.Q_drewN | apply Kd.Q_drew)); exact HO267.out) (Kd.R_base ho0) hb)
      have n1_ := Aside0.mk (Kd.R_elder' (by (with_reducible repeat (first | apply Kd.R_alloc | apply Kd.R_drewN | apply Kd.R_drew)); exact HO274.out) (Kd.R_base ho0) hb)
      have n2_ := Aside0.mk (Kd.R_lower (Kd.R_new' (Kd.R_new' ho0 (Kd.Q_lt (by (with_reducible repeat (first | apply Kd.Q_alloc | apply Kd.Q_drewN | apply Kd.Q_drew)); exact HO267.out))) (Kd.R_lt (by (with_reducible repeat (first | apply Kd.R_alloc | apply Kd.R_drewN | apply Kd.R_drew)); exact HO274.out))) (below_size (by repeat (first | (with_reducible first | exact HB.out | apply below_alloc | apply pw_below_drewN | apply below_drew1 | refine below_set ?_ GE263.out | refine below_set ?_ GE264.out | refine below_set ?_ GE270.out | refine below_set ?_ GE275.out) | exact HB.out))))
      have n3_ := Aside0.mk (blk_below (g := gb263) (o := .cells #[.int .i64 t259, .int .i64 t260] 47 (0, 0)) (by (with_reducible repeat (first | refine blk_drewN ?_ _ | refine blk_drew ?_ | refine blk_alloc ?_ _)); exact BK263.out) hb)
      have n4_ := Aside0.mk (blk_below (g := gb264) (o := .cells #[.int .i64 t261, .int .i64 t262] 47 (0, 0)) (by (with_reducible repeat (first | refine blk_drewN ?_ _ | refine blk_drew ?_ | refine blk_alloc ?_ _)); exact BK264.out) hb)
      have n5_ := Aside0.mk (blk_below (g := gb270) (o := .cells #[.int .i64 t268, .int .i64 t269] 47 (0, 0)) (by (with_reducible repeat (first | refine blk_drewN ?_ _ | refine blk_drew ?_ | refine blk_alloc ?_ _)); exact BK270.out) hb)
      have n6_ := Aside0.mk (blk_below (g := gb275) (o := .cells #[.int .i64 t271, .slice Ao27 t272.length co27] 31 (0, 0)) (by (with_reducible repeat (first | refine blk_drewN ?_ _ | refine blk_drew ?_ | refine blk_alloc ?_ _)); exact BK275.out) hb)
      have n7_ := Aside0.mk (below_step (by repeat (first | (with_reducible first | exact HB.out | apply below_alloc | apply pw_below_drewN | apply below_drew1 | refine below_set ?_ GE263.out | refine below_set ?_ GE264.out | refine below_set ?_ GE270.out | refine below_set ?_ GE275.out) | exact HB.out)) hb)
      clear HO267
      clear HO274
      clear BK263
      clear BK264
      clear BK270
      clear BK275
      clear HB
      have HO267 := n0_
      have HO274 := n1_
      have HO279 := n2_
      have BK263 := n3_
      have BK264 := n4_
      have BK270 := n5_
      have BK275 := n6_
      have HB := n7_
      clear n0_ n1_ n2_ n3_ n4_ n5_ n6_ n7_
      (try clear hb)
      (try clear hb2)
      (try clear hk)
      (try clear hi)
      (try clear ho0)
      refine hK.out _ _ ⟨(blk_cell BK275.out 0).trans rfl, (blk_cell BK275.out 1).trans rfl, (blk_cell BK270.out 0).trans rfl, (blk_cell BK270.out 1).trans rfl⟩ (fun hHeld => ?_)
      clear hK K
      refine norm_ (a' := ?_) ?_ ?_
      rotate_left
      · show Act.put _ (some 32) _ = _
        simp only [Act.put, List.setIfInBounds_toArray, List.set_cons_zero, List.set_cons_succ, i64_w, i32_w]
        rfl
      refine pure_ (i := 5) (N := some 33) (v := ?_) (a' := ?_) #[true, true, true, true, true, true, false] rfl rfl (by kernel_rfl) (fun _ _ _ h => h) (Or.inl ⟨by rfl, ?_⟩) ?_ ?_
      rotate_left
      · intro w'
        go_simp
        with_reducible rfl
      rotate_left
      · simp only [Act.put, List.setIfInBounds_toArray, List.set_cons_zero, List.set_cons_succ, i64_w, i32_w]
        rfl
      refine pure_ (i := 6) (N := some 34) (v := ?_) (a' := ?_) #[true, true, true, true, true, true, true] rfl rfl (by kernel_rfl) (fun _ _ _ h => h) (Or.inl ⟨by rfl, ?_⟩) ?_ ?_
      rotate_left
      · intro w'
        go_simp
        with_reducible rfl
      rotate_left
      · simp only [Act.put, List.setIfInBounds_toArray, List.set_cons_zero, List.set_cons_succ, i64_w, i32_w]
        rfl
      refine done_ (by kernel_rfl) ?_
      try go_wp2
      go_loopg [8] k (fun kq v8 w' => ∃ (x8_1 : Int), v8 = .int .i64 x8_1 ∧ Aside0 (laws_FnRegions.l0 kq t265 x8_1 t259 t260 t261 t262 t268 t269 t271 t272 = some true) ∧ Aside0 (kq ≤ k) ∧ Aside0 (Kd.Q (Kd.int .i64) 2 w' w.heap.size (fun k_ => some k_ ≠ ((.slice Ao27 t272.length co27) : Value).ownBlock) (.slice Ao20 t265.length co20) t265) ∧ Aside0 (Kd.R (Kd.int .i64) 2 w' w.heap.size (fun k_ => some k_ ≠ ((.slice Ao20 t265.length co20) : Value).ownBlock) (.slice Ao27 t272.length co27) t272) ∧ Aside0 (w'.heap[gb263]? = some (.cells #[.int .i64 t259, .int .i64 t260] 47 (0, 0))) ∧ Aside0 (w'.heap[gb264]? = some (.cells #[.int .i64 t261, .int .i64 t262] 47 (0, 0))) ∧ Aside0 (w'.heap[gb270]? = some (.cells #[.int .i64 t268, .int .i64 t269] 47 (0, 0))) ∧ Aside0 (w'.heap[gb275]? = some (.cells #[.int .i64 t271, (.slice Ao27 t272.length co27)] 31 (0, 0))) ∧ Aside0 (Below w.heap.size w w'))
      case atStart => exact ⟨(0), (by first | rfl | (simp; done) | (simp [*]; done)), H', ⟨Nat.le_refl _⟩, ⟨by (with_reducible repeat (first | apply Kd.Q_alloc | apply Kd.Q_drewN | apply Kd.Q_drew)); exact Kd.Q_mono HO267.out (fun _ hk => hk.1)⟩, ⟨by (with_reducible repeat (first | apply Kd.R_alloc | apply Kd.R_drewN | apply Kd.R_drew)); exact Kd.R_mono HO274.out (fun _ hk => hk.1)⟩, ⟨by (with_reducible repeat (first | refine blk_drewN ?_ _ | refine blk_drew ?_ | refine blk_alloc ?_ _)); exact BK263.out⟩, ⟨by (with_reducible repeat (first | refine blk_drewN ?_ _ | refine blk_drew ?_ | refine blk_alloc ?_ _)); exact BK264.out⟩, ⟨by (with_reducible repeat (first | refine blk_drewN ?_ _ | refine blk_drew ?_ | refine blk_alloc ?_ _)); exact BK270.out⟩, ⟨by (with_reducible repeat (first | refine blk_drewN ?_ _ | refine blk_drew ?_ | refine blk_alloc ?_ _)); exact BK275.out⟩, ⟨by repeat (first | (with_reducible first | exact HB.out | apply below_alloc | apply pw_below_drewN | apply below_drew1 | refine below_set ?_ GE263.out | refine below_set ?_ GE264.out | refine below_set ?_ GE270.out | refine below_set ?_ GE275.out) | exact HB.out)⟩⟩
      case round =>
        clear H'
        try clear c1
        try clear c2
        try clear p2
        try clear c3
        try clear c7
        try clear c8
        try clear c8b0
        try clear c8b1
        try clear c12
        try clear c17
        try clear c18
        try clear c21
        try clear c23
        try clear c24
        try clear c25
        try clear c27
        try clear c29
        try clear c30
        try clear hcz13_0
        try clear hcz13_1
        try clear hcz14_0
        try clear hcz14_1
        try clear hcz19_0
        try clear hcz19_1
        try clear hcz26_0
        try clear hcz26_1
        try clear hfz13_0
        try clear hfz13_1
        try clear hfz14_0
        try clear hfz14_1
        try clear hfz19_0
        try clear hfz19_1
        try clear hfz26_0
        try clear hfz26_1
        obtain ⟨x8_1, rfl, HA, HK1, HO_5, HO_276001, BK263, BK264, BK270, BK275, HB⟩ := hrel
        cases gk with
        | zero => exact absurd HA.out (by simp [laws_FnRegions.l0])
        | succ k1 =>
          have H := HA.out
          clear HA
          simp only [laws_FnRegions.l0] at H
          have HC31 := Aside0.mk H
          clear H
          go_upto_region 9 with (fail)
          go_cut [43] (fun v43 wc => ∃ (kq : Nat) (x43_30 : Bool), v43 = .bool x43_30 ∧ Aside0 (laws_FnRegions.j1 kq t265 x8_1 x43_30 t259 t260 t261 t262 t268 t269 t271 t272 = some true) ∧ Aside0 (kq ≤ k1) ∧ Aside0 (Kd.Q (Kd.int .i64) 2 wc w.heap.size (fun k_ => some k_ ≠ ((.slice Ao27 t272.length co27) : Value).ownBlock) (.slice Ao20 t265.length co20) t265) ∧ Aside0 (Kd.R (Kd.int .i64) 2 wc w.heap.size (fun k_ => some k_ ≠ ((.slice Ao20 t265.length co20) : Value).ownBlock) (.slice Ao27 t272.length co27) t272) ∧ Aside0 (wc.heap[gb263]? = some (.cells #[.int .i64 t259, .int .i64 t260] 47 (0, 0))) ∧ Aside0 (wc.heap[gb264]? = some (.cells #[.int .i64 t261, .int .i64 t262] 47 (0, 0))) ∧ Aside0 (wc.heap[gb270]? = some (.cells #[.int .i64 t268, .int .i64 t269] 47 (0, 0))) ∧ Aside0 (wc.heap[gb275]? = some (.cells #[.int .i64 t271, (.slice Ao27 t272.length co27)] 31 (0, 0))) ∧ Aside0 (Below w.heap.size w wc))
          case first =>
            have H := HC31.out
            clear HC31
            by_cases c32 : t271 = 0
            · rw [if_pos c32] at H
              have c32b0 : (t271 == 0) = true := beq_iff_eq.mpr c32
              have c32b1 : (t271 != 0) = false := bne_eq_false_iff_eq.mpr c32
              clear c32
              (first | rw [c32b0] | (simp only [i64_w, i32_w]; rw [c32b0]) | skip)
              have H' := Aside0.mk H
              clear H
              have hnb33 := NB275_263.out
              have hnc33 := NB263_275.out
              have hnb34 := NB275_264.out
              have hnc34 := NB264_275.out
              have hnb35 := NB275_270.out
              have hnc35 := NB270_275.out
              have hcz36_0 : wr.cell? ⟨gb275, 0, none⟩ = some (.int .i64 t271) := (blk_cell BK275.out 0).trans rfl
              have hcz36_1 : wr.cell? ⟨gb275, 1, none⟩ = some (.slice Ao27 t272.length co27) := (blk_cell BK275.out 1).trans rfl
              have hfz36_0 := blk_frozen BK275.out 0
              have hfz36_1 := blk_frozen BK275.out 1
              go_wp2
              go_meet
              case rel => exact ⟨_, (decide (x8_1 < (t265.length : Int))), (by first | rfl | (simp; done) | (simp [*]; done)), H', ⟨by have := HK1.out; first | omega | exact Nat.le_refl _⟩, ⟨by (with_reducible repeat (first | apply Kd.Q_alloc | apply Kd.Q_drewN | apply Kd.Q_drew)); exact HO_5.out⟩, ⟨by (with_reducible repeat (first | apply Kd.R_alloc | apply Kd.R_drewN | apply Kd.R_drew)); exact HO_276001.out⟩, ⟨by (with_reducible repeat (first | refine blk_drewN ?_ _ | refine blk_drew ?_ | refine blk_alloc ?_ _)); exact BK263.out⟩, ⟨by (with_reducible repeat (first | refine blk_drewN ?_ _ | refine blk_drew ?_ | refine blk_alloc ?_ _)); exact BK264.out⟩, ⟨by (with_reducible repeat (first | refine blk_drewN ?_ _ | refine blk_drew ?_ | refine blk_alloc ?_ _)); exact BK270.out⟩, ⟨by (with_reducible repeat (first | refine blk_drewN ?_ _ | refine blk_drew ?_ | refine blk_alloc ?_ _)); exact BK275.out⟩, ⟨by repeat (first | (with_reducible first | exact HB.out | apply below_alloc | apply pw_below_drewN | apply below_drew1 | refine below_set ?_ GE263.out | refine below_set ?_ GE264.out | refine below_set ?_ GE270.out | refine below_set ?_ GE275.out) | exact HB.out)⟩⟩
            · rw [if_neg c32] at H
              have c32b0 : (t271 == 0) = false := beq_eq_false_iff_ne.mpr c32
              have c32b1 : (t271 != 0) = true := bne_iff_ne.mpr c32
              (first | rw [c32b0] | (simp only [i64_w, i32_w]; rw [c32b0]) | skip)
              have H' := Aside0.mk H
              clear H
              have hnb37 := NB275_263.out
              have hnc37 := NB263_275.out
              have hnb38 := NB275_264.out
              have hnc38 := NB264_275.out
              have hnb39 := NB275_270.out
              have hnc39 := NB270_275.out
              have hcz40_0 : wr.cell? ⟨gb275, 0, none⟩ = some (.int .i64 t271) := (blk_cell BK275.out 0).trans rfl
              have hcz40_1 : wr.cell? ⟨gb275, 1, none⟩ = some (.slice Ao27 t272.length co27) := (blk_cell BK275.out 1).trans rfl
              have hfz40_0 := blk_frozen BK275.out 0
              have hfz40_1 := blk_frozen BK275.out 1
              go_wp2
              go_meet
              case rel => exact ⟨_, (false), (by first | rfl | (simp; done) | (simp [*]; done)), H', ⟨by have := HK1.out; first | omega | exact Nat.le_refl _⟩, ⟨by (with_reducible repeat (first | apply Kd.Q_alloc | apply Kd.Q_drewN | apply Kd.Q_drew)); exact HO_5.out⟩, ⟨by (with_reducible repeat (first | apply Kd.R_alloc | apply Kd.R_drewN | apply Kd.R_drew)); exact HO_276001.out⟩, ⟨by (with_reducible repeat (first | refine blk_drewN ?_ _ | refine blk_drew ?_ | refine blk_alloc ?_ _)); exact BK263.out⟩, ⟨by (with_reducible repeat (first | refine blk_drewN ?_ _ | refine blk_drew ?_ | refine blk_alloc ?_ _)); exact BK264.out⟩, ⟨by (with_reducible repeat (first | refine blk_drewN ?_ _ | refine blk_drew ?_ | refine blk_alloc ?_ _)); exact BK270.out⟩, ⟨by (with_reducible repeat (first | refine blk_drewN ?_ _ | refine blk_drew ?_ | refine blk_alloc ?_ _)); exact BK275.out⟩, ⟨by repeat (first | (with_reducible first | exact HB.out | apply below_alloc | apply pw_below_drewN | apply below_drew1 | refine below_set ?_ GE263.out | refine below_set ?_ GE264.out | refine below_set ?_ GE270.out | refine below_set ?_ GE275.out) | exact HB.out)⟩⟩
          case rest =>
            clear HC31
            try clear c1
            try clear c2
            try clear p2
            try clear c3
            try clear c7
            try clear c8
            try clear c8b0
            try clear c8b1
            try clear c12
            try clear c17
            try clear c18
            try clear c21
            try clear c23
            try clear c24
            try clear c25
            try clear c27
            try clear c29
            try clear c30
            try clear c31
            try clear c32
            try clear c32b0
            try clear c32b1
            try clear c33
            try clear c34
            try clear c35
            try clear c37
            try clear c38
            try clear c39
            try clear hcz13_0
            try clear hcz13_1
            try clear hcz14_0
            try clear hcz14_1
            try clear hcz19_0
            try clear hcz19_1
            try clear hcz26_0
            try clear hcz26_1
            try clear hcz36_0
            try clear hcz36_1
            try clear hcz40_0
            try clear hcz40_1
            try clear hfz13_0
            try clear hfz13_1
            try clear hfz14_0
            try clear hfz14_1
            try clear hfz19_0
            try clear hfz19_1
            try clear hfz26_0
            try clear hfz26_1
            try clear hfz36_0
            try clear hfz36_1
            try clear hfz40_0
            try clear hfz40_1
            try clear p2
            obtain ⟨kq, x43_30, rfl, HA, HJ30, HO_5, HO_276001, BK263, BK264, BK270, BK275, HB⟩ := hcut
            cases kq with
            | zero => exact absurd HA.out (by simp [laws_FnRegions.j1])
            | succ kj30 =>
              have H := HA.out
              clear HA
              simp only [laws_FnRegions.j1] at H
              by_cases c41 : x43_30 = true
              · subst c41
                have H1 : (if x8_1 ≥ t268 then (if x8_1 < (wrap64 (t268 + t269)) then (if 0 ≤ x8_1 then (if x8_1 < (t272.length : Int) then (if (rd t272 x8_1) = 0 then (if (x8_1 < (wrap64 (t268 + t269))) then (laws_FnRegions.l0 kj30 t265 (wrap64 (x8_1 + 1)) t259 t260 t261 t262 t268 t269 t271 t272) else (if x8_1 < (t265.length : Int) then (if (rd t272 x8_1) = (rd t265 x8_1) then (laws_FnRegions.l0 kj30 t265 (wrap64 (x8_1 + 1)) t259 t260 t261 t262 t268 t269 t271 t272) else (some false)) else (none))) else (some false)) else (none)) else (none)) else (if (x8_1 < (wrap64 (t268 + t269))) then (laws_FnRegions.l0 kj30 t265 (wrap64 (x8_1 + 1)) t259 t260 t261 t262 t268 t269 t271 t272) else (if 0 ≤ x8_1 then (if x8_1 < (t272.length : Int) then (if x8_1 < (t265.length : Int) then (if (rd t272 x8_1) = (rd t265 x8_1) then (laws_FnRegions.l0 kj30 t265 (wrap64 (x8_1 + 1)) t259 t260 t261 t262 t268 t269 t271 t272) else (some false)) else (none)) else (none)) else (none)))) else (if 0 ≤ x8_1 then (if x8_1 < (t272.length : Int) then (if x8_1 < (t265.length : Int) then (if (rd t272 x8_1) = (rd t265 x8_1) then (laws_FnRegions.l0 kj30 t265 (wrap64 (x8_1 + 1)) t259 t260 t261 t262 t268 t269 t271 t272) else (some false)) else (none)) else (none)) else (none))) = some true := by rw [if_pos rfl] at H; exact H
                clear H
                have H := H1
                clear H1
                by_cases c42 : x8_1 ≥ t268
                · rw [if_pos c42] at H
                  have c42b0 : decide (t268 ≤ x8_1) = true := decide_eq_true c42
                  clear c42
                  by_cases c43 : x8_1 < (wrap64 (t268 + t269))
                  · rw [if_pos c43] at H
                    have c43b0 : decide (x8_1 < (wrap64 (t268 + t269))) = true := decide_eq_true c43
                    clear c43
                    by_cases c44 : 0 ≤ x8_1
                    · rw [if_pos c44] at H
                      have c44b0 : decide (0 ≤ x8_1) = true := decide_eq_true c44
                      clear c44
                      by_cases c45 : x8_1 < (t272.length : Int)
                      · rw [if_pos c45] at H
                        have c45b0 : decide (x8_1 < (t272.length : Int)) = true := decide_eq_true c45
                        clear c45
                        by_cases c46 : (rd t272 x8_1) = 0
                        · rw [if_pos c46] at H
                          have c46b0 : ((rd t272 x8_1) == 0) = true := beq_iff_eq.mpr c46
                          have c46b1 : ((rd t272 x8_1) != 0) = false := bne_eq_false_iff_eq.mpr c46
                          clear c46
                          by_cases c47 : (x8_1 < (wrap64 (t268 + t269)))
                          · rw [if_pos c47] at H
                            have c47b0 : decide (x8_1 < (wrap64 (t268 + t269))) = true := decide_eq_true c47
                            clear c47
                            have H' := Aside0.mk H
                            clear H
                            have hnb48 := NB270_263.out
                            have hnc48 := NB263_270.out
                            have hnb49 := NB270_264.out
                            have hnc49 := NB264_270.out
                            have hnb50 := NB270_275.out
                            have hnc50 := NB275_270.out
                            have hcz51_0 : wc.cell? ⟨gb270, 0, none⟩ = some (.int .i64 t268) := (blk_cell BK270.out 0).trans rfl
                            have hcz51_1 : wc.cell? ⟨gb270, 1, none⟩ = some (.int .i64 t269) := (blk_cell BK270.out 1).trans rfl
                            have hfz51_0 := blk_frozen BK270.out 0
                            have hfz51_1 := blk_frozen BK270.out 1
                            try go_wp2
                            have n0_ := Aside0.mk (Kd.Q_drew HO_5.out)
                            have n1_ := Aside0.mk (Kd.R_drew HO_276001.out)
                            have n2_ := Aside0.mk (blk_drew BK263.out)
                            have n3_ := Aside0.mk (blk_drew BK264.out)
                            have n4_ := Aside0.mk (blk_drew BK270.out)
                            have n5_ := Aside0.mk (blk_drew BK275.out)
                            have n6_ := Aside0.mk (below_drew1 HB.out)
                            clear HO_5
                            clear HO_276001
                            clear BK263
                            clear BK264
                            clear BK270
                            clear BK275
                            clear HB
                            have HO_5 := n0_
                            have HO_276001 := n1_
                            have BK263 := n2_
                            have BK264 := n3_
                            have BK270 := n4_
                            have BK275 := n5_
                            have HB := n6_
                            clear n0_ n1_ n2_ n3_ n4_ n5_ n6_
                            have p280 : 0 ≤ (x8_1 : Int) := of_decide_eq_true (by first | (with_reducible assumption) | assumption)
                            have q280 : x8_1 < (t272.length : Int) := of_decide_eq_true (by first | (with_reducible assumption) | assumption)
                            obtain ⟨ad280, e280, hx280_0⟩ := Kd.at_int (Kd.R_reads' HO_276001.out).2.2 x8_1 p280 q280
                            cases e280
                            replace p280 := eq_true p280
                            replace q280 := eq_true q280
                            refine start_ (n := 25) (S := fun w' => w'.cell? ⟨gb275, 0, none⟩ = some (.int .i64 t271) ∧ w'.cell? ⟨gb275, 1, none⟩ = some (.slice (some ad280) t272.length co27) ∧ w'.cell? (ad280.add (x8_1).toNat) = some (.int .i64 (rd t272 x8_1))) (ds := []) #[false, false, false, false, false, false, false, false, false, false, false, false, false, false, false, false, false, false, false, false, false, false, false, false, false] (by kernel_rfl) rfl rfl ⟨(blk_cell BK275.out 0).trans rfl, (blk_cell BK275.out 1).trans rfl, hx280_0⟩ (fun hHeld => ?_); refine with_tabW laws_FnRegions.tab12 laws_FnRegions.bits12 (fun HT_ HW_ => ?_)
                            generalize wc.drew = w52 at HO_5 HO_276001 BK263 BK264 BK270 BK275 HB hx280_0 hHeld ⊢
                            refine pure_ (i := 0) (N := some 59) (v := ?_) (a' := ?_) #[true, false, false, false, false, false, false, false, false, false, false, false, false, false, false, false, false, false, false, false, false, false, false, false, false] rfl rfl (any_of HT_.out (by kernel_rfl)) (fun _ _ _ h => h) (Or.inl ⟨by rfl, ?_⟩) ?_ ?_
                            rotate_left
                            · intro w'
                              go_simp
                              with_reducible rfl
                            rotate_left
                            · simp only [Act.put, List.setIfInBounds_toArray, List.set_cons_zero, List.set_cons_succ, i64_w, i32_w]
                              rfl
                            refine pure_ (i := 1) (N := some 60) (v := ?_) (a' := ?_) #[true, true, false, false, false, false, false, false, false, false, false, false, false, false, false, false, false, false, false, false, false, false, false, false, false] rfl rfl (any_of HT_.out (by kernel_rfl)) (fun _ _ _ h => h) (Or.inl ⟨by rfl, ?_⟩) ?_ ?_
                            rotate_left
                            · intro w'
                              go_simp
                              with_reducible rfl
                            rotate_left
                            · simp only [Act.put, List.setIfInBounds_toArray, List.set_cons_zero, List.set_cons_succ, i64_w, i32_w]
                              rfl
                            refine pure_ (i := 2) (N := some 61) (v := ?_) (a' := ?_) #[true, true, true, false, false, false, false, false, false, false, false, false, false, false, false, false, false, false, false, false, false, false, false, false, false] rfl rfl (any_of HT_.out (by kernel_rfl)) (fun _ _ _ h => h) (Or.inl ⟨by rfl, ?_⟩) ?_ ?_
                            rotate_left
                            · intro w'
                              go_simp
                              with_reducible rfl
                            rotate_left
                            · simp only [Act.put, List.setIfInBounds_toArray, List.set_cons_zero, List.set_cons_succ, i64_w, i32_w]
                              rfl
                            refine pure_ (i := 4) (N := some 63) (v := ?_) (a' := ?_) #[true, true, true, false, true, false, false, false, false, false, false, false, false, false, false, false, false, false, false, false, false, false, false, false, false] rfl rfl (any_of HT_.out (by kernel_rfl)) (fun _ _ _ h => h) (Or.inl ⟨by rfl, ?_⟩) ?_ ?_
                            rotate_left
                            · intro w'
                              go_simp
                              with_reducible rfl
                            rotate_left
                            · simp only [Act.put, List.setIfInBounds_toArray, List.set_cons_zero, List.set_cons_succ, i64_w, i32_w]
                              rfl
                            refine take_ (i := 3) (N := some 62) (v := ?_) (a' := ?_) #[true, true, true, true, true, false, false, false, false, false, false, false, false, false, false, false, false, false, false, false, false, false, false, false, false] rfl rfl (take_ofW HT_.out HW_.out (by kernel_rfl)) (fun _ _ _ h => h) (Or.inl ⟨by rfl, ?_⟩) hHeld ?_ ?_
                            rotate_left
                            · rintro w' ⟨s0, s1, s2⟩
                              go_simp
                              with_reducible rfl
                            rotate_left
                            · simp only [Act.put, List.setIfInBounds_toArray, List.set_cons_zero, List.set_cons_succ, i64_w, i32_w]
                              rfl
                            refine pure_ (i := 5) (N := some 64) (v := ?_) (a' := ?_) #[true, true, true, true, true, true, false, false, false, false, false, false, false, false, false, false, false, false, false, false, false, false, false, false, false] rfl rfl (any_of HT_.out (by kernel_rfl)) (fun _ _ _ h => h) (Or.inl ⟨by rfl, ?_⟩) ?_ ?_
                            rotate_left
                            · intro w'
                              go_simp
                              with_reducible rfl
                            rotate_left
                            · simp only [Act.put, List.setIfInBounds_toArray, List.set_cons_zero, List.set_cons_succ, i64_w, i32_w]
                              rfl
                            refine take_ (i := 6) (N := some 65) (v := ?_) (a' := ?_) #[true, true, true, true, true, true, true, false, false, false, false, false, false, false, false, false, false, false, false, false, false, false, false, false, false] rfl rfl (take_ofW HT_.out HW_.out (by kernel_rfl)) (fun _ _ _ h => h) (Or.inl ⟨by rfl, ?_⟩) hHeld ?_ ?_
                            rotate_left
                            · rintro w' ⟨s0, s1, s2⟩
                              go_simp
                              with_reducible rfl
                            rotate_left
                            · simp only [Act.put, List.setIfInBounds_toArray, List.set_cons_zero, List.set_cons_succ, i64_w, i32_w]
                              rfl
                            refine pure_ (i := 7) (N := some 66) (v := ?_) (a' := ?_) #[true, true, true, true, true, true, true, true, false, false, false, false, false, false, false, false, false, false, false, false, false, false, false, false, false] rfl rfl (any_of HT_.out (by kernel_rfl)) (fun _ _ _ h => h) (Or.inl ⟨by rfl, ?_⟩) ?_ ?_
                            rotate_left
                            · intro w'
                              go_simp
                              with_reducible rfl
                            rotate_left
                            · simp only [Act.put, List.setIfInBounds_toArray, List.set_cons_zero, List.set_cons_succ, i64_w, i32_w]
                              rfl
                            refine pure_ (i := 8) (N := some 67) (v := ?_) (a' := ?_) #[true, true, true, true, true, true, true, true, true, false, false, false, false, false, false, false, false, false, false, false, false, false, false, false, false] rfl rfl (any_of HT_.out (by kernel_rfl)) (fun _ _ _ h => h) (Or.inl ⟨by rfl, ?_⟩) ?_ ?_
                            rotate_left
                            · intro w'
                              go_simp
                              with_reducible rfl
                            rotate_left
                            · simp only [Act.put, List.setIfInBounds_toArray, List.set_cons_zero, List.set_cons_succ, i64_w, i32_w]
                              rfl
                            refine pure_ (i := 9) (N := some 68) (v := ?_) (a' := ?_) #[true, true, true, true, true, true, true, true, true, true, false, false, false, false, false, false, false, false, false, false, false, false, false, false, false] rfl rfl (any_of HT_.out (by kernel_rfl)) (fun _ _ _ h => h) (Or.inl ⟨by rfl, ?_⟩) ?_ ?_
                            rotate_left
                            · intro w'
                              go_simp
                              with_reducible rfl
                            rotate_left
                            · simp only [Act.put, List.setIfInBounds_toArray, List.set_cons_zero, List.set_cons_succ, i64_w, i32_w]
                              rfl
                            refine pure_ (i := 10) (N := some 69) (v := ?_) (a' := ?_) #[true, true, true, true, true, true, true, true, true, true, true, false, false, false, false, false, false, false, false, false, false, false, false, false, false] rfl rfl (any_of HT_.out (by kernel_rfl)) (fun _ _ _ h => h) (Or.inl ⟨by rfl, ?_⟩) ?_ ?_
                            rotate_left
                            · intro w'
                              go_simp
                              with_reducible rfl
                            rotate_left
                            · simp only [Act.put, List.setIfInBounds_toArray, List.set_cons_zero, List.set_cons_succ, i64_w, i32_w]
                              rfl
                            refine pure_ (i := 11) (N := some 70) (v := ?_) (a' := ?_) #[true, true, true, true, true, true, true, true, true, true, true, true, false, false, false, false, false, false, false, false, false, false, false, false, false] rfl rfl (any_of HT_.out (by kernel_rfl)) (fun _ _ _ h => h) (Or.inl ⟨by rfl, ?_⟩) ?_ ?_
                            rotate_left
                            · intro w'
                              go_simp
                              with_reducible rfl
                            rotate_left
                            · simp only [Act.put, List.setIfInBounds_toArray, List.set_cons_zero, List.set_cons_succ, i64_w, i32_w]
                              rfl
                            refine pure_ (i := 12) (N := some 71) (v := ?_) (a' := ?_) #[true, true, true, true, true, true, true, true, true, true, true, true, true, false, false, false, false, false, false, false, false, false, false, false, false] rfl rfl (any_of HT_.out (by kernel_rfl)) (fun _ _ _ h => h) (Or.inl ⟨by rfl, ?_⟩) ?_ ?_
                            rotate_left
                            · intro w'
                              go_simp
                              with_reducible rfl
                            rotate_left
                            · simp only [Act.put, List.setIfInBounds_toArray, List.set_cons_zero, List.set_cons_succ, i64_w, i32_w]
                              rfl
                            refine pure_ (i := 13) (N := some 72) (v := undef) (a' := ?_) #[true, true, true, true, true, true, true, true, true, true, true, true, true, true, false, false, false, false, false, false, false, false, false, false, false] rfl rfl (any_of HT_.out (by kernel_rfl)) (fun _ _ _ h => h) (Or.inr ⟨by rfl, rfl⟩) ?_ ?_
                            rotate_left
                            · simp only [Act.put, List.setIfInBounds_toArray, List.set_cons_zero, List.set_cons_succ, i64_w, i32_w]
                              rfl
                            refine pure_ (i := 14) (N := some 73) (v := undef) (a' := ?_) #[true, true, true, true, true, true, true, true, true, true, true, true, true, true, true, false, false, false, false, false, false, false, false, false, false] rfl rfl (any_of HT_.out (by kernel_rfl)) (fun _ _ _ h => h) (Or.inr ⟨by rfl, rfl⟩) ?_ ?_
                            rotate_left
                            · simp only [Act.put, List.setIfInBounds_toArray, List.set_cons_zero, List.set_cons_succ, i64_w, i32_w]
                              rfl
                            refine pure_ (i := 15) (N := some 74) (v := undef) (a' := ?_) #[true, true, true, true, true, true, true, true, true, true, true, true, true, true, true, true, false, false, false, false, false, false, false, false, false] rfl rfl (any_of HT_.out (by kernel_rfl)) (fun _ _ _ h => h) (Or.inr ⟨by rfl, rfl⟩) ?_ ?_
                            rotate_left
                            · simp only [Act.put, List.setIfInBounds_toArray, List.set_cons_zero, List.set_cons_succ, i64_w, i32_w]
                              rfl
                            refine pure_ (i := 16) (N := some 75) (v := undef) (a' := ?_) #[true, true, true, true, true, true, true, true, true, true, true, true, true, true, true, true, true, false, false, false, false, false, false, false, false] rfl rfl (any_of HT_.out (by kernel_rfl)) (fun _ _ _ h => h) (Or.inr ⟨by rfl, rfl⟩) ?_ ?_
                            rotate_left
                            · simp only [Act.put, List.setIfInBounds_toArray, List.set_cons_zero, List.set_cons_succ, i64_w, i32_w]
                              rfl
                            refine pure_ (i := 17) (N := some 76) (v := undef) (a' := ?_) #[true, true, true, true, true, true, true, true, true, true, true, true, true, true, true, true, true, true, false, false, false, false, false, false, false] rfl rfl (any_of HT_.out (by kernel_rfl)) (fun _ _ _ h => h) (Or.inr ⟨by rfl, rfl⟩) ?_ ?_
                            rotate_left
                            · simp only [Act.put, List.setIfInBounds_toArray, List.set_cons_zero, List.set_cons_succ, i64_w, i32_w]
                              rfl
                            refine pure_ (i := 18) (N := some 77) (v := undef) (a' := ?_) #[true, true, true, true, true, true, true, true, true, true, true, true, true, true, true, true, true, true, true, false, false, false, false, false, false] rfl rfl (any_of HT_.out (by kernel_rfl)) (fun _ _ _ h => h) (Or.inr ⟨by rfl, rfl⟩) ?_ ?_
                            rotate_left
                            · simp only [Act.put, List.setIfInBounds_toArray, List.set_cons_zero, List.set_cons_succ, i64_w, i32_w]
                              rfl
                            refine pure_ (i := 19) (N := some 78) (v := undef) (a' := ?_) #[true, true, true, true, true, true, true, true, true, true, true, true, true, true, true, true, true, true, true, true, false, false, false, false, false] rfl rfl (any_of HT_.out (by kernel_rfl)) (fun _ _ _ h => h) (Or.inr ⟨by rfl, rfl⟩) ?_ ?_
                            rotate_left
                            · simp only [Act.put, List.setIfInBounds_toArray, List.set_cons_zero, List.set_cons_succ, i64_w, i32_w]
                              rfl
                            refine pure_ (i := 20) (N := some 79) (v := undef) (a' := ?_) #[true, true, true, true, true, true, true, true, true, true, true, true, true, true, true, true, true, true, true, true, true, false, false, false, false] rfl rfl (any_of HT_.out (by kernel_rfl)) (fun _ _ _ h => h) (Or.inr ⟨by rfl, rfl⟩) ?_ ?_
                            rotate_left
                            · simp only [Act.put, List.setIfInBounds_toArray, List.set_cons_zero, List.set_cons_succ, i64_w, i32_w]
                              rfl
                            refine pure_ (i := 21) (N := some 80) (v := undef) (a' := ?_) #[true, true, true, true, true, true, true, true, true, true, true, true, true, true, true, true, true, true, true, true, true, true, false, false, false] rfl rfl (any_of HT_.out (by kernel_rfl)) (fun _ _ _ h => h) (Or.inr ⟨by rfl, rfl⟩) ?_ ?_
                            rotate_left
                            · simp only [Act.put, List.setIfInBounds_toArray, List.set_cons_zero, List.set_cons_succ, i64_w, i32_w]
                              rfl
                            refine pure_ (i := 22) (N := some 81) (v := undef) (a' := ?_) #[true, true, true, true, true, true, true, true, true, true, true, true, true, true, true, true, true, true, true, true, true, true, true, false, false] rfl rfl (any_of HT_.out (by kernel_rfl)) (fun _ _ _ h => h) (Or.inr ⟨by rfl, rfl⟩) ?_ ?_
                            rotate_left
                            · simp only [Act.put, List.setIfInBounds_toArray, List.set_cons_zero, List.set_cons_succ, i64_w, i32_w]
                              rfl
                            refine pure_ (i := 23) (N := some 82) (v := ?_) (a' := ?_) #[true, true, true, true, true, true, true, true, true, true, true, true, true, true, true, true, true, true, true, true, true, true, true, true, false] rfl rfl (any_of HT_.out (by kernel_rfl)) (fun _ _ _ h => h) (Or.inl ⟨by rfl, ?_⟩) ?_ ?_
                            rotate_left
                            · intro w'
                              go_simp
                              with_reducible rfl
                            rotate_left
                            · simp only [Act.put, List.setIfInBounds_toArray, List.set_cons_zero, List.set_cons_succ, i64_w, i32_w]
                              rfl
                            refine pure_ (i := 24) (N := some 83) (v := ?_) (a' := ?_) #[true, true, true, true, true, true, true, true, true, true, true, true, true, true, true, true, true, true, true, true, true, true, true, true, true] rfl rfl (any_of HT_.out (by kernel_rfl)) (fun _ _ _ h => h) (Or.inl ⟨by rfl, ?_⟩) ?_ ?_
                            rotate_left
                            · intro w'
                              go_simp
                              with_reducible rfl
                            rotate_left
                            · simp only [Act.put, List.setIfInBounds_toArray, List.set_cons_zero, List.set_cons_succ, i64_w, i32_w]
                              rfl
                            refine done_ (done_of HT_.out (by kernel_rfl)) ?_
                            try go_wp2
                            go_roundg kj30
                            case measure => have := HK1.out; have := HJ30.out; omega
                            case rel => exact ⟨(wrap64 (x8_1 + 1)), (by first | rfl | (simp; done) | (simp [*]; done)), H', ⟨by have := HK1.out; have := HJ30.out; omega⟩, ⟨by (with_reducible repeat (first | apply Kd.Q_alloc | apply Kd.Q_drewN | apply Kd.Q_drew)); exact HO_5.out⟩, ⟨by (with_reducible repeat (first | apply Kd.R_alloc | apply Kd.R_drewN | apply Kd.R_drew)); exact HO_276001.out⟩, ⟨by (with_reducible repeat (first | refine blk_drewN ?_ _ | refine blk_drew ?_ | refine blk_alloc ?_ _)); exact BK263.out⟩, ⟨by (with_reducible repeat (first | refine blk_drewN ?_ _ | refine blk_drew ?_ | refine blk_alloc ?_ _)); exact BK264.out⟩, ⟨by (with_reducible repeat (first | refine blk_drewN ?_ _ | refine blk_drew ?_ | refine blk_alloc ?_ _)); exact BK270.out⟩, ⟨by (with_reducible repeat (first | refine blk_drewN ?_ _ | refine blk_drew ?_ | refine blk_alloc ?_ _)); exact BK275.out⟩, ⟨by repeat (first | (with_reducible first | exact HB.out | apply below_alloc | apply pw_below_drewN | apply below_drew1 | refine below_set ?_ GE263.out | refine below_set ?_ GE264.out | refine below_set ?_ GE270.out | refine below_set ?_ GE275.out) | exact HB.out)⟩⟩
                          · exact absurd (of_decide_eq_true c43b0) c47
                        · rw [if_neg c46] at H
                          have c46b0 : ((rd t272 x8_1) == 0) = false := beq_eq_false_iff_ne.mpr c46
                          have c46b1 : ((rd t272 x8_1) != 0) = true := bne_iff_ne.mpr c46
                          exact absurd H (by simp)
                      · rw [if_neg c45] at H
                        exact absurd H (by simp)
                    · rw [if_neg c44] at H
                      exact absurd H (by simp)
                  · rw [if_neg c43] at H
                    have c43b0 : decide (x8_1 < (wrap64 (t268 + t269))) = false := decide_eq_false c43
                    clear c43
                    by_cases c70 : (x8_1 < (wrap64 (t268 + t269)))
                    · exact absurd c70 (of_decide_eq_false c43b0)
                    · rw [if_neg c70] at H
                      have c70b0 : decide (x8_1 < (wrap64 (t268 + t269))) = false := decide_eq_false c70
                      clear c70
                      by_cases c76 : 0 ≤ x8_1
                      · rw [if_pos c76] at H
                        have c76b0 : decide (0 ≤ x8_1) = true := decide_eq_true c76
                        clear c76
                        by_cases c77 : x8_1 < (t272.length : Int)
                        · rw [if_pos c77] at H
                          have c77b0 : decide (x8_1 < (t272.length : Int)) = true := decide_eq_true c77
                          clear c77
                          by_cases c78 : x8_1 < (t265.length : Int)
                          · rw [if_pos c78] at H
                            have c78b0 : decide (x8_1 < (t265.length : Int)) = true := decide_eq_true c78
                            clear c78
                            by_cases c79 : (rd t272 x8_1) = (rd t265 x8_1)
                            · rw [if_pos c79] at H
                              have c79b0 : ((rd t272 x8_1) == (rd t265 x8_1)) = true := beq_iff_eq.mpr c79
                              have c79b1 : ((rd t272 x8_1) != (rd t265 x8_1)) = false := bne_eq_false_iff_eq.mpr c79
                              clear c79
                              have H' := Aside0.mk H
                              clear H
                              have hnb80 := NB270_263.out
                              have hnc80 := NB263_270.out
                              have hnb81 := NB270_264.out
                              have hnc81 := NB264_270.out
                              have hnb82 := NB270_275.out
                              have hnc82 := NB275_270.out
                              have hcz83_0 : wc.cell? ⟨gb270, 0, none⟩ = some (.int .i64 t268) := (blk_cell BK270.out 0).trans rfl
                              have hcz83_1 : wc.cell? ⟨gb270, 1, none⟩ = some (.int .i64 t269) := (blk_cell BK270.out 1).trans rfl
                              have hfz83_0 := blk_frozen BK270.out 0
                              have hfz83_1 := blk_frozen BK270.out 1
                              try go_wp2
                              have n0_ := Aside0.mk (Kd.Q_drew HO_5.out)
                              have n1_ := Aside0.mk (Kd.R_drew HO_276001.out)
                              have n2_ := Aside0.mk (blk_drew BK263.out)
                              have n3_ := Aside0.mk (blk_drew BK264.out)
                              have n4_ := Aside0.mk (blk_drew BK270.out)
                              have n5_ := Aside0.mk (blk_drew BK275.out)
                              have n6_ := Aside0.mk (below_drew1 HB.out)
                              clear HO_5
                              clear HO_276001
                              clear BK263
                              clear BK264
                              clear BK270
                              clear BK275
                              clear HB
                              have HO_5 := n0_
                              have HO_276001 := n1_
                              have BK263 := n2_
                              have BK264 := n3_
                              have BK270 := n4_
                              have BK275 := n5_
                              have HB := n6_
                              clear n0_ n1_ n2_ n3_ n4_ n5_ n6_
                              have p283 : 0 ≤ (x8_1 : Int) := of_decide_eq_true (by first | (with_reducible assumption) | assumption)
                              have q283 : x8_1 < (t272.length : Int) := of_decide_eq_true (by first | (with_reducible assumption) | assumption)
                              obtain ⟨ad283, e283, hx283_0⟩ := Kd.at_int (Kd.R_reads' HO_276001.out).2.2 x8_1 p283 q283
                              cases e283
                              replace p283 := eq_true p283
                              replace q283 := eq_true q283
                              have p284 : 0 ≤ (x8_1 : Int) := of_decide_eq_true (by first | (with_reducible assumption) | assumption)
                              have q284 : x8_1 < (t265.length : Int) := of_decide_eq_true (by first | (with_reducible assumption) | assumption)
                              obtain ⟨ad284, e284, hx284_0⟩ := Kd.at_int (Kd.Q_reads' HO_5.out).2.2 x8_1 p284 q284
                              cases e284
                              replace p284 := eq_true p284
                              replace q284 := eq_true q284
                              refine start_ (n := 25) (S := fun w' => w'.cell? ⟨gb275, 0, none⟩ = some (.int .i64 t271) ∧ w'.cell? ⟨gb275, 1, none⟩ = some (.slice (some ad283) t272.length co27) ∧ w'.cell? (ad283.add (x8_1).toNat) = some (.int .i64 (rd t272 x8_1)) ∧ w'.cell? (ad284.add (x8_1).toNat) = some (.int .i64 (rd t265 x8_1))) (ds := []) #[false, false, false, false, false, false, false, false, false, false, false, false, false, false, false, false, false, false, false, false, false, false, false, false, false] (by kernel_rfl) rfl rfl ⟨(blk_cell BK275.out 0).trans rfl, (blk_cell BK275.out 1).trans rfl, hx283_0, hx284_0⟩ (fun hHeld => ?_); refine with_tabW laws_FnRegions.tab12 laws_FnRegions.bits12 (fun HT_ HW_ => ?_)
                              generalize wc.drew = w84 at HO_5 HO_276001 BK263 BK264 BK270 BK275 HB hx283_0 hx284_0 hHeld ⊢
                              refine pure_ (i := 0) (N := some 59) (v := ?_) (a' := ?_) #[true, false, false, false, false, false, false, false, false, false, false, false, false, false, false, false, false, false, false, false, false, false, false, false, false] rfl rfl (any_of HT_.out (by kernel_rfl)) (fun _ _ _ h => h) (Or.inl ⟨by rfl, ?_⟩) ?_ ?_
                              rotate_left
                              · intro w'
                                go_simp
                                with_reducible rfl
                              rotate_left
                              · simp only [Act.put, List.setIfInBounds_toArray, List.set_cons_zero, List.set_cons_succ, i64_w, i32_w]
                                rfl
                              refine pure_ (i := 1) (N := some 60) (v := ?_) (a' := ?_) #[true, true, false, false, false, false, false, false, false, false, false, false, false, false, false, false, false, false, false, false, false, false, false, false, false] rfl rfl (any_of HT_.out (by kernel_rfl)) (fun _ _ _ h => h) (Or.inl ⟨by rfl, ?_⟩) ?_ ?_
                              rotate_left
                              · intro w'
                                go_simp
                                with_reducible rfl
                              rotate_left
                              · simp only [Act.put, List.setIfInBounds_toArray, List.set_cons_zero, List.set_cons_succ, i64_w, i32_w]
                                rfl
                              refine pure_ (i := 2) (N := some 61) (v := undef) (a' := ?_) #[true, true, true, false, false, false, false, false, false, false, false, false, false, false, false, false, false, false, false, false, false, false, false, false, false] rfl rfl (any_of HT_.out (by kernel_rfl)) (fun _ _ _ h => h) (Or.inr ⟨by rfl, rfl⟩) ?_ ?_
                              rotate_left
                              · simp only [Act.put, List.setIfInBounds_toArray, List.set_cons_zero, List.set_cons_succ, i64_w, i32_w]
                                rfl
                              refine pure_ (i := 3) (N := some 62) (v := undef) (a' := ?_) #[true, true, true, true, false, false, false, false, false, false, false, false, false, false, false, false, false, false, false, false, false, false, false, false, false] rfl rfl (any_of HT_.out (by kernel_rfl)) (fun _ _ _ h => h) (Or.inr ⟨by rfl, rfl⟩) ?_ ?_
                              rotate_left
                              · simp only [Act.put, List.setIfInBounds_toArray, List.set_cons_zero, List.set_cons_succ, i64_w, i32_w]
                                rfl
                              refine pure_ (i := 4) (N := some 63) (v := undef) (a' := ?_) #[true, true, true, true, true, false, false, false, false, false, false, false, false, false, false, false, false, false, false, false, false, false, false, false, false] rfl rfl (any_of HT_.out (by kernel_rfl)) (fun _ _ _ h => h) (Or.inr ⟨by rfl, rfl⟩) ?_ ?_
                              rotate_left
                              · simp only [Act.put, List.setIfInBounds_toArray, List.set_cons_zero, List.set_cons_succ, i64_w, i32_w]
                                rfl
                              refine pure_ (i := 5) (N := some 64) (v := undef) (a' := ?_) #[true, true, true, true, true, true, false, false, false, false, false, false, false, false, false, false, false, false, false, false, false, false, false, false, false] rfl rfl (any_of HT_.out (by kernel_rfl)) (fun _ _ _ h => h) (Or.inr ⟨by rfl, rfl⟩) ?_ ?_
                              rotate_left
                              · simp only [Act.put, List.setIfInBounds_toArray, List.set_cons_zero, List.set_cons_succ, i64_w, i32_w]
                                rfl
                              refine pure_ (i := 6) (N := some 65) (v := undef) (a' := ?_) #[true, true, true, true, true, true, true, false, false, false, false, false, false, false, false, false, false, false, false, false, false, false, false, false, false] rfl rfl (any_of HT_.out (by kernel_rfl)) (fun _ _ _ h => h) (Or.inr ⟨by rfl, rfl⟩) ?_ ?_
                              rotate_left
                              · simp only [Act.put, List.setIfInBounds_toArray, List.set_cons_zero, List.set_cons_succ, i64_w, i32_w]
                                rfl
                              refine pure_ (i := 7) (N := some 66) (v := undef) (a' := ?_) #[true, true, true, true, true, true, true, true, false, false, false, false, false, false, false, false, false, false, false, false, false, false, false, false, false] rfl rfl (any_of HT_.out (by kernel_rfl)) (fun _ _ _ h => h) (Or.inr ⟨by rfl, rfl⟩) ?_ ?_
                              rotate_left
                              · simp only [Act.put, List.setIfInBounds_toArray, List.set_cons_zero, List.set_cons_succ, i64_w, i32_w]
                                rfl
                              refine pure_ (i := 8) (N := some 67) (v := ?_) (a' := ?_) #[true, true, true, true, true, true, true, true, true, false, false, false, false, false, false, false, false, false, false, false, false, false, false, false, false] rfl rfl (any_of HT_.out (by kernel_rfl)) (fun _ _ _ h => h) (Or.inl ⟨by rfl, ?_⟩) ?_ ?_
                              rotate_left
                              · intro w'
                                go_simp
                                with_reducible rfl
                              rotate_left
                              · simp only [Act.put, List.setIfInBounds_toArray, List.set_cons_zero, List.set_cons_succ, i64_w, i32_w]
                                rfl
                              refine pure_ (i := 9) (N := some 68) (v := ?_) (a' := ?_) #[true, true, true, true, true, true, true, true, true, true, false, false, false, false, false, false, false, false, false, false, false, false, false, false, false] rfl rfl (any_of HT_.out (by kernel_rfl)) (fun _ _ _ h => h) (Or.inl ⟨by rfl, ?_⟩) ?_ ?_
                              rotate_left
                              · intro w'
                                go_simp
                                with_reducible rfl
                              rotate_left
                              · simp only [Act.put, List.setIfInBounds_toArray, List.set_cons_zero, List.set_cons_succ, i64_w, i32_w]
                                rfl
                              refine pure_ (i := 10) (N := some 69) (v := ?_) (a' := ?_) #[true, true, true, true, true, true, true, true, true, true, true, false, false, false, false, false, false, false, false, false, false, false, false, false, false] rfl rfl (any_of HT_.out (by kernel_rfl)) (fun _ _ _ h => h) (Or.inl ⟨by rfl, ?_⟩) ?_ ?_
                              rotate_left
                              · intro w'
                                go_simp
                                with_reducible rfl
                              rotate_left
                              · simp only [Act.put, List.setIfInBounds_toArray, List.set_cons_zero, List.set_cons_succ, i64_w, i32_w]
                                rfl
                              refine pure_ (i := 11) (N := some 70) (v := ?_) (a' := ?_) #[true, true, true, true, true, true, true, true, true, true, true, true, false, false, false, false, false, false, false, false, false, false, false, false, false] rfl rfl (any_of HT_.out (by kernel_rfl)) (fun _ _ _ h => h) (Or.inl ⟨by rfl, ?_⟩) ?_ ?_
                              rotate_left
                              · intro w'
                                go_simp
                                with_reducible rfl
                              rotate_left
                              · simp only [Act.put, List.setIfInBounds_toArray, List.set_cons_zero, List.set_cons_succ, i64_w, i32_w]
                                rfl
                              refine pure_ (i := 12) (N := some 71) (v := ?_) (a' := ?_) #[true, true, true, true, true, true, true, true, true, true, true, true, true, false, false, false, false, false, false, false, false, false, false, false, false] rfl rfl (any_of HT_.out (by kernel_rfl)) (fun _ _ _ h => h) (Or.inl ⟨by rfl, ?_⟩) ?_ ?_
                              rotate_left
                              · intro w'
                                go_simp
                                with_reducible rfl
                              rotate_left
                              · simp only [Act.put, List.setIfInBounds_toArray, List.set_cons_zero, List.set_cons_succ, i64_w, i32_w]
                                rfl
                              refine pure_ (i := 13) (N := some 72) (v := ?_) (a' := ?_) #[true, true, true, true, true, true, true, true, true, true, true, true, true, true, false, false, false, false, false, false, false, false, false, false, false] rfl rfl (any_of HT_.out (by kernel_rfl)) (fun _ _ _ h => h) (Or.inl ⟨by rfl, ?_⟩) ?_ ?_
                              rotate_left
                              · intro w'
                                go_simp
                                with_reducible rfl
                              rotate_left
                              · simp only [Act.put, List.setIfInBounds_toArray, List.set_cons_zero, List.set_cons_succ, i64_w, i32_w]
                                rfl
                              refine pure_ (i := 15) (N := some 74) (v := ?_) (a' := ?_) #[true, true, true, true, true, true, true, true, true, true, true, true, true, true, false, true, false, false, false, false, false, false, false, false, false] rfl rfl (any_of HT_.out (by kernel_rfl)) (fun _ _ _ h => h) (Or.inl ⟨by rfl, ?_⟩) ?_ ?_
                              rotate_left
                              · intro w'
                                go_simp
                                with_reducible rfl
                              rotate_left
                              · simp only [Act.put, List.setIfInBounds_toArray, List.set_cons_zero, List.set_cons_succ, i64_w, i32_w]
                                rfl
                              refine pure_ (i := 18) (N := some 77) (v := ?_) (a' := ?_) #[true, true, true, true, true, true, true, true, true, true, true, true, true, true, false, true, false, false, true, false, false, false, false, false, false] rfl rfl (any_of HT_.out (by kernel_rfl)) (fun _ _ _ h => h) (Or.inl ⟨by rfl, ?_⟩) ?_ ?_
                              rotate_left
                              · intro w'
                                go_simp
                                with_reducible rfl
                              rotate_left
                              · simp only [Act.put, List.setIfInBounds_toArray, List.set_cons_zero, List.set_cons_succ, i64_w, i32_w]
                                rfl
                              refine pure_ (i := 19) (N := some 78) (v := ?_) (a' := ?_) #[true, true, true, true, true, true, true, true, true, true, true, true, true, true, false, true, false, false, true, true, false, false, false, false, false] rfl rfl (any_of HT_.out (by kernel_rfl)) (fun _ _ _ h => h) (Or.inl ⟨by rfl, ?_⟩) ?_ ?_
                              rotate_left
                              · intro w'
                                go_simp
                                with_reducible rfl
                              rotate_left
                              · simp only [Act.put, List.setIfInBounds_toArray, List.set_cons_zero, List.set_cons_succ, i64_w, i32_w]
                                rfl
                              refine pure_ (i := 20) (N := some 79) (v := ?_) (a' := ?_) #[true, true, true, true, true, true, true, true, true, true, true, true, true, true, false, true, false, false, true, true, true, false, false, false, false] rfl rfl (any_of HT_.out (by kernel_rfl)) (fun _ _ _ h => h) (Or.inl ⟨by rfl, ?_⟩) ?_ ?_
                              rotate_left
                              · intro w'
                                go_simp
                                with_reducible rfl
                              rotate_left
                              · simp only [Act.put, List.setIfInBounds_toArray, List.set_cons_zero, List.set_cons_succ, i64_w, i32_w]
                                rfl
                              refine take_ (i := 14) (N := some 73) (v := ?_) (a' := ?_) #[true, true, true, true, true, true, true, true, true, true, true, true, true, true, true, true, false, false, true, true, true, false, false, false, false] rfl rfl (take_ofW HT_.out HW_.out (by kernel_rfl)) (fun _ _ _ h => h) (Or.inl ⟨by rfl, ?_⟩) hHeld ?_ ?_
                              rotate_left
                              · rintro w' ⟨s0, s1, s2, s3⟩
                                go_simp
                                with_reducible rfl
                              rotate_left
                              · simp only [Act.put, List.setIfInBounds_toArray, List.set_cons_zero, List.set_cons_succ, i64_w, i32_w]
                                rfl
                              refine pure_ (i := 16) (N := some 75) (v := ?_) (a' := ?_) #[true, true, true, true, true, true, true, true, true, true, true, true, true, true, true, true, true, false, true, true, true, false, false, false, false] rfl rfl (any_of HT_.out (by kernel_rfl)) (fun _ _ _ h => h) (Or.inl ⟨by rfl, ?_⟩) ?_ ?_
                              rotate_left
                              · intro w'
                                go_simp
                                with_reducible rfl
                              rotate_left
                              · simp only [Act.put, List.setIfInBounds_toArray, List.set_cons_zero, List.set_cons_succ, i64_w, i32_w]
                                rfl
                              refine take_ (i := 17) (N := some 76) (v := ?_) (a' := ?_) #[true, true, true, true, true, true, true, true, true, true, true, true, true, true, true, true, true, true, true, true, true, false, false, false, false] rfl rfl (take_ofW HT_.out HW_.out (by kernel_rfl)) (fun _ _ _ h => h) (Or.inl ⟨by rfl, ?_⟩) hHeld ?_ ?_
                              rotate_left
                              · rintro w' ⟨s0, s1, s2, s3⟩
                                go_simp
                                with_reducible rfl
                              rotate_left
                              · simp only [Act.put, List.setIfInBounds_toArray, List.set_cons_zero, List.set_cons_succ, i64_w, i32_w]
                                rfl
                              refine take_ (i := 21) (N := some 80) (v := ?_) (a' := ?_) #[true, true, true, true, true, true, true, true, true, true, true, true, true, true, true, true, true, true, true, true, true, true, false, false, false] rfl rfl (take_ofW HT_.out HW_.out (by kernel_rfl)) (fun _ _ _ h => h) (Or.inl ⟨by rfl, ?_⟩) hHeld ?_ ?_
                              rotate_left
                              · rintro w' ⟨s0, s1, s2, s3⟩
                                go_simp
                                with_reducible rfl
                              rotate_left
                              · simp only [Act.put, List.setIfInBounds_toArray, List.set_cons_zero, List.set_cons_succ, i64_w, i32_w]
                                rfl
                              refine pure_ (i := 22) (N := some 81) (v := ?_) (a' := ?_) #[true, true, true, true, true, true, true, true, true, true, true, true, true, true, true, true, true, true, true, true, true, true, true, false, false] rfl rfl (any_of HT_.out (by kernel_rfl)) (fun _ _ _ h => h) (Or.inl ⟨by rfl, ?_⟩) ?_ ?_
                              rotate_left
                              · intro w'
                                go_simp
                                with_reducible rfl
                              rotate_left
                              · simp only [Act.put, List.setIfInBounds_toArray, List.set_cons_zero, List.set_cons_succ, i64_w, i32_w]
                                rfl
                              refine pure_ (i := 23) (N := some 82) (v := ?_) (a' := ?_) #[true, true, true, true, true, true, true, true, true, true, true, true, true, true, true, true, true, true, true, true, true, true, true, true, false] rfl rfl (any_of HT_.out (by kernel_rfl)) (fun _ _ _ h => h) (Or.inl ⟨by rfl, ?_⟩) ?_ ?_
                              rotate_left
                              · intro w'
                                go_simp
                                with_reducible rfl
                              rotate_left
                              · simp only [Act.put, List.setIfInBounds_toArray, List.set_cons_zero, List.set_cons_succ, i64_w, i32_w]
                                rfl
                              refine pure_ (i := 24) (N := some 83) (v := ?_) (a' := ?_) #[true, true, true, true, true, true, true, true, true, true, true, true, true, true, true, true, true, true, true, true, true, true, true, true, true] rfl rfl (any_of HT_.out (by kernel_rfl)) (fun _ _ _ h => h) (Or.inl ⟨by rfl, ?_⟩) ?_ ?_
                              rotate_left
                              · intro w'
                                go_simp
                                with_reducible rfl
                              rotate_left
                              · simp only [Act.put, List.setIfInBounds_toArray, List.set_cons_zero, List.set_cons_succ, i64_w, i32_w]
                                rfl
                              refine done_ (done_of HT_.out (by kernel_rfl)) ?_
                              try go_wp2
                              go_roundg kj30
                              case measure => have := HK1.out; have := HJ30.out; omega
                              case rel => exact ⟨(wrap64 (x8_1 + 1)), (by first | rfl | (simp; done) | (simp [*]; done)), H', ⟨by have := HK1.out; have := HJ30.out; omega⟩, ⟨by (with_reducible repeat (first | apply Kd.Q_alloc | apply Kd.Q_drewN | apply Kd.Q_drew)); exact HO_5.out⟩, ⟨by (with_reducible repeat (first | apply Kd.R_alloc | apply Kd.R_drewN | apply Kd.R_drew)); exact HO_276001.out⟩, ⟨by (with_reducible repeat (first | refine blk_drewN ?_ _ | refine blk_drew ?_ | refine blk_alloc ?_ _)); exact BK263.out⟩, ⟨by (with_reducible repeat (first | refine blk_drewN ?_ _ | refine blk_drew ?_ | refine blk_alloc ?_ _)); exact BK264.out⟩, ⟨by (with_reducible repeat (first | refine blk_drewN ?_ _ | refine blk_drew ?_ | refine blk_alloc ?_ _)); exact BK270.out⟩, ⟨by (with_reducible repeat (first | refine blk_drewN ?_ _ | refine blk_drew ?_ | refine blk_alloc ?_ _)); exact BK275.out⟩, ⟨by repeat (first | (with_reducible first | exact HB.out | apply below_alloc | apply pw_below_drewN | apply below_drew1 | refine below_set ?_ GE263.out | refine below_set ?_ GE264.out | refine below_set ?_ GE270.out | refine below_set ?_ GE275.out) | exact HB.out)⟩⟩
                            · rw [if_neg c79] at H
                              have c79b0 : ((rd t272 x8_1) == (rd t265 x8_1)) = false := beq_eq_false_iff_ne.mpr c79
                              have c79b1 : ((rd t272 x8_1) != (rd t265 x8_1)) = true := bne_iff_ne.mpr c79
                              exact absurd H (by simp)
                          · rw [if_neg c78] at H
                            exact absurd H (by simp)
                        · rw [if_neg c77] at H
                          exact absurd H (by simp)
                      · rw [if_neg c76] at H
                        exact absurd H (by simp)
                · rw [if_neg c42] at H
                  have c42b0 : decide (t268 ≤ x8_1) = false := decide_eq_false c42
                  clear c42
                  by_cases c90 : 0 ≤ x8_1
                  · rw [if_pos c90] at H
                    have c90b0 : decide (0 ≤ x8_1) = true := decide_eq_true c90
                    clear c90
                    by_cases c91 : x8_1 < (t272.length : Int)
                    · rw [if_pos c91] at H
                      have c91b0 : decide (x8_1 < (t272.length : Int)) = true := decide_eq_true c91
                      clear c91
                      by_cases c92 : x8_1 < (t265.length : Int)
                      · rw [if_pos c92] at H
                        have c92b0 : decide (x8_1 < (t265.length : Int)) = true := decide_eq_true c92
                        clear c92
                        by_cases c93 : (rd t272 x8_1) = (rd t265 x8_1)
                        · rw [if_pos c93] at H
                          have c93b0 : ((rd t272 x8_1) == (rd t265 x8_1)) = true := beq_iff_eq.mpr c93
                          have c93b1 : ((rd t272 x8_1) != (rd t265 x8_1)) = false := bne_eq_false_iff_eq.mpr c93
                          clear c93
                          have H' := Aside0.mk H
                          clear H
                          have hnb94 := NB270_263.out
                          have hnc94 := NB263_270.out
                          have hnb95 := NB270_264.out
                          have hnc95 := NB264_270.out
                          have hnb96 := NB270_275.out
                          have hnc96 := NB275_270.out
                          have hcz97_0 : wc.cell? ⟨gb270, 0, none⟩ = some (.int .i64 t268) := (blk_cell BK270.out 0).trans rfl
                          have hcz97_1 : wc.cell? ⟨gb270, 1, none⟩ = some (.int .i64 t269) := (blk_cell BK270.out 1).trans rfl
                          have hfz97_0 := blk_frozen BK270.out 0
                          have hfz97_1 := blk_frozen BK270.out 1
                          try go_wp2
                          have n0_ := Aside0.mk (Kd.Q_drew HO_5.out)
                          have n1_ := Aside0.mk (Kd.R_drew HO_276001.out)
                          have n2_ := Aside0.mk (blk_drew BK263.out)
                          have n3_ := Aside0.mk (blk_drew BK264.out)
                          have n4_ := Aside0.mk (blk_drew BK270.out)
                          have n5_ := Aside0.mk (blk_drew BK275.out)
                          have n6_ := Aside0.mk (below_drew1 HB.out)
                          clear HO_5
                          clear HO_276001
                          clear BK263
                          clear BK264
                          clear BK270
                          clear BK275
                          clear HB
                          have HO_5 := n0_
                          have HO_276001 := n1_
                          have BK263 := n2_
                          have BK264 := n3_
                          have BK270 := n4_
                          have BK275 := n5_
                          have HB := n6_
                          clear n0_ n1_ n2_ n3_ n4_ n5_ n6_
                          have p285 : 0 ≤ (x8_1 : Int) := of_decide_eq_true (by first | (with_reducible assumption) | assumption)
                          have q285 : x8_1 < (t272.length : Int) := of_decide_eq_true (by first | (with_reducible assumption) | assumption)
                          obtain ⟨ad285, e285, hx285_0⟩ := Kd.at_int (Kd.R_reads' HO_276001.out).2.2 x8_1 p285 q285
                          cases e285
                          replace p285 := eq_true p285
                          replace q285 := eq_true q285
                          have p286 : 0 ≤ (x8_1 : Int) := of_decide_eq_true (by first | (with_reducible assumption) | assumption)
                          have q286 : x8_1 < (t265.length : Int) := of_decide_eq_true (by first | (with_reducible assumption) | assumption)
                          obtain ⟨ad286, e286, hx286_0⟩ := Kd.at_int (Kd.Q_reads' HO_5.out).2.2 x8_1 p286 q286
                          cases e286
                          replace p286 := eq_true p286
                          replace q286 := eq_true q286
                          refine start_ (n := 25) (S := fun w' => w'.cell? ⟨gb275, 0, none⟩ = some (.int .i64 t271) ∧ w'.cell? ⟨gb275, 1, none⟩ = some (.slice (some ad285) t272.length co27) ∧ w'.cell? (ad285.add (x8_1).toNat) = some (.int .i64 (rd t272 x8_1)) ∧ w'.cell? (ad286.add (x8_1).toNat) = some (.int .i64 (rd t265 x8_1))) (ds := []) #[false, false, false, false, false, false, false, false, false, false, false, false, false, false, false, false, false, false, false, false, false, false, false, false, false] (by kernel_rfl) rfl rfl ⟨(blk_cell BK275.out 0).trans rfl, (blk_cell BK275.out 1).trans rfl, hx285_0, hx286_0⟩ (fun hHeld => ?_); refine with_tabW laws_FnRegions.tab12 laws_FnRegions.bits12 (fun HT_ HW_ => ?_)
                          generalize wc.drew = w98 at HO_5 HO_276001 BK263 BK264 BK270 BK275 HB hx285_0 hx286_0 hHeld ⊢
                          refine pure_ (i := 0) (N := some 59) (v := ?_) (a' := ?_) #[true, false, false, false, false, false, false, false, false, false, false, false, false, false, false, false, false, false, false, false, false, false, false, false, false] rfl rfl (any_of HT_.out (by kernel_rfl)) (fun _ _ _ h => h) (Or.inl ⟨by rfl, ?_⟩) ?_ ?_
                          rotate_left
                          · intro w'
                            go_simp
                            with_reducible rfl
                          rotate_left
                          · simp only [Act.put, List.setIfInBounds_toArray, List.set_cons_zero, List.set_cons_succ, i64_w, i32_w]
                            rfl
                          refine pure_ (i := 1) (N := some 60) (v := ?_) (a' := ?_) #[true, true, false, false, false, false, false, false, false, false, false, false, false, false, false, false, false, false, false, false, false, false, false, false, false] rfl rfl (any_of HT_.out (by kernel_rfl)) (fun _ _ _ h => h) (Or.inl ⟨by rfl, ?_⟩) ?_ ?_
                          rotate_left
                          · intro w'
                            go_simp
                            with_reducible rfl
                          rotate_left
                          · simp only [Act.put, List.setIfInBounds_toArray, List.set_cons_zero, List.set_cons_succ, i64_w, i32_w]
                            rfl
                          refine pure_ (i := 2) (N := some 61) (v := undef) (a' := ?_) #[true, true, true, false, false, false, false, false, false, false, false, false, false, false, false, false, false, false, false, false, false, false, false, false, false] rfl rfl (any_of HT_.out (by kernel_rfl)) (fun _ _ _ h => h) (Or.inr ⟨by rfl, rfl⟩) ?_ ?_
                          rotate_left
                          · simp only [Act.put, List.setIfInBounds_toArray, List.set_cons_zero, List.set_cons_succ, i64_w, i32_w]
                            rfl
                          refine pure_ (i := 3) (N := some 62) (v := undef) (a' := ?_) #[true, true, true, true, false, false, false, false, false, false, false, false, false, false, false, false, false, false, false, false, false, false, false, false, false] rfl rfl (any_of HT_.out (by kernel_rfl)) (fun _ _ _ h => h) (Or.inr ⟨by rfl, rfl⟩) ?_ ?_
                          rotate_left
                          · simp only [Act.put, List.setIfInBounds_toArray, List.set_cons_zero, List.set_cons_succ, i64_w, i32_w]
                            rfl
                          refine pure_ (i := 4) (N := some 63) (v := undef) (a' := ?_) #[true, true, true, true, true, false, false, false, false, false, false, false, false, false, false, false, false, false, false, false, false, false, false, false, false] rfl rfl (any_of HT_.out (by kernel_rfl)) (fun _ _ _ h => h) (Or.inr ⟨by rfl, rfl⟩) ?_ ?_
                          rotate_left
                          · simp only [Act.put, List.setIfInBounds_toArray, List.set_cons_zero, List.set_cons_succ, i64_w, i32_w]
                            rfl
                          refine pure_ (i := 5) (N := some 64) (v := undef) (a' := ?_) #[true, true, true, true, true, true, false, false, false, false, false, false, false, false, false, false, false, false, false, false, false, false, false, false, false] rfl rfl (any_of HT_.out (by kernel_rfl)) (fun _ _ _ h => h) (Or.inr ⟨by rfl, rfl⟩) ?_ ?_
                          rotate_left
                          · simp only [Act.put, List.setIfInBounds_toArray, List.set_cons_zero, List.set_cons_succ, i64_w, i32_w]
                            rfl
                          refine pure_ (i := 6) (N := some 65) (v := undef) (a' := ?_) #[true, true, true, true, true, true, true, false, false, false, false, false, false, false, false, false, false, false, false, false, false, false, false, false, false] rfl rfl (any_of HT_.out (by kernel_rfl)) (fun _ _ _ h => h) (Or.inr ⟨by rfl, rfl⟩) ?_ ?_
                          rotate_left
                          · simp only [Act.put, List.setIfInBounds_toArray, List.set_cons_zero, List.set_cons_succ, i64_w, i32_w]
                            rfl
                          refine pure_ (i := 7) (N := some 66) (v := undef) (a' := ?_) #[true, true, true, true, true, true, true, true, false, false, false, false, false, false, false, false, false, false, false, false, false, false, false, false, false] rfl rfl (any_of HT_.out (by kernel_rfl)) (fun _ _ _ h => h) (Or.inr ⟨by rfl, rfl⟩) ?_ ?_
                          rotate_left
                          · simp only [Act.put, List.setIfInBounds_toArray, List.set_cons_zero, List.set_cons_succ, i64_w, i32_w]
                            rfl
                          refine pure_ (i := 8) (N := some 67) (v := ?_) (a' := ?_) #[true, true, true, true, true, true, true, true, true, false, false, false, false, false, false, false, false, false, false, false, false, false, false, false, false] rfl rfl (any_of HT_.out (by kernel_rfl)) (fun _ _ _ h => h) (Or.inl ⟨by rfl, ?_⟩) ?_ ?_
                          rotate_left
                          · intro w'
                            go_simp
                            with_reducible rfl
                          rotate_left
                          · simp only [Act.put, List.setIfInBounds_toArray, List.set_cons_zero, List.set_cons_succ, i64_w, i32_w]
                            rfl
                          refine pure_ (i := 9) (N := some 68) (v := ?_) (a' := ?_) #[true, true, true, true, true, true, true, true, true, true, false, false, false, false, false, false, false, false, false, false, false, false, false, false, false] rfl rfl (any_of HT_.out (by kernel_rfl)) (fun _ _ _ h => h) (Or.inl ⟨by rfl, ?_⟩) ?_ ?_
                          rotate_left
                          · intro w'
                            go_simp
                            with_reducible rfl
                          rotate_left
                          · simp only [Act.put, List.setIfInBounds_toArray, List.set_cons_zero, List.set_cons_succ, i64_w, i32_w]
                            rfl
                          refine pure_ (i := 10) (N := some 69) (v := ?_) (a' := ?_) #[true, true, true, true, true, true, true, true, true, true, true, false, false, false, false, false, false, false, false, false, false, false, false, false, false] rfl rfl (any_of HT_.out (by kernel_rfl)) (fun _ _ _ h => h) (Or.inl ⟨by rfl, ?_⟩) ?_ ?_
                          rotate_left
                          · intro w'
                            go_simp
                            with_reducible rfl
                          rotate_left
                          · simp only [Act.put, List.setIfInBounds_toArray, List.set_cons_zero, List.set_cons_succ, i64_w, i32_w]
                            rfl
                          refine pure_ (i := 11) (N := some 70) (v := ?_) (a' := ?_) #[true, true, true, true, true, true, true, true, true, true, true, true, false, false, false, false, false, false, false, false, false, false, false, false, false] rfl rfl (any_of HT_.out (by kernel_rfl)) (fun _ _ _ h => h) (Or.inl ⟨by rfl, ?_⟩) ?_ ?_
                          rotate_left
                          · intro w'
                            go_simp
                            with_reducible rfl
                          rotate_left
                          · simp only [Act.put, List.setIfInBounds_toArray, List.set_cons_zero, List.set_cons_succ, i64_w, i32_w]
                            rfl
                          refine pure_ (i := 12) (N := some 71) (v := ?_) (a' := ?_) #[true, true, true, true, true, true, true, true, true, true, true, true, true, false, false, false, false, false, false, false, false, false, false, false, false] rfl rfl (any_of HT_.out (by kernel_rfl)) (fun _ _ _ h => h) (Or.inl ⟨by rfl, ?_⟩) ?_ ?_
                          rotate_left
                          · intro w'
                            go_simp
                            with_reducible rfl
                          rotate_left
                          · simp only [Act.put, List.setIfInBounds_toArray, List.set_cons_zero, List.set_cons_succ, i64_w, i32_w]
                            rfl
                          refine pure_ (i := 13) (N := some 72) (v := ?_) (a' := ?_) #[true, true, true, true, true, true, true, true, true, true, true, true, true, true, false, false, false, false, false, false, false, false, false, false, false] rfl rfl (any_of HT_.out (by kernel_rfl)) (fun _ _ _ h => h) (Or.inl ⟨by rfl, ?_⟩) ?_ ?_
                          rotate_left
                          · intro w'
                            go_simp
                            with_reducible rfl
                          rotate_left
                          · simp only [Act.put, List.setIfInBounds_toArray, List.set_cons_zero, List.set_cons_succ, i64_w, i32_w]
                            rfl
                          refine pure_ (i := 15) (N := some 74) (v := ?_) (a' := ?_) #[true, true, true, true, true, true, true, true, true, true, true, true, true, true, false, true, false, false, false, false, false, false, false, false, false] rfl rfl (any_of HT_.out (by kernel_rfl)) (fun _ _ _ h => h) (Or.inl ⟨by rfl, ?_⟩) ?_ ?_
                          rotate_left
                          · intro w'
                            go_simp
                            with_reducible rfl
                          rotate_left
                          · simp only [Act.put, List.setIfInBounds_toArray, List.set_cons_zero, List.set_cons_succ, i64_w, i32_w]
                            rfl
                          refine pure_ (i := 18) (N := some 77) (v := ?_) (a' := ?_) #[true, true, true, true, true, true, true, true, true, true, true, true, true, true, false, true, false, false, true, false, false, false, false, false, false] rfl rfl (any_of HT_.out (by kernel_rfl)) (fun _ _ _ h => h) (Or.inl ⟨by rfl, ?_⟩) ?_ ?_
                          rotate_left
                          · intro w'
                            go_simp
                            with_reducible rfl
                          rotate_left
                          · simp only [Act.put, List.setIfInBounds_toArray, List.set_cons_zero, List.set_cons_succ, i64_w, i32_w]
                            rfl
                          refine pure_ (i := 19) (N := some 78) (v := ?_) (a' := ?_) #[true, true, true, true, true, true, true, true, true, true, true, true, true, true, false, true, false, false, true, true, false, false, false, false, false] rfl rfl (any_of HT_.out (by kernel_rfl)) (fun _ _ _ h => h) (Or.inl ⟨by rfl, ?_⟩) ?_ ?_
                          rotate_left
                          · intro w'
                            go_simp
                            with_reducible rfl
                          rotate_left
                          · simp only [Act.put, List.setIfInBounds_toArray, List.set_cons_zero, List.set_cons_succ, i64_w, i32_w]
                            rfl
                          refine pure_ (i := 20) (N := some 79) (v := ?_) (a' := ?_) #[true, true, true, true, true, true, true, true, true, true, true, true, true, true, false, true, false, false, true, true, true, false, false, false, false] rfl rfl (any_of HT_.out (by kernel_rfl)) (fun _ _ _ h => h) (Or.inl ⟨by rfl, ?_⟩) ?_ ?_
                          rotate_left
                          · intro w'
                            go_simp
                            with_reducible rfl
                          rotate_left
                          · simp only [Act.put, List.setIfInBounds_toArray, List.set_cons_zero, List.set_cons_succ, i64_w, i32_w]
                            rfl
                          refine take_ (i := 14) (N := some 73) (v := ?_) (a' := ?_) #[true, true, true, true, true, true, true, true, true, true, true, true, true, true, true, true, false, false, true, true, true, false, false, false, false] rfl rfl (take_ofW HT_.out HW_.out (by kernel_rfl)) (fun _ _ _ h => h) (Or.inl ⟨by rfl, ?_⟩) hHeld ?_ ?_
                          rotate_left
                          · rintro w' ⟨s0, s1, s2, s3⟩
                            go_simp
                            with_reducible rfl
                          rotate_left
                          · simp only [Act.put, List.setIfInBounds_toArray, List.set_cons_zero, List.set_cons_succ, i64_w, i32_w]
                            rfl
                          refine pure_ (i := 16) (N := some 75) (v := ?_) (a' := ?_) #[true, true, true, true, true, true, true, true, true, true, true, true, true, true, true, true, true, false, true, true, true, false, false, false, false] rfl rfl (any_of HT_.out (by kernel_rfl)) (fun _ _ _ h => h) (Or.inl ⟨by rfl, ?_⟩) ?_ ?_
                          rotate_left
                          · intro w'
                            go_simp
                            with_reducible rfl
                          rotate_left
                          · simp only [Act.put, List.setIfInBounds_toArray, List.set_cons_zero, List.set_cons_succ, i64_w, i32_w]
                            rfl
                          refine take_ (i := 17) (N := some 76) (v := ?_) (a' := ?_) #[true, true, true, true, true, true, true, true, true, true, true, true, true, true, true, true, true, true, true, true, true, false, false, false, false] rfl rfl (take_ofW HT_.out HW_.out (by kernel_rfl)) (fun _ _ _ h => h) (Or.inl ⟨by rfl, ?_⟩) hHeld ?_ ?_
                          rotate_left
                          · rintro w' ⟨s0, s1, s2, s3⟩
                            go_simp
                            with_reducible rfl
                          rotate_left
                          · simp only [Act.put, List.setIfInBounds_toArray, List.set_cons_zero, List.set_cons_succ, i64_w, i32_w]
                            rfl
                          refine take_ (i := 21) (N := some 80) (v := ?_) (a' := ?_) #[true, true, true, true, true, true, true, true, true, true, true, true, true, true, true, true, true, true, true, true, true, true, false, false, false] rfl rfl (take_ofW HT_.out HW_.out (by kernel_rfl)) (fun _ _ _ h => h) (Or.inl ⟨by rfl, ?_⟩) hHeld ?_ ?_
                          rotate_left
                          · rintro w' ⟨s0, s1, s2, s3⟩
                            go_simp
                            with_reducible rfl
                          rotate_left
                          · simp only [Act.put, List.setIfInBounds_toArray, List.set_cons_zero, List.set_cons_succ, i64_w, i32_w]
                            rfl
                          refine pure_ (i := 22) (N := some 81) (v := ?_) (a' := ?_) #[true, true, true, true, true, true, true, true, true, true, true, true, true, true, true, true, true, true, true, true, true, true, true, false, false] rfl rfl (any_of HT_.out (by kernel_rfl)) (fun _ _ _ h => h) (Or.inl ⟨by rfl, ?_⟩) ?_ ?_
                          rotate_left
                          · intro w'
                            go_simp
                            with_reducible rfl
                          rotate_left
                          · simp only [Act.put, List.setIfInBounds_toArray, List.set_cons_zero, List.set_cons_succ, i64_w, i32_w]
                            rfl
                          refine pure_ (i := 23) (N := some 82) (v := ?_) (a' := ?_) #[true, true, true, true, true, true, true, true, true, true, true, true, true, true, true, true, true, true, true, true, true, true, true, true, false] rfl rfl (any_of HT_.out (by kernel_rfl)) (fun _ _ _ h => h) (Or.inl ⟨by rfl, ?_⟩) ?_ ?_
                          rotate_left
                          · intro w'
                            go_simp
                            with_reducible rfl
                          rotate_left
                          · simp only [Act.put, List.setIfInBounds_toArray, List.set_cons_zero, List.set_cons_succ, i64_w, i32_w]
                            rfl
                          refine pure_ (i := 24) (N := some 83) (v := ?_) (a' := ?_) #[true, true, true, true, true, true, true, true, true, true, true, true, true, true, true, true, true, true, true, true, true, true, true, true, true] rfl rfl (any_of HT_.out (by kernel_rfl)) (fun _ _ _ h => h) (Or.inl ⟨by rfl, ?_⟩) ?_ ?_
                          rotate_left
                          · intro w'
                            go_simp
                            with_reducible rfl
                          rotate_left
                          · simp only [Act.put, List.setIfInBounds_toArray, List.set_cons_zero, List.set_cons_succ, i64_w, i32_w]
                            rfl
                          refine done_ (done_of HT_.out (by kernel_rfl)) ?_
                          try go_wp2
                          go_roundg kj30
                          case measure => have := HK1.out; have := HJ30.out; omega
                          case rel => exact ⟨(wrap64 (x8_1 + 1)), (by first | rfl | (simp; done) | (simp [*]; done)), H', ⟨by have := HK1.out; have := HJ30.out; omega⟩, ⟨by (with_reducible repeat (first | apply Kd.Q_alloc | apply Kd.Q_drewN | apply Kd.Q_drew)); exact HO_5.out⟩, ⟨by (with_reducible repeat (first | apply Kd.R_alloc | apply Kd.R_drewN | apply Kd.R_drew)); exact HO_276001.out⟩, ⟨by (with_reducible repeat (first | refine blk_drewN ?_ _ | refine blk_drew ?_ | refine blk_alloc ?_ _)); exact BK263.out⟩, ⟨by (with_reducible repeat (first | refine blk_drewN ?_ _ | refine blk_drew ?_ | refine blk_alloc ?_ _)); exact BK264.out⟩, ⟨by (with_reducible repeat (first | refine blk_drewN ?_ _ | refine blk_drew ?_ | refine blk_alloc ?_ _)); exact BK270.out⟩, ⟨by (with_reducible repeat (first | refine blk_drewN ?_ _ | refine blk_drew ?_ | refine blk_alloc ?_ _)); exact BK275.out⟩, ⟨by repeat (first | (with_reducible first | exact HB.out | apply below_alloc | apply pw_below_drewN | apply below_drew1 | refine below_set ?_ GE263.out | refine below_set ?_ GE264.out | refine below_set ?_ GE270.out | refine below_set ?_ GE275.out) | exact HB.out)⟩⟩
                        · rw [if_neg c93] at H
                          have c93b0 : ((rd t272 x8_1) == (rd t265 x8_1)) = false := beq_eq_false_iff_ne.mpr c93
                          have c93b1 : ((rd t272 x8_1) != (rd t265 x8_1)) = true := bne_iff_ne.mpr c93
                          exact absurd H (by simp)
                      · rw [if_neg c92] at H
                        exact absurd H (by simp)
                    · rw [if_neg c91] at H
                      exact absurd H (by simp)
                  · rw [if_neg c90] at H
                    exact absurd H (by simp)
              · replace c41 := Bool.eq_false_iff.mpr c41
                subst c41
                have H1 : ((spec_RegionFault.f t259 t260).bind fun t287 => (if t287 = 0 then ((spec_RegionFault.f t261 t262).bind fun t288 => (laws_FnRegions.j2 kj30 (t288 != 0) t259 t260 t261 t262)) else (laws_FnRegions.j2 kj30 true t259 t260 t261 t262))) = some true := by rw [if_neg (show ¬ (false = true) by decide)] at H; exact H
                clear H
                have H := H1
                clear H1
                have HC104 := Aside0.mk H
                clear H
                go_upto_region 14 with (fail)
                go_cut [91] (fun v91 wc => ∃ (kq : Nat) (x91_103 : Bool), v91 = .bool x91_103 ∧ Aside0 (laws_FnRegions.j2 kq x91_103 t259 t260 t261 t262 = some true) ∧ Aside0 (kq ≤ kj30) ∧ Aside0 (Kd.R (Kd.int .i64) 2 wc w.heap.size (fun _ => True) (.slice Ao27 t272.length co27) t272) ∧ Aside0 (wc.heap[gb263]? = some (.cells #[.int .i64 t259, .int .i64 t260] 47 (0, 0))) ∧ Aside0 (wc.heap[gb264]? = some (.cells #[.int .i64 t261, .int .i64 t262] 47 (0, 0))) ∧ Aside0 (wc.heap[gb270]? = some (.cells #[.int .i64 t268, .int .i64 t269] 47 (0, 0))) ∧ Aside0 (wc.heap[gb275]? = some (.cells #[.int .i64 t271, (.slice Ao27 t272.length co27)] 31 (0, 0))) ∧ Aside0 (Below w.heap.size w wc))
                case first =>
                  have H := HC104.out
                  clear HC104
                  replace H := Option.bind_eq_some_iff.mp H
                  obtain ⟨t287, A1050, H⟩ := H
                  replace H : (if t287 = 0 then ((spec_RegionFault.f t261 t262).bind fun t288 => (laws_FnRegions.j2 kj30 (t288 != 0) t259 t260 t261 t262)) else (laws_FnRegions.j2 kj30 true t259 t260 t261 t262)) = some true := H
                  have A105 := Aside0.mk A1050
                  clear A1050
                  by_cases c106 : t287 = 0
                  · rw [if_pos c106] at H
                    have c106b0 : (t287 == 0) = true := beq_iff_eq.mpr c106
                    have c106b1 : (t287 != 0) = false := bne_eq_false_iff_eq.mpr c106
                    clear c106
                    (first | rw [c106b0] | (simp only [i64_w, i32_w]; rw [c106b0]) | skip)
                    replace H := Option.bind_eq_some_iff.mp H
                    obtain ⟨t288, A1070, H⟩ := H
                    replace H : (laws_FnRegions.j2 kj30 (t288 != 0) t259 t260 t261 t262) = some true := H
                    have A107 := Aside0.mk A1070
                    clear A1070
                    have H' := Aside0.mk H
                    clear H
                    have hnb108 := NB263_264.out
                    have hnc108 := NB264_263.out
                    have hnb109 := NB263_270.out
                    have hnc109 := NB270_263.out
                    have hnb110 := NB263_275.out
                    have hnc110 := NB275_263.out
                    have hcz111_0 : wc.cell? ⟨gb263, 0, none⟩ = some (.int .i64 t259) := (blk_cell BK263.out 0).trans rfl
                    have hcz111_1 : wc.cell? ⟨gb263, 1, none⟩ = some (.int .i64 t260) := (blk_cell BK263.out 1).trans rfl
                    have hfz111_0 := blk_frozen BK263.out 0
                    have hfz111_1 := blk_frozen BK263.out 1
                    go_wp2_with (first | ((with_reducible refine gate_callee (f := 32) rfl ?_); refine goesL_ (some 85) rfl rfl Try.func32 (by kernel_rfl) rfl #[.agg #[.int .i64 t259, .int .i64 t260]] rfl (by (try simp only [List.map_toArray, List.map_cons, List.map_nil]); first | done | rfl | (simp only [List.length_drop, List.length_take]; rfl)) ?_; (with_reducible refine (spec_RegionFault.calls t259 t260 t287 _ A105.out).mono ?_); rintro e w112 ⟨rfl, hb⟩; refine ⟨_, rfl, ?_⟩; have n0_ := Aside0.mk (Kd.Q_below (by (with_reducible repeat (first | apply Kd.Q_alloc | apply Kd.Q_drewN | apply Kd.Q_drew)); exact HO_5.out) hb); have n1_ := Aside0.mk (Kd.R_below (by (with_reducible repeat (first | apply Kd.R_alloc | apply Kd.R_drewN | apply Kd.R_drew)); exact HO_276001.out) hb); have n2_ := Aside0.mk (blk_below (g := gb263) (o := .cells #[.int .i64 t259, .int .i64 t260] 47 (0, 0)) (by (with_reducible repeat (first | refine blk_drewN ?_ _ | refine blk_drew ?_ | refine blk_alloc ?_ _)); exact BK263.out) hb); have n3_ := Aside0.mk (blk_below (g := gb264) (o := .cells #[.int .i64 t261, .int .i64 t262] 47 (0, 0)) (by (with_reducible repeat (first | refine blk_drewN ?_ _ | refine blk_drew ?_ | refine blk_alloc ?_ _)); exact BK264.out) hb); have n4_ := Aside0.mk (blk_below (g := gb270) (o := .cells #[.int .i64 t268, .int .i64 t269] 47 (0, 0)) (by (with_reducible repeat (first | refine blk_drewN ?_ _ | refine blk_drew ?_ | refine blk_alloc ?_ _)); exact BK270.out) hb); have n5_ := Aside0.mk (blk_below (g := gb275) (o := .cells #[.int .i64 t271, .slice Ao27 t272.length co27] 31 (0, 0)) (by (with_reducible repeat (first | refine blk_drewN ?_ _ | refine blk_drew ?_ | refine blk_alloc ?_ _)); exact BK275.out) hb); have n6_ := Aside0.mk (below_step (by repeat (first | (with_reducible first | exact HB.out | apply below_alloc | apply pw_below_drewN | apply below_drew1 | refine below_set ?_ GE263.out | refine below_set ?_ GE264.out | refine below_set ?_ GE270.out | refine below_set ?_ GE275.out) | exact HB.out)) hb); clear HO_5; clear HO_276001; clear BK263; clear BK264; clear BK270; clear BK275; clear HB; have HO_5 := n0_; have HO_276001 := n1_; have BK263 := n2_; have BK264 := n3_; have BK270 := n4_; have BK275 := n5_; have HB := n6_; clear n0_ n1_ n2_ n3_ n4_ n5_ n6_; (try clear hb); (try clear hb2); (try clear hk); (try clear hi); have hnb113 := NB264_270.out; have hnc113 := NB270_264.out; have hnb114 := NB264_275.out; have hnc114 := NB275_264.out; have hcz115_0 : w112.cell? ⟨gb264, 0, none⟩ = some (.int .i64 t261) := (blk_cell BK264.out 0).trans rfl; have hcz115_1 : w112.cell? ⟨gb264, 1, none⟩ = some (.int .i64 t262) := (blk_cell BK264.out 1).trans rfl; have hfz115_0 := blk_frozen BK264.out 0; have hfz115_1 := blk_frozen BK264.out 1) | (go_at_call 32; (with_reducible refine (spec_RegionFault.calls t261 t262 t288 _ A107.out).mono ?_); rintro e w116 ⟨rfl, hb⟩; have n0_ := Aside0.mk (Kd.Q_below (by (with_reducible repeat (first | apply Kd.Q_alloc | apply Kd.Q_drewN | apply Kd.Q_drew)); exact HO_5.out) hb); have n1_ := Aside0.mk (Kd.R_below (by (with_reducible repeat (first | apply Kd.R_alloc | apply Kd.R_drewN | apply Kd.R_drew)); exact HO_276001.out) hb); have n2_ := Aside0.mk (blk_below (g := gb263) (o := .cells #[.int .i64 t259, .int .i64 t260] 47 (0, 0)) (by (with_reducible repeat (first | refine blk_drewN ?_ _ | refine blk_drew ?_ | refine blk_alloc ?_ _)); exact BK263.out) hb); have n3_ := Aside0.mk (blk_below (g := gb264) (o := .cells #[.int .i64 t261, .int .i64 t262] 47 (0, 0)) (by (with_reducible repeat (first | refine blk_drewN ?_ _ | refine blk_drew ?_ | refine blk_alloc ?_ _)); exact BK264.out) hb); have n4_ := Aside0.mk (blk_below (g := gb270) (o := .cells #[.int .i64 t268, .int .i64 t269] 47 (0, 0)) (by (with_reducible repeat (first | refine blk_drewN ?_ _ | refine blk_drew ?_ | refine blk_alloc ?_ _)); exact BK270.out) hb); have n5_ := Aside0.mk (blk_below (g := gb275) (o := .cells #[.int .i64 t271, .slice Ao27 t272.length co27] 31 (0, 0)) (by (with_reducible repeat (first | refine blk_drewN ?_ _ | refine blk_drew ?_ | refine blk_alloc ?_ _)); exact BK275.out) hb); have n6_ := Aside0.mk (below_step (by repeat (first | (with_reducible first | exact HB.out | apply below_alloc | apply pw_below_drewN | apply below_drew1 | refine below_set ?_ GE263.out | refine below_set ?_ GE264.out | refine below_set ?_ GE270.out | refine below_set ?_ GE275.out) | exact HB.out)) hb); clear HO_5; clear HO_276001; clear BK263; clear BK264; clear BK270; clear BK275; clear HB; have HO_5 := n0_; have HO_276001 := n1_; have BK263 := n2_; have BK264 := n3_; have BK270 := n4_; have BK275 := n5_; have HB := n6_; clear n0_ n1_ n2_ n3_ n4_ n5_ n6_; (try clear hb); (try clear hb2); (try clear hk); (try clear hi)))
                    go_meet
                    case rel => exact ⟨_, ((t288 != 0)), (by first | rfl | (simp; done) | (simp [*]; done)), H', ⟨by have := HK1.out; have := HJ30.out; first | omega | exact Nat.le_refl _⟩, ⟨by (with_reducible repeat (first | apply Kd.R_alloc | apply Kd.R_drewN | apply Kd.R_drew)); exact Kd.R_mono HO_276001.out (fun _ hk => trivial)⟩, ⟨by (with_reducible repeat (first | refine blk_drewN ?_ _ | refine blk_drew ?_ | refine blk_alloc ?_ _)); exact BK263.out⟩, ⟨by (with_reducible repeat (first | refine blk_drewN ?_ _ | refine blk_drew ?_ | refine blk_alloc ?_ _)); exact BK264.out⟩, ⟨by (with_reducible repeat (first | refine blk_drewN ?_ _ | refine blk_drew ?_ | refine blk_alloc ?_ _)); exact BK270.out⟩, ⟨by (with_reducible repeat (first | refine blk_drewN ?_ _ | refine blk_drew ?_ | refine blk_alloc ?_ _)); exact BK275.out⟩, ⟨by repeat (first | (with_reducible first | exact HB.out | apply below_alloc | apply pw_below_drewN | apply below_drew1 | refine below_set ?_ GE263.out | refine below_set ?_ GE264.out | refine below_set ?_ GE270.out | refine below_set ?_ GE275.out) | exact HB.out)⟩⟩
                  · rw [if_neg c106] at H
                    have c106b0 : (t287 == 0) = false := beq_eq_false_iff_ne.mpr c106
                    have c106b1 : (t287 != 0) = true := bne_iff_ne.mpr c106
                    (first | rw [c106b0] | (simp only [i64_w, i32_w]; rw [c106b0]) | skip)
                    have H' := Aside0.mk H
                    clear H
                    have hnb117 := NB263_264.out
                    have hnc117 := NB264_263.out
                    have hnb118 := NB263_270.out
                    have hnc118 := NB270_263.out
                    have hnb119 := NB263_275.out
                    have hnc119 := NB275_263.out
                    have hcz120_0 : wc.cell? ⟨gb263, 0, none⟩ = some (.int .i64 t259) := (blk_cell BK263.out 0).trans rfl
                    have hcz120_1 : wc.cell? ⟨gb263, 1, none⟩ = some (.int .i64 t260) := (blk_cell BK263.out 1).trans rfl
                    have hfz120_0 := blk_frozen BK263.out 0
                    have hfz120_1 := blk_frozen BK263.out 1
                    go_wp2_with (first | ((with_reducible refine gate_callee (f := 32) rfl ?_); refine goesL_ (some 85) rfl rfl Try.func32 (by kernel_rfl) rfl #[.agg #[.int .i64 t259, .int .i64 t260]] rfl (by (try simp only [List.map_toArray, List.map_cons, List.map_nil]); first | done | rfl | (simp only [List.length_drop, List.length_take]; rfl)) ?_; (with_reducible refine (spec_RegionFault.calls t259 t260 t287 _ A105.out).mono ?_); rintro e w121 ⟨rfl, hb⟩; refine ⟨_, rfl, ?_⟩; have n0_ := Aside0.mk (Kd.Q_below (by (with_reducible repeat (first | apply Kd.Q_alloc | apply Kd.Q_drewN | apply Kd.Q_drew)); exact HO_5.out) hb); have n1_ := Aside0.mk (Kd.R_below (by (with_reducible repeat (first | apply Kd.R_alloc | apply Kd.R_drewN | apply Kd.R_drew)); exact HO_276001.out) hb); have n2_ := Aside0.mk (blk_below (g := gb263) (o := .cells #[.int .i64 t259, .int .i64 t260] 47 (0, 0)) (by (with_reducible repeat (first | refine blk_drewN ?_ _ | refine blk_drew ?_ | refine blk_alloc ?_ _)); exact BK263.out) hb); have n3_ := Aside0.mk (blk_below (g := gb264) (o := .cells #[.int .i64 t261, .int .i64 t262] 47 (0, 0)) (by (with_reducible repeat (first | refine blk_drewN ?_ _ | refine blk_drew ?_ | refine blk_alloc ?_ _)); exact BK264.out) hb); have n4_ := Aside0.mk (blk_below (g := gb270) (o := .cells #[.int .i64 t268, .int .i64 t269] 47 (0, 0)) (by (with_reducible repeat (first | refine blk_drewN ?_ _ | refine blk_drew ?_ | refine blk_alloc ?_ _)); exact BK270.out) hb); have n5_ := Aside0.mk (blk_below (g := gb275) (o := .cells #[.int .i64 t271, .slice Ao27 t272.length co27] 31 (0, 0)) (by (with_reducible repeat (first | refine blk_drewN ?_ _ | refine blk_drew ?_ | refine blk_alloc ?_ _)); exact BK275.out) hb); have n6_ := Aside0.mk (below_step (by repeat (first | (with_reducible first | exact HB.out | apply below_alloc | apply pw_below_drewN | apply below_drew1 | refine below_set ?_ GE263.out | refine below_set ?_ GE264.out | refine below_set ?_ GE270.out | refine below_set ?_ GE275.out) | exact HB.out)) hb); clear HO_5; clear HO_276001; clear BK263; clear BK264; clear BK270; clear BK275; clear HB; have HO_5 := n0_; have HO_276001 := n1_; have BK263 := n2_; have BK264 := n3_; have BK270 := n4_; have BK275 := n5_; have HB := n6_; clear n0_ n1_ n2_ n3_ n4_ n5_ n6_; (try clear hb); (try clear hb2); (try clear hk); (try clear hi)))
                    go_meet
                    case rel => exact ⟨_, (true), (by first | rfl | (simp; done) | (simp [*]; done)), H', ⟨by have := HK1.out; have := HJ30.out; first | omega | exact Nat.le_refl _⟩, ⟨by (with_reducible repeat (first | apply Kd.R_alloc | apply Kd.R_drewN | apply Kd.R_drew)); exact Kd.R_mono HO_276001.out (fun _ hk => trivial)⟩, ⟨by (with_reducible repeat (first | refine blk_drewN ?_ _ | refine blk_drew ?_ | refine blk_alloc ?_ _)); exact BK263.out⟩, ⟨by (with_reducible repeat (first | refine blk_drewN ?_ _ | refine blk_drew ?_ | refine blk_alloc ?_ _)); exact BK264.out⟩, ⟨by (with_reducible repeat (first | refine blk_drewN ?_ _ | refine blk_drew ?_ | refine blk_alloc ?_ _)); exact BK270.out⟩, ⟨by (with_reducible repeat (first | refine blk_drewN ?_ _ | refine blk_drew ?_ | refine blk_alloc ?_ _)); exact BK275.out⟩, ⟨by repeat (first | (with_reducible first | exact HB.out | apply below_alloc | apply pw_below_drewN | apply below_drew1 | refine below_set ?_ GE263.out | refine below_set ?_ GE264.out | refine below_set ?_ GE270.out | refine below_set ?_ GE275.out) | exact HB.out)⟩⟩
                case rest =>
                  clear HC104
                  try clear c1
                  try clear p2
                  try clear q2
                  try clear hx2
                  try clear c3
                  try clear c4
                  try clear p6
                  try clear c7
                  try clear c9
                  try clear c10
                  try clear c11
                  try clear p28
                  try clear q28
                  try clear hx28
                  try clear c32
                  try clear c41
                  try clear c42
                  try clear c42b0
                  try clear p64
                  try clear c76
                  try clear c77
                  try clear c78
                  try clear c90
                  try clear c90b0
                  try clear c91
                  try clear c91b0
                  try clear c92
                  try clear c92b0
                  try clear c93
                  try clear c93b0
                  try clear c93b1
                  try clear c94
                  try clear c95
                  try clear c96
                  try clear c99
                  try clear c100
                  try clear c101
                  try clear c106
                  try clear c106b0
                  try clear c106b1
                  try clear c108
                  try clear c109
                  try clear c110
                  try clear c113
                  try clear c114
                  try clear c117
                  try clear c118
                  try clear c119
                  try clear hcz102_0
                  try clear hcz102_1
                  try clear hcz111_0
                  try clear hcz111_1
                  try clear hcz115_0
                  try clear hcz115_1
                  try clear hcz120_0
                  try clear hcz120_1
                  try clear hcz97_0
                  try clear hcz97_1
                  try clear hfz102_0
                  try clear hfz102_1
                  try clear hfz111_0
                  try clear hfz111_1
                  try clear hfz115_0
                  try clear hfz115_1
                  try clear hfz120_0
                  try clear hfz120_1
                  try clear hfz97_0
                  try clear hfz97_1
                  try clear hx285_0
                  try clear hx286_0
                  try clear p285
                  try clear p286
                  try clear q285
                  try clear q286
                  obtain ⟨kq, x91_103, rfl, HA, HJ103, HO_276001, BK263, BK264, BK270, BK275, HB⟩ := hcut
                  cases kq with
                  | zero => exact absurd HA.out (by simp [laws_FnRegions.j2])
                  | succ kj103 =>
                    have H := HA.out
                    clear HA
                    simp only [laws_FnRegions.j2] at H
                    by_cases c122 : x91_103 = true
                    · subst c122
                      have H1 : ((impl_RegionsMeet.f t259 t260 t261 t262).bind fun t289 => (some (!t289))) = some true := by rw [if_pos rfl] at H; exact H
                      clear H
                      have H := H1
                      clear H1
                      replace H := Option.bind_eq_some_iff.mp H
                      obtain ⟨t289, A1230, H⟩ := H
                      replace H : (some (!t289)) = some true := H
                      have A123 := Aside0.mk A1230
                      clear A1230
                      replace H := Option.some.inj H
                      have hnb124 := NB263_264.out
                      have hnc124 := NB264_263.out
                      have hnb125 := NB263_270.out
                      have hnc125 := NB270_263.out
                      have hnb126 := NB263_275.out
                      have hnc126 := NB275_263.out
                      have hcz127_0 : wc.cell? ⟨gb263, 0, none⟩ = some (.int .i64 t259) := (blk_cell BK263.out 0).trans rfl
                      have hcz127_1 : wc.cell? ⟨gb263, 1, none⟩ = some (.int .i64 t260) := (blk_cell BK263.out 1).trans rfl
                      have hfz127_0 := blk_frozen BK263.out 0
                      have hfz127_1 := blk_frozen BK263.out 1
                      have hnb128 := NB264_270.out
                      have hnc128 := NB270_264.out
                      have hnb129 := NB264_275.out
                      have hnc129 := NB275_264.out
                      have hcz130_0 : wc.cell? ⟨gb264, 0, none⟩ = some (.int .i64 t261) := (blk_cell BK264.out 0).trans rfl
                      have hcz130_1 : wc.cell? ⟨gb264, 1, none⟩ = some (.int .i64 t262) := (blk_cell BK264.out 1).trans rfl
                      have hfz130_0 := blk_frozen BK264.out 0
                      have hfz130_1 := blk_frozen BK264.out 1
                      go_wp2_with (first | ((with_reducible refine gate_callee (f := 33) rfl ?_); refine goesL_ (some 94) rfl rfl Try.func33 (by kernel_rfl) rfl #[.agg #[.int .i64 t259, .int .i64 t260], .agg #[.int .i64 t261, .int .i64 t262]] rfl (by (try simp only [List.map_toArray, List.map_cons, List.map_nil]); first | done | rfl | (simp only [List.length_drop, List.length_take]; rfl)) ?_; (with_reducible refine (impl_RegionsMeet.calls t259 t260 t261 t262 t289 _ A123.out).mono ?_); rintro e w131 ⟨rfl, hb⟩; refine ⟨_, rfl, ?_⟩; have n0_ := Aside0.mk (Kd.R_below (by (with_reducible repeat (first | apply Kd.R_alloc | apply Kd.R_drewN | apply Kd.R_drew)); exact HO_276001.out) hb); have n1_ := Aside0.mk (blk_below (g := gb263) (o := .cells #[.int .i64 t259, .int .i64 t260] 47 (0, 0)) (by (with_reducible repeat (first | refine blk_drewN ?_ _ | refine blk_drew ?_ | refine blk_alloc ?_ _)); exact BK263.out) hb); have n2_ := Aside0.mk (blk_below (g := gb264) (o := .cells #[.int .i64 t261, .int .i64 t262] 47 (0, 0)) (by (with_reducible repeat (first | refine blk_drewN ?_ _ | refine blk_drew ?_ | refine blk_alloc ?_ _)); exact BK264.out) hb); have n3_ := Aside0.mk (blk_below (g := gb270) (o := .cells #[.int .i64 t268, .int .i64 t269] 47 (0, 0)) (by (with_reducible repeat (first | refine blk_drewN ?_ _ | refine blk_drew ?_ | refine blk_alloc ?_ _)); exact BK270.out) hb); have n4_ := Aside0.mk (blk_below (g := gb275) (o := .cells #[.int .i64 t271, .slice Ao27 t272.length co27] 31 (0, 0)) (by (with_reducible repeat (first | refine blk_drewN ?_ _ | refine blk_drew ?_ | refine blk_alloc ?_ _)); exact BK275.out) hb); have n5_ := Aside0.mk (below_step (by repeat (first | (with_reducible first | exact HB.out | apply below_alloc | apply pw_below_drewN | apply below_drew1 | refine below_set ?_ GE263.out | refine below_set ?_ GE264.out | refine below_set ?_ GE270.out | refine below_set ?_ GE275.out) | exact HB.out)) hb); clear HO_276001; clear BK263; clear BK264; clear BK270; clear BK275; clear HB; have HO_276001 := n0_; have BK263 := n1_; have BK264 := n2_; have BK270 := n3_; have BK275 := n4_; have HB := n5_; clear n0_ n1_ n2_ n3_ n4_ n5_; (try clear hb); (try clear hb2); (try clear hk); (try clear hi)))
                      go_ret
                      exact ⟨by first | rfl | (simp [errW_none, errW_some] <;> rfl) | (simp [*, errW_none, errW_some] <;> rfl), by repeat (first | (with_reducible first | exact HB.out | apply below_alloc | apply pw_below_drewN | apply below_drew1 | refine below_set ?_ GE263.out | refine below_set ?_ GE264.out | refine below_set ?_ GE270.out | refine below_set ?_ GE275.out) | exact HB.out)⟩
                    · replace c122 := Bool.eq_false_iff.mpr c122
                      subst c122
                      have H1 : (laws_FnRegions.l1 kj103 false t259 t259 t260 t261 t262) = some true := by rw [if_neg (show ¬ (false = true) by decide)] at H; exact H
                      clear H
                      have H := H1
                      clear H1
                      have H' := Aside0.mk H
                      clear H
                      have hnb132 := NB263_264.out
                      have hnc132 := NB264_263.out
                      have hnb133 := NB263_270.out
                      have hnc133 := NB270_263.out
                      have hnb134 := NB263_275.out
                      have hnc134 := NB275_263.out
                      have hcz135_0 : wc.cell? ⟨gb263, 0, none⟩ = some (.int .i64 t259) := (blk_cell BK263.out 0).trans rfl
                      have hcz135_1 : wc.cell? ⟨gb263, 1, none⟩ = some (.int .i64 t260) := (blk_cell BK263.out 1).trans rfl
                      have hfz135_0 := blk_frozen BK263.out 0
                      have hfz135_1 := blk_frozen BK263.out 1
                      go_wp2
                      go_loopg [10, 11] kj103 (fun kq v10 v11 w' => ∃ (x10_4 : Bool) (x11_4 : Int), v10 = .bool x10_4 ∧ v11 = .int .i64 x11_4 ∧ Aside0 (laws_FnRegions.l1 kq x10_4 x11_4 t259 t260 t261 t262 = some true) ∧ Aside0 (kq ≤ kj103) ∧ Aside0 (Kd.R (Kd.int .i64) 2 w' w.heap.size (fun _ => True) (.slice Ao27 t272.length co27) t272) ∧ Aside0 (w'.heap[gb263]? = some (.cells #[.int .i64 t259, .int .i64 t260] 47 (0, 0))) ∧ Aside0 (w'.heap[gb264]? = some (.cells #[.int .i64 t261, .int .i64 t262] 47 (0, 0))) ∧ Aside0 (w'.heap[gb270]? = some (.cells #[.int .i64 t268, .int .i64 t269] 47 (0, 0))) ∧ Aside0 (w'.heap[gb275]? = some (.cells #[.int .i64 t271, (.slice Ao27 t272.length co27)] 31 (0, 0))) ∧ Aside0 (Below w.heap.size w w'))
                      case atStart => exact ⟨(false), (t259), (by first | rfl | (simp; done) | (simp [*]; done)), (by first | rfl | (simp; done) | (simp [*]; done)), H', ⟨Nat.le_refl _⟩, ⟨by (with_reducible repeat (first | apply Kd.R_alloc | apply Kd.R_drewN | apply Kd.R_drew)); exact HO_276001.out⟩, ⟨by (with_reducible repeat (first | refine blk_drewN ?_ _ | refine blk_drew ?_ | refine blk_alloc ?_ _)); exact BK263.out⟩, ⟨by (with_reducible repeat (first | refine blk_drewN ?_ _ | refine blk_drew ?_ | refine blk_alloc ?_ _)); exact BK264.out⟩, ⟨by (with_reducible repeat (first | refine blk_drewN ?_ _ | refine blk_drew ?_ | refine blk_alloc ?_ _)); exact BK270.out⟩, ⟨by (with_reducible repeat (first | refine blk_drewN ?_ _ | refine blk_drew ?_ | refine blk_alloc ?_ _)); exact BK275.out⟩, ⟨by repeat (first | (with_reducible first | exact HB.out | apply below_alloc | apply pw_below_drewN | apply below_drew1 | refine below_set ?_ GE263.out | refine below_set ?_ GE264.out | refine below_set ?_ GE270.out | refine below_set ?_ GE275.out) | exact HB.out)⟩⟩
                      case round =>
                        clear H'
                        try clear c1
                        try clear p2
                        try clear q2
                        try clear hx2
                        try clear c3
                        try clear c4
                        try clear p6
                        try clear c7
                        try clear c9
                        try clear c10
                        try clear c11
                        try clear c12
                        try clear c13
                        try clear p28
                        try clear q28
                        try clear hx28
                        try clear c32
                        try clear c33
                        try clear c41
                        try clear c42
                        try clear c42b0
                        try clear p64
                        try clear c76
                        try clear c77
                        try clear c78
                        try clear c90
                        try clear c90b0
                        try clear c91
                        try clear c91b0
                        try clear c92
                        try clear c92b0
                        try clear c93
                        try clear c93b0
                        try clear c93b1
                        try clear c94
                        try clear c95
                        try clear c96
                        try clear c99
                        try clear c100
                        try clear c101
                        try clear c106
                        try clear c106b0
                        try clear c106b1
                        try clear c108
                        try clear c109
                        try clear c110
                        try clear c113
                        try clear c114
                        try clear c117
                        try clear c118
                        try clear c119
                        try clear c122
                        try clear c124
                        try clear c125
                        try clear c126
                        try clear c128
                        try clear c129
                        try clear c132
                        try clear c133
                        try clear c134
                        try clear hcz102_0
                        try clear hcz102_1
                        try clear hcz111_0
                        try clear hcz111_1
                        try clear hcz115_0
                        try clear hcz115_1
                        try clear hcz120_0
                        try clear hcz120_1
                        try clear hcz127_0
                        try clear hcz127_1
                        try clear hcz130_0
                        try clear hcz130_1
                        try clear hcz135_0
                        try clear hcz135_1
                        try clear hcz97_0
                        try clear hcz97_1
                        try clear hfz102_0
                        try clear hfz102_1
                        try clear hfz111_0
                        try clear hfz111_1
                        try clear hfz115_0
                        try clear hfz115_1
                        try clear hfz120_0
                        try clear hfz120_1
                        try clear hfz127_0
                        try clear hfz127_1
                        try clear hfz130_0
                        try clear hfz130_1
                        try clear hfz135_0
                        try clear hfz135_1
                        try clear hfz97_0
                        try clear hfz97_1
                        try clear hx285_0
                        try clear hx286_0
                        try clear p2
                        try clear p28
                        try clear p285
                        try clear p286
                        try clear p6
                        try clear p64
                        try clear q2
                        try clear q28
                        try clear q285
                        try clear q286
                        obtain ⟨x10_4, x11_4, rfl, rfl, HA, HK4, HO_276001, BK263, BK264, BK270, BK275, HB⟩ := hrel
                        cases gk with
                        | zero => exact absurd HA.out (by simp [laws_FnRegions.l1])
                        | succ k4 =>
                          have H := HA.out
                          clear HA
                          simp only [laws_FnRegions.l1] at H
                          by_cases c136 : x11_4 < (wrap64 (t259 + t260))
                          · rw [if_pos c136] at H
                            have c136b0 : decide (x11_4 < (wrap64 (t259 + t260))) = true := decide_eq_true c136
                            clear c136
                            by_cases c137 : x10_4 = true
                            · subst c137
                              have H1 : (laws_FnRegions.l1 k4 true (wrap64 (x11_4 + 1)) t259 t260 t261 t262) = some true := by rw [if_pos rfl] at H; exact H
                              clear H
                              have H := H1
                              clear H1
                              have H' := Aside0.mk H
                              clear H
                              have hnb138 := NB263_264.out
                              have hnc138 := NB264_263.out
                              have hnb139 := NB263_270.out
                              have hnc139 := NB270_263.out
                              have hnb140 := NB263_275.out
                              have hnc140 := NB275_263.out
                              have hcz141_0 : wr.cell? ⟨gb263, 0, none⟩ = some (.int .i64 t259) := (blk_cell BK263.out 0).trans rfl
                              have hcz141_1 : wr.cell? ⟨gb263, 1, none⟩ = some (.int .i64 t260) := (blk_cell BK263.out 1).trans rfl
                              have hfz141_0 := blk_frozen BK263.out 0
                              have hfz141_1 := blk_frozen BK263.out 1
                              go_wp2
                              go_roundg k4
                              case measure => have := HK1.out; have := HJ30.out; have := HJ103.out; have := HK4.out; omega
                              case rel => exact ⟨(true), (wrap64 (x11_4 + 1)), (by first | rfl | (simp; done) | (simp [*]; done)), (by first | rfl | (simp; done) | (simp [*]; done)), H', ⟨by have := HK1.out; have := HJ30.out; have := HJ103.out; have := HK4.out; omega⟩, ⟨by (with_reducible repeat (first | apply Kd.R_alloc | apply Kd.R_drewN | apply Kd.R_drew)); exact HO_276001.out⟩, ⟨by (with_reducible repeat (first | refine blk_drewN ?_ _ | refine blk_drew ?_ | refine blk_alloc ?_ _)); exact BK263.out⟩, ⟨by (with_reducible repeat (first | refine blk_drewN ?_ _ | refine blk_drew ?_ | refine blk_alloc ?_ _)); exact BK264.out⟩, ⟨by (with_reducible repeat (first | refine blk_drewN ?_ _ | refine blk_drew ?_ | refine blk_alloc ?_ _)); exact BK270.out⟩, ⟨by (with_reducible repeat (first | refine blk_drewN ?_ _ | refine blk_drew ?_ | refine blk_alloc ?_ _)); exact BK275.out⟩, ⟨by repeat (first | (with_reducible first | exact HB.out | apply below_alloc | apply pw_below_drewN | apply below_drew1 | refine below_set ?_ GE263.out | refine below_set ?_ GE264.out | refine below_set ?_ GE270.out | refine below_set ?_ GE275.out) | exact HB.out)⟩⟩
                            · replace c137 := Bool.eq_false_iff.mpr c137
                              subst c137
                              have H1 : (if x11_4 ≥ t261 then (laws_FnRegions.l1 k4 (decide (x11_4 < (wrap64 (t261 + t262)))) (wrap64 (x11_4 + 1)) t259 t260 t261 t262) else (laws_FnRegions.l1 k4 false (wrap64 (x11_4 + 1)) t259 t260 t261 t262)) = some true := by rw [if_neg (show ¬ (false = true) by decide)] at H; exact H
                              clear H
                              have H := H1
                              clear H1
                              by_cases c142 : x11_4 ≥ t261
                              · rw [if_pos c142] at H
                                have c142b0 : decide (t261 ≤ x11_4) = true := decide_eq_true c142
                                clear c142
                                have H' := Aside0.mk H
                                clear H
                                have hnb143 := NB263_264.out
                                have hnc143 := NB264_263.out
                                have hnb144 := NB263_270.out
                                have hnc144 := NB270_263.out
                                have hnb145 := NB263_275.out
                                have hnc145 := NB275_263.out
                                have hcz146_0 : wr.cell? ⟨gb263, 0, none⟩ = some (.int .i64 t259) := (blk_cell BK263.out 0).trans rfl
                                have hcz146_1 : wr.cell? ⟨gb263, 1, none⟩ = some (.int .i64 t260) := (blk_cell BK263.out 1).trans rfl
                                have hfz146_0 := blk_frozen BK263.out 0
                                have hfz146_1 := blk_frozen BK263.out 1
                                have hnb147 := NB264_270.out
                                have hnc147 := NB270_264.out
                                have hnb148 := NB264_275.out
                                have hnc148 := NB275_264.out
                                have hcz149_0 : wr.cell? ⟨gb264, 0, none⟩ = some (.int .i64 t261) := (blk_cell BK264.out 0).trans rfl
                                have hcz149_1 : wr.cell? ⟨gb264, 1, none⟩ = some (.int .i64 t262) := (blk_cell BK264.out 1).trans rfl
                                have hfz149_0 := blk_frozen BK264.out 0
                                have hfz149_1 := blk_frozen BK264.out 1
                                go_wp2
                                go_roundg k4
                                case measure => have := HK1.out; have := HJ30.out; have := HJ103.out; have := HK4.out; omega
                                case rel => exact ⟨(decide (x11_4 < (wrap64 (t261 + t262)))), (wrap64 (x11_4 + 1)), (by first | rfl | (simp; done) | (simp [*]; done)), (by first | rfl | (simp; done) | (simp [*]; done)), H', ⟨by have := HK1.out; have := HJ30.out; have := HJ103.out; have := HK4.out; omega⟩, ⟨by (with_reducible repeat (first | apply Kd.R_alloc | apply Kd.R_drewN | apply Kd.R_drew)); exact HO_276001.out⟩, ⟨by (with_reducible repeat (first | refine blk_drewN ?_ _ | refine blk_drew ?_ | refine blk_alloc ?_ _)); exact BK263.out⟩, ⟨by (with_reducible repeat (first | refine blk_drewN ?_ _ | refine blk_drew ?_ | refine blk_alloc ?_ _)); exact BK264.out⟩, ⟨by (with_reducible repeat (first | refine blk_drewN ?_ _ | refine blk_drew ?_ | refine blk_alloc ?_ _)); exact BK270.out⟩, ⟨by (with_reducible repeat (first | refine blk_drewN ?_ _ | refine blk_drew ?_ | refine blk_alloc ?_ _)); exact BK275.out⟩, ⟨by repeat (first | (with_reducible first | exact HB.out | apply below_alloc | apply pw_below_drewN | apply below_drew1 | refine below_set ?_ GE263.out | refine below_set ?_ GE264.out | refine below_set ?_ GE270.out | refine below_set ?_ GE275.out) | exact HB.out)⟩⟩
                              · rw [if_neg c142] at H
                                have c142b0 : decide (t261 ≤ x11_4) = false := decide_eq_false c142
                                clear c142
                                have H' := Aside0.mk H
                                clear H
                                have hnb150 := NB263_264.out
                                have hnc150 := NB264_263.out
                                have hnb151 := NB263_270.out
                                have hnc151 := NB270_263.out
                                have hnb152 := NB263_275.out
                                have hnc152 := NB275_263.out
                                have hcz153_0 : wr.cell? ⟨gb263, 0, none⟩ = some (.int .i64 t259) := (blk_cell BK263.out 0).trans rfl
                                have hcz153_1 : wr.cell? ⟨gb263, 1, none⟩ = some (.int .i64 t260) := (blk_cell BK263.out 1).trans rfl
                                have hfz153_0 := blk_frozen BK263.out 0
                                have hfz153_1 := blk_frozen BK263.out 1
                                have hnb154 := NB264_270.out
                                have hnc154 := NB270_264.out
                                have hnb155 := NB264_275.out
                                have hnc155 := NB275_264.out
                                have hcz156_0 : wr.cell? ⟨gb264, 0, none⟩ = some (.int .i64 t261) := (blk_cell BK264.out 0).trans rfl
                                have hcz156_1 : wr.cell? ⟨gb264, 1, none⟩ = some (.int .i64 t262) := (blk_cell BK264.out 1).trans rfl
                                have hfz156_0 := blk_frozen BK264.out 0
                                have hfz156_1 := blk_frozen BK264.out 1
                                go_wp2
                                go_roundg k4
                                case measure => have := HK1.out; have := HJ30.out; have := HJ103.out; have := HK4.out; omega
                                case rel => exact ⟨(false), (wrap64 (x11_4 + 1)), (by first | rfl | (simp; done) | (simp [*]; done)), (by first | rfl | (simp; done) | (simp [*]; done)), H', ⟨by have := HK1.out; have := HJ30.out; have := HJ103.out; have := HK4.out; omega⟩, ⟨by (with_reducible repeat (first | apply Kd.R_alloc | apply Kd.R_drewN | apply Kd.R_drew)); exact HO_276001.out⟩, ⟨by (with_reducible repeat (first | refine blk_drewN ?_ _ | refine blk_drew ?_ | refine blk_alloc ?_ _)); exact BK263.out⟩, ⟨by (with_reducible repeat (first | refine blk_drewN ?_ _ | refine blk_drew ?_ | refine blk_alloc ?_ _)); exact BK264.out⟩, ⟨by (with_reducible repeat (first | refine blk_drewN ?_ _ | refine blk_drew ?_ | refine blk_alloc ?_ _)); exact BK270.out⟩, ⟨by (with_reducible repeat (first | refine blk_drewN ?_ _ | refine blk_drew ?_ | refine blk_alloc ?_ _)); exact BK275.out⟩, ⟨by repeat (first | (with_reducible first | exact HB.out | apply below_alloc | apply pw_below_drewN | apply below_drew1 | refine below_set ?_ GE263.out | refine below_set ?_ GE264.out | refine below_set ?_ GE270.out | refine below_set ?_ GE275.out) | exact HB.out)⟩⟩
                          · rw [if_neg c136] at H
                            have c136b0 : decide (x11_4 < (wrap64 (t259 + t260))) = false := decide_eq_false c136
                            clear c136
                            replace H := Option.bind_eq_some_iff.mp H
                            obtain ⟨⟨t290, t291⟩, A1570, H⟩ := H
                            replace H : ((impl_RegionsMeet.f t259 t260 t261 t262).bind fun t295 => (if (t295 == x10_4) = true then ((impl_RegionsMeet.f t261 t262 t259 t260).bind fun t296 => (if (t296 == x10_4) = true then ((impl_RegionsApart.f (([(⟨t259, t260⟩ : S47), (⟨t261, t262⟩ : S47)] : List (S47)))).bind fun t300 => (if (t300 == (!x10_4)) = true then (if t290 = 0 then (some (((t291.length : Int) == 0) == (t260 == 0))) else (some false)) else (some false))) else (some false))) else (some false))) = some true := H
                            have A157 := Aside0.mk A1570
                            clear A1570
                            replace H := Option.bind_eq_some_iff.mp H
                            obtain ⟨t295, A1580, H⟩ := H
                            replace H : (if (t295 == x10_4) = true then ((impl_RegionsMeet.f t261 t262 t259 t260).bind fun t296 => (if (t296 == x10_4) = true then ((impl_RegionsApart.f (([(⟨t259, t260⟩ : S47), (⟨t261, t262⟩ : S47)] : List (S47)))).bind fun t300 => (if (t300 == (!x10_4)) = true then (if t290 = 0 then (some (((t291.length : Int) == 0) == (t260 == 0))) else (some false)) else (some false))) else (some false))) else (some false)) = some true := H
                            have A158 := Aside0.mk A1580
                            clear A1580
                            by_cases c159 : (t295 == x10_4) = true
                            · rw [if_pos c159] at H
                              have c159b0 : (t295 == x10_4) = true := c159
                              (try (have c159b1 : decide (t295 = x10_4) = true := by simpa using c159))
                              (try (have c159b2 : (t295 == x10_4) = true := by simpa using c159))
                              clear c159
                              replace H := Option.bind_eq_some_iff.mp H
                              obtain ⟨t296, A1600, H⟩ := H
                              replace H : (if (t296 == x10_4) = true then ((impl_RegionsApart.f (([(⟨t259, t260⟩ : S47), (⟨t261, t262⟩ : S47)] : List (S47)))).bind fun t300 => (if (t300 == (!x10_4)) = true then (if t290 = 0 then (some (((t291.length : Int) == 0) == (t260 == 0))) else (some false)) else (some false))) else (some false)) = some true := H
                              have A160 := Aside0.mk A1600
                              clear A1600
                              by_cases c161 : (t296 == x10_4) = true
                              · rw [if_pos c161] at H
                                have c161b0 : (t296 == x10_4) = true := c161
                                (try (have c161b1 : decide (t296 = x10_4) = true := by simpa using c161))
                                (try (have c161b2 : (t296 == x10_4) = true := by simpa using c161))
                                clear c161
                                obtain ⟨y297, hy297⟩ : ∃ y_ : List (S47), y_ = (([(⟨t259, t260⟩ : S47), (⟨t261, t262⟩ : S47)] : List (S47))) := ⟨_, rfl⟩
                                replace H : ((impl_RegionsApart.f y297).bind fun t300 => (if (t300 == (!x10_4)) = true then (if t290 = 0 then (some (((t291.length : Int) == 0) == (t260 == 0))) else (some false)) else (some false))) = some true := by first | (rw [hy297]; with_reducible exact H) | (have H2_ := (Option.bind_some _ _).symm.trans H; rw [hy297]; with_reducible exact H2_) | (have H2_ := (Option.bind_some _ _).symm.trans H; with_reducible exact H2_) | with_reducible exact H | (rw [hy297]; exact H) | exact H
                                have Ny297 := Aside0.mk hy297
                                clear hy297
                                replace H := Option.bind_eq_some_iff.mp H
                                obtain ⟨t300, A1620, H⟩ := H
                                replace H : (if (t300 == (!x10_4)) = true then (if t290 = 0 then (some (((t291.length : Int) == 0) == (t260 == 0))) else (some false)) else (some false)) = some true := H
                                have A162 := Aside0.mk A1620
                                clear A1620
                                by_cases c163 : (t300 == (!x10_4)) = true
                                · rw [if_pos c163] at H
                                  have c163b0 : (t300 == (!x10_4)) = true := c163
                                  (try (have c163b1 : decide (t300 = (!x10_4)) = true := by simpa using c163))
                                  (try (have c163b2 : (t300 == (!x10_4)) = true := by simpa using c163))
                                  clear c163
                                  by_cases c164 : t290 = 0
                                  · rw [if_pos c164] at H
                                    have c164b0 : (t290 == 0) = true := beq_iff_eq.mpr c164
                                    have c164b1 : (t290 != 0) = false := bne_eq_false_iff_eq.mpr c164
                                    clear c164
                                    replace H := Option.some.inj H
                                    have hnb165 := NB263_264.out
                                    have hnc165 := NB264_263.out
                                    have hnb166 := NB263_270.out
                                    have hnc166 := NB270_263.out
                                    have hnb167 := NB263_275.out
                                    have hnc167 := NB275_263.out
                                    have hcz168_0 : wr.cell? ⟨gb263, 0, none⟩ = some (.int .i64 t259) := (blk_cell BK263.out 0).trans rfl
                                    have hcz168_1 : wr.cell? ⟨gb263, 1, none⟩ = some (.int .i64 t260) := (blk_cell BK263.out 1).trans rfl
                                    have hfz168_0 := blk_frozen BK263.out 0
                                    have hfz168_1 := blk_frozen BK263.out 1
                                    go_wp2_with (first | ((with_reducible refine gate_callee (f := 34) rfl ?_); refine goesL_ (some 124) rfl rfl Try.func34 (by kernel_rfl) rfl #[.agg #[.int .i64 t259, .int .i64 t260]] rfl (by (try simp only [List.map_toArray, List.map_cons, List.map_nil]); first | done | rfl | (simp only [List.length_drop, List.length_take]; rfl)) ?_; (with_reducible refine (impl_PagesOf.calls k4 t259 t260 t290 t291 _ A157.out).mono ?_); rintro e w169 ⟨v292, rfl, ho0, hb⟩; refine ⟨_, rfl, ?_⟩; have n0_ := Aside0.mk (Kd.R_elder' (by (with_reducible repeat (first | apply Kd.R_alloc | apply Kd.R_drewN | apply Kd.R_drew)); exact HO_276001.out) (Kd.R_base ho0) hb); have n1_ := Aside0.mk (Kd.R_lower (Kd.R_new' ho0 (Kd.R_lt (by (with_reducible repeat (first | apply Kd.R_alloc | apply Kd.R_drewN | apply Kd.R_drew)); exact HO_276001.out))) (below_size (by repeat (first | (with_reducible first | exact HB.out | apply below_alloc | apply pw_below_drewN | apply below_drew1 | refine below_set ?_ GE263.out | refine below_set ?_ GE264.out | refine below_set ?_ GE270.out | refine below_set ?_ GE275.out) | exact HB.out)))); have n2_ := Aside0.mk (blk_below (g := gb263) (o := .cells #[.int .i64 t259, .int .i64 t260] 47 (0, 0)) (by (with_reducible repeat (first | refine blk_drewN ?_ _ | refine blk_drew ?_ | refine blk_alloc ?_ _)); exact BK263.out) hb); have n3_ := Aside0.mk (blk_below (g := gb264) (o := .cells #[.int .i64 t261, .int .i64 t262] 47 (0, 0)) (by (with_reducible repeat (first | refine blk_drewN ?_ _ | refine blk_drew ?_ | refine blk_alloc ?_ _)); exact BK264.out) hb); have n4_ := Aside0.mk (blk_below (g := gb270) (o := .cells #[.int .i64 t268, .int .i64 t269] 47 (0, 0)) (by (with_reducible repeat (first | refine blk_drewN ?_ _ | refine blk_drew ?_ | refine blk_alloc ?_ _)); exact BK270.out) hb); have n5_ := Aside0.mk (blk_below (g := gb275) (o := .cells #[.int .i64 t271, .slice Ao27 t272.length co27] 31 (0, 0)) (by (with_reducible repeat (first | refine blk_drewN ?_ _ | refine blk_drew ?_ | refine blk_alloc ?_ _)); exact BK275.out) hb); have n6_ := Aside0.mk (below_step (by repeat (first | (with_reducible first | exact HB.out | apply below_alloc | apply pw_below_drewN | apply below_drew1 | refine below_set ?_ GE263.out | refine below_set ?_ GE264.out | refine below_set ?_ GE270.out | refine below_set ?_ GE275.out) | exact HB.out)) hb); clear HO_276001; clear BK263; clear BK264; clear BK270; clear BK275; clear HB; have HO_276001 := n0_; have HO293 := n1_; have BK263 := n2_; have BK264 := n3_; have BK270 := n4_; have BK275 := n5_; have HB := n6_; clear n0_ n1_ n2_ n3_ n4_ n5_ n6_; (try clear hb); (try clear hb2); (try clear hk); (try clear hi); (try clear ho0)) | ((with_reducible refine gate_dst (N := 12) rfl ?_); (try (refine gate_guard (by rfl) ?_; dsimp only)); refine box_event ?hg (N := 12) ?hd (cs := #[.int .i64 0, .slice none 0 0]) (t := 57) ?hr ?_; (case hd => rfl); (case hg => rfl); (case hr => first | (go_simp; done) | (go_simp; rfl)); intro gb294 hg w170 hbox hb; have n0_ := Aside0.mk (Kd.R_below (by (with_reducible repeat (first | apply Kd.R_alloc | apply Kd.R_drewN | apply Kd.R_drew)); exact HO_276001.out) hb); have n1_ := Aside0.mk (Kd.R_below (by (with_reducible repeat (first | apply Kd.R_alloc | apply Kd.R_drewN | apply Kd.R_drew)); exact HO293.out) hb); have n2_ := Aside0.mk (blk_below (g := gb263) (o := .cells #[.int .i64 t259, .int .i64 t260] 47 (0, 0)) (by (with_reducible repeat (first | refine blk_drewN ?_ _ | refine blk_drew ?_ | refine blk_alloc ?_ _)); exact BK263.out) hb); have n3_ := Aside0.mk (blk_below (g := gb264) (o := .cells #[.int .i64 t261, .int .i64 t262] 47 (0, 0)) (by (with_reducible repeat (first | refine blk_drewN ?_ _ | refine blk_drew ?_ | refine blk_alloc ?_ _)); exact BK264.out) hb); have n4_ := Aside0.mk (blk_below (g := gb270) (o := .cells #[.int .i64 t268, .int .i64 t269] 47 (0, 0)) (by (with_reducible repeat (first | refine blk_drewN ?_ _ | refine blk_drew ?_ | refine blk_alloc ?_ _)); exact BK270.out) hb); have n5_ := Aside0.mk (blk_below (g := gb275) (o := .cells #[.int .i64 t271, .slice Ao27 t272.length co27] 31 (0, 0)) (by (with_reducible repeat (first | refine blk_drewN ?_ _ | refine blk_drew ?_ | refine blk_alloc ?_ _)); exact BK275.out) hb); have n6_ := Aside0.mk (below_step (by repeat (first | (with_reducible first | exact HB.out | apply below_alloc | apply pw_below_drewN | apply below_drew1 | refine below_set ?_ GE263.out | refine below_set ?_ GE264.out | refine below_set ?_ GE270.out | refine below_set ?_ GE275.out) | exact HB.out)) hb); have n7_ := Aside0.mk (hbox); have n8_ := Aside0.mk ((by rw [hg]; exact (below_size (by repeat (first | (with_reducible first | exact HB.out | apply below_alloc | apply pw_below_drewN | apply below_drew1 | refine below_set ?_ GE263.out | refine below_set ?_ GE264.out | refine below_set ?_ GE270.out | refine below_set ?_ GE275.out) | exact HB.out))) : w.heap.size ≤ gb294)); have n9_ := Aside0.mk ((by rw [hg]; exact (below_size (by repeat (first | (with_reducible first | exact HB.out | apply below_alloc | apply pw_below_drewN | apply below_drew1 | refine below_set ?_ GE263.out | refine below_set ?_ GE264.out | refine below_set ?_ GE270.out | refine below_set ?_ GE275.out) | exact HB.out))) : w.heap.size ≤ gb294)); have n10_ := Aside0.mk ((by rw [hg]; exact Nat.ne_of_lt (blk_lt (g := gb263) (o := .cells #[.int .i64 t259, .int .i64 t260] 47 (0, 0)) (by (with_reducible repeat (first | refine blk_drewN ?_ _ | refine blk_drew ?_ | refine blk_alloc ?_ _)); exact BK263.out)) : gb263 ≠ gb294)); have n11_ := Aside0.mk ((by rw [hg]; exact Nat.ne_of_gt (blk_lt (g := gb263) (o := .cells #[.int .i64 t259, .int .i64 t260] 47 (0, 0)) (by (with_reducible repeat (first | refine blk_drewN ?_ _ | refine blk_drew ?_ | refine blk_alloc ?_ _)); exact BK263.out)) : gb294 ≠ gb263)); have n12_ := Aside0.mk ((by rw [hg]; exact Nat.ne_of_lt (blk_lt (g := gb264) (o := .cells #[.int .i64 t261, .int .i64 t262] 47 (0, 0)) (by (with_reducible repeat (first | refine blk_drewN ?_ _ | refine blk_drew ?_ | refine blk_alloc ?_ _)); exact BK264.out)) : gb264 ≠ gb294)); have n13_ := Aside0.mk ((by rw [hg]; exact Nat.ne_of_gt (blk_lt (g := gb264) (o := .cells #[.int .i64 t261, .int .i64 t262] 47 (0, 0)) (by (with_reducible repeat (first | refine blk_drewN ?_ _ | refine blk_drew ?_ | refine blk_alloc ?_ _)); exact BK264.out)) : gb294 ≠ gb264)); have n14_ := Aside0.mk ((by rw [hg]; exact Nat.ne_of_lt (blk_lt (g := gb270) (o := .cells #[.int .i64 t268, .int .i64 t269] 47 (0, 0)) (by (with_reducible repeat (first | refine blk_drewN ?_ _ | refine blk_drew ?_ | refine blk_alloc ?_ _)); exact BK270.out)) : gb270 ≠ gb294)); have n15_ := Aside0.mk ((by rw [hg]; exact Nat.ne_of_gt (blk_lt (g := gb270) (o := .cells #[.int .i64 t268, .int .i64 t269] 47 (0, 0)) (by (with_reducible repeat (first | refine blk_drewN ?_ _ | refine blk_drew ?_ | refine blk_alloc ?_ _)); exact BK270.out)) : gb294 ≠ gb270)); have n16_ := Aside0.mk ((by rw [hg]; exact Nat.ne_of_lt (blk_lt (g := gb275) (o := .cells #[.int .i64 t271, .slice Ao27 t272.length co27] 31 (0, 0)) (by (with_reducible repeat (first | refine blk_drewN ?_ _ | refine blk_drew ?_ | refine blk_alloc ?_ _)); exact BK275.out)) : gb275 ≠ gb294)); have n17_ := Aside0.mk ((by rw [hg]; exact Nat.ne_of_gt (blk_lt (g := gb275) (o := .cells #[.int .i64 t271, .slice Ao27 t272.length co27] 31 (0, 0)) (by (with_reducible repeat (first | refine blk_drewN ?_ _ | refine blk_drew ?_ | refine blk_alloc ?_ _)); exact BK275.out)) : gb294 ≠ gb275)); clear HO_276001; clear HO293; clear BK263; clear BK264; clear BK270; clear BK275; clear HB; have HO_276001 := n0_; have HO293 := n1_; have BK263 := n2_; have BK264 := n3_; have BK270 := n4_; have BK275 := n5_; have HB := n6_; have BK294 := n7_; have GW294 := n8_; have GE294 := n9_; have NB263_294 := n10_; have NB294_263 := n11_; have NB264_294 := n12_; have NB294_264 := n13_; have NB270_294 := n14_; have NB294_270 := n15_; have NB275_294 := n16_; have NB294_275 := n17_; clear n0_ n1_ n2_ n3_ n4_ n5_ n6_ n7_ n8_ n9_ n10_ n11_ n12_ n13_ n14_ n15_ n16_ n17_; clear hb hbox hg; have hnb171 := NB294_263.out; have hnc171 := NB263_294.out; have hnb172 := NB294_264.out; have hnc172 := NB264_294.out; have hnb173 := NB294_270.out; have hnc173 := NB270_294.out; have hnb174 := NB294_275.out; have hnc174 := NB275_294.out; have hcz175_0 : w170.cell? ⟨gb294, 0, none⟩ = some (.int .i64 0) := (blk_cell BK294.out 0).trans rfl; have hcz175_1 : w170.cell? ⟨gb294, 1, none⟩ = some (.slice none 0 0) := (blk_cell BK294.out 1).trans rfl; have hfz175_0 := blk_frozen BK294.out 0; have hfz175_1 := blk_frozen BK294.out 1; obtain ⟨Ao176, co176, eo176⟩ := Kd.R_slice HO293.out; subst eo176; have hcz177_0 : w170.cell? ⟨gb263, 0, none⟩ = some (.int .i64 t259) := (blk_cell BK263.out 0).trans rfl; have hcz177_1 : w170.cell? ⟨gb263, 1, none⟩ = some (.int .i64 t260) := (blk_cell BK263.out 1).trans rfl; have hfz177_0 := blk_frozen BK263.out 0; have hfz177_1 := blk_frozen BK263.out 1; have hnb178 := NB264_270.out; have hnc178 := NB270_264.out; have hnb179 := NB264_275.out; have hnc179 := NB275_264.out; have hcz180_0 : w170.cell? ⟨gb264, 0, none⟩ = some (.int .i64 t261) := (blk_cell BK264.out 0).trans rfl; have hcz180_1 : w170.cell? ⟨gb264, 1, none⟩ = some (.int .i64 t262) := (blk_cell BK264.out 1).trans rfl; have hfz180_0 := blk_frozen BK264.out 0; have hfz180_1 := blk_frozen BK264.out 1) | ((with_reducible refine gate_callee (f := 33) rfl ?_); refine goesL_ (some 127) rfl rfl Try.func33 (by kernel_rfl) rfl #[.agg #[.int .i64 t259, .int .i64 t260], .agg #[.int .i64 t261, .int .i64 t262]] rfl (by (try simp only [List.map_toArray, List.map_cons, List.map_nil]); first | done | rfl | (simp only [List.length_drop, List.length_take]; rfl)) ?_; (with_reducible refine (impl_RegionsMeet.calls t259 t260 t261 t262 t295 _ A158.out).mono ?_); rintro e w181 ⟨rfl, hb⟩; refine ⟨_, rfl, ?_⟩; have n0_ := Aside0.mk (Kd.R_below (by (with_reducible repeat (first | apply Kd.R_alloc | apply Kd.R_drewN | apply Kd.R_drew)); exact (Kd.R_mono (Kd.R_far (p := ⟨gb294, 1, none⟩) (Kd.R_far (p := ⟨gb294, 0, none⟩) (Kd.R_types HO_276001.out BK294.out (by decide)) (fun _ hk => hk.2) (.int .i64 t290)) (fun _ hk => hk.2) (.slice Ao176 t291.length co176)) (fun _ h_ => h_.1))) hb); have n1_ := Aside0.mk (Kd.R_below (by (with_reducible repeat (first | apply Kd.R_alloc | apply Kd.R_drewN | apply Kd.R_drew)); exact (Kd.R_mono (Kd.R_far (p := ⟨gb294, 1, none⟩) (Kd.R_far (p := ⟨gb294, 0, none⟩) (Kd.R_types HO293.out BK294.out (by decide)) (fun _ hk => hk.2) (.int .i64 t290)) (fun _ hk => hk.2) (.slice Ao176 t291.length co176)) (fun _ h_ => h_.1))) hb); have n2_ := Aside0.mk (blk_below (g := gb263) (o := .cells #[.int .i64 t259, .int .i64 t260] 47 (0, 0)) (by (with_reducible repeat (first | refine blk_drewN ?_ _ | refine blk_drew ?_ | refine blk_alloc ?_ _)); refine blk_far ?_ NB263_294.out _; (with_reducible repeat (first | refine blk_drewN ?_ _ | refine blk_drew ?_ | refine blk_alloc ?_ _)); refine blk_far ?_ NB263_294.out _; (with_reducible repeat (first | refine blk_drewN ?_ _ | refine blk_drew ?_ | refine blk_alloc ?_ _)); exact BK263.out) hb); have n3_ := Aside0.mk (blk_below (g := gb264) (o := .cells #[.int .i64 t261, .int .i64 t262] 47 (0, 0)) (by (with_reducible repeat (first | refine blk_drewN ?_ _ | refine blk_drew ?_ | refine blk_alloc ?_ _)); refine blk_far ?_ NB264_294.out _; (with_reducible repeat (first | refine blk_drewN ?_ _ | refine blk_drew ?_ | refine blk_alloc ?_ _)); refine blk_far ?_ NB264_294.out _; (with_reducible repeat (first | refine blk_drewN ?_ _ | refine blk_drew ?_ | refine blk_alloc ?_ _)); exact BK264.out) hb); have n4_ := Aside0.mk (blk_below (g := gb270) (o := .cells #[.int .i64 t268, .int .i64 t269] 47 (0, 0)) (by (with_reducible repeat (first | refine blk_drewN ?_ _ | refine blk_drew ?_ | refine blk_alloc ?_ _)); refine blk_far ?_ NB270_294.out _; (with_reducible repeat (first | refine blk_drewN ?_ _ | refine blk_drew ?_ | refine blk_alloc ?_ _)); refine blk_far ?_ NB270_294.out _; (with_reducible repeat (first | refine blk_drewN ?_ _ | refine blk_drew ?_ | refine blk_alloc ?_ _)); exact BK270.out) hb); have n5_ := Aside0.mk (blk_below (g := gb275) (o := .cells #[.int .i64 t271, .slice Ao27 t272.length co27] 31 (0, 0)) (by (with_reducible repeat (first | refine blk_drewN ?_ _ | refine blk_drew ?_ | refine blk_alloc ?_ _)); refine blk_far ?_ NB275_294.out _; (with_reducible repeat (first | refine blk_drewN ?_ _ | refine blk_drew ?_ | refine blk_alloc ?_ _)); refine blk_far ?_ NB275_294.out _; (with_reducible repeat (first | refine blk_drewN ?_ _ | refine blk_drew ?_ | refine blk_alloc ?_ _)); exact BK275.out) hb); have n6_ := Aside0.mk (blk_below (g := gb294) (o := .cells #[.int .i64 t290, .slice Ao176 t291.length co176] 57 (0, 0)) (by (with_reducible repeat (first | refine blk_drewN ?_ _ | refine blk_drew ?_ | refine blk_alloc ?_ _)); refine blk_put (cs := #[.int .i64 t290, .slice none 0 0]) ?_ 1 _ rfl; (with_reducible repeat (first | refine blk_drewN ?_ _ | refine blk_drew ?_ | refine blk_alloc ?_ _)); refine blk_put (cs := #[.int .i64 0, .slice none 0 0]) ?_ 0 _ rfl; (with_reducible repeat (first | refine blk_drewN ?_ _ | refine blk_drew ?_ | refine blk_alloc ?_ _)); exact BK294.out) hb); have n7_ := Aside0.mk (below_step (by repeat (first | (with_reducible first | exact HB.out | apply below_alloc | apply pw_below_drewN | apply below_drew1 | refine below_set ?_ GE263.out | refine below_set ?_ GE264.out | refine below_set ?_ GE270.out | refine below_set ?_ GE275.out | refine below_set ?_ GE294.out) | exact HB.out)) hb); clear HO_276001; clear HO293; clear BK263; clear BK264; clear BK270; clear BK275; clear BK294; clear HB; have HO_276001 := n0_; have HO293 := n1_; have BK263 := n2_; have BK264 := n3_; have BK270 := n4_; have BK275 := n5_; have BK294 := n6_; have HB := n7_; clear n0_ n1_ n2_ n3_ n4_ n5_ n6_ n7_; (try clear hb); (try clear hb2); (try clear hk); (try clear hi); have hcz182_0 : w181.cell? ⟨gb264, 0, none⟩ = some (.int .i64 t261) := (blk_cell BK264.out 0).trans rfl; have hcz182_1 : w181.cell? ⟨gb264, 1, none⟩ = some (.int .i64 t262) := (blk_cell BK264.out 1).trans rfl; have hfz182_0 := blk_frozen BK264.out 0; have hfz182_1 := blk_frozen BK264.out 1; have hcz183_0 : w181.cell? ⟨gb263, 0, none⟩ = some (.int .i64 t259) := (blk_cell BK263.out 0).trans rfl; have hcz183_1 : w181.cell? ⟨gb263, 1, none⟩ = some (.int .i64 t260) := (blk_cell BK263.out 1).trans rfl; have hfz183_0 := blk_frozen BK263.out 0; have hfz183_1 := blk_frozen BK263.out 1) | (go_at_call 33; (with_reducible refine (impl_RegionsMeet.calls t261 t262 t259 t260 t296 _ A160.out).mono ?_); rintro e w184 ⟨rfl, hb⟩; have n0_ := Aside0.mk (Kd.R_below (by (with_reducible repeat (first | apply Kd.R_alloc | apply Kd.R_drewN | apply Kd.R_drew)); exact HO_276001.out) hb); have n1_ := Aside0.mk (Kd.R_below (by (with_reducible repeat (first | apply Kd.R_alloc | apply Kd.R_drewN | apply Kd.R_drew)); exact HO293.out) hb); have n2_ := Aside0.mk (blk_below (g := gb263) (o := .cells #[.int .i64 t259, .int .i64 t260] 47 (0, 0)) (by (with_reducible repeat (first | refine blk_drewN ?_ _ | refine blk_drew ?_ | refine blk_alloc ?_ _)); exact BK263.out) hb); have n3_ := Aside0.mk (blk_below (g := gb264) (o := .cells #[.int .i64 t261, .int .i64 t262] 47 (0, 0)) (by (with_reducible repeat (first | refine blk_drewN ?_ _ | refine blk_drew ?_ | refine blk_alloc ?_ _)); exact BK264.out) hb); have n4_ := Aside0.mk (blk_below (g := gb270) (o := .cells #[.int .i64 t268, .int .i64 t269] 47 (0, 0)) (by (with_reducible repeat (first | refine blk_drewN ?_ _ | refine blk_drew ?_ | refine blk_alloc ?_ _)); exact BK270.out) hb); have n5_ := Aside0.mk (blk_below (g := gb275) (o := .cells #[.int .i64 t271, .slice Ao27 t272.length co27] 31 (0, 0)) (by (with_reducible repeat (first | refine blk_drewN ?_ _ | refine blk_drew ?_ | refine blk_alloc ?_ _)); exact BK275.out) hb); have n6_ := Aside0.mk (blk_below (g := gb294) (o := .cells #[.int .i64 t290, .slice Ao176 t291.length co176] 57 (0, 0)) (by (with_reducible repeat (first | refine blk_drewN ?_ _ | refine blk_drew ?_ | refine blk_alloc ?_ _)); exact BK294.out) hb); have n7_ := Aside0.mk (below_step (by repeat (first | (with_reducible first | exact HB.out | apply below_alloc | apply pw_below_drewN | apply below_drew1 | refine below_set ?_ GE263.out | refine below_set ?_ GE264.out | refine below_set ?_ GE270.out | refine below_set ?_ GE275.out | refine below_set ?_ GE294.out) | exact HB.out)) hb); clear HO_276001; clear HO293; clear BK263; clear BK264; clear BK270; clear BK275; clear BK294; clear HB; have HO_276001 := n0_; have HO293 := n1_; have BK263 := n2_; have BK264 := n3_; have BK270 := n4_; have BK275 := n5_; have BK294 := n6_; have HB := n7_; clear n0_ n1_ n2_ n3_ n4_ n5_ n6_ n7_; (try clear hb); (try clear hb2); (try clear hk); (try clear hi); have hcz185_0 : w184.cell? ⟨gb263, 0, none⟩ = some (.int .i64 t259) := (blk_cell BK263.out 0).trans rfl; have hcz185_1 : w184.cell? ⟨gb263, 1, none⟩ = some (.int .i64 t260) := (blk_cell BK263.out 1).trans rfl; have hfz185_0 := blk_frozen BK263.out 0; have hfz185_1 := blk_frozen BK263.out 1; have hcz186_0 : w184.cell? ⟨gb264, 0, none⟩ = some (.int .i64 t261) := (blk_cell BK264.out 0).trans rfl; have hcz186_1 : w184.cell? ⟨gb264, 1, none⟩ = some (.int .i64 t262) := (blk_cell BK264.out 1).trans rfl; have hfz186_0 := blk_frozen BK264.out 0; have hfz186_1 := blk_frozen BK264.out 1) | ((with_reducible refine gate_dst (N := 140) rfl ?_); (try (refine gate_guard (by rfl) ?_; dsimp only)); refine Kd.R_lit k47 _ 47 ?hg (N := 140) ?hd (xs := ([(⟨t259, t260⟩ : S47), (⟨t261, t262⟩ : S47)] : List (S47))) (inner := [.int .i64 t259, .int .i64 t260, .int .i64 t261, .int .i64 t262]) (ok := fun _ => True) (okp := fun _ => True) ?hr ?hp (fun _ hk => hk) trivial (Below.refl _ _) (Nat.le_refl _) (by simp) ?_; (case hd => rfl); (case hg => rfl); (case hr => first | (go_simp; done) | (go_simp; rfl)); (case hp => exact (Reps.c2 (show Kd.M k47 _ _ _ (⟨t259, t260⟩ : S47) [.int .i64 t259, .int .i64 t260] from (k47_mkM _ _ _ (⟨t259, t260⟩ : S47) )) (Reps.c2 (show Kd.M k47 _ _ _ (⟨t261, t262⟩ : S47) [.int .i64 t261, .int .i64 t262] from (k47_mkM _ _ _ (⟨t261, t262⟩ : S47) )) (Reps.none _ _)))); intro v298 w187 ho188 hb hg_ hnew_; clear hg_ hnew_; (first | rw [← Ny297.out] at ho188 | (simp only [Int.reduceToNat] at ho188; rw [← Ny297.out] at ho188)); have n0_ := Aside0.mk (Kd.R_below (by (with_reducible repeat (first | apply Kd.R_alloc | apply Kd.R_drewN | apply Kd.R_drew)); exact HO_276001.out) hb); have n1_ := Aside0.mk (Kd.R_below (by (with_reducible repeat (first | apply Kd.R_alloc | apply Kd.R_drewN | apply Kd.R_drew)); exact HO293.out) hb); have n2_ := Aside0.mk (Kd.R_lower (Kd.R_newB (Kd.R_newB (Kd.R_newB ho188 (g := gb263) (o := .cells #[.int .i64 t259, .int .i64 t260] 47 (0, 0)) (by (with_reducible repeat (first | refine blk_drewN ?_ _ | refine blk_drew ?_ | refine blk_alloc ?_ _)); exact BK263.out)) (g := gb264) (o := .cells #[.int .i64 t261, .int .i64 t262] 47 (0, 0)) (by (with_reducible repeat (first | refine blk_drewN ?_ _ | refine blk_drew ?_ | refine blk_alloc ?_ _)); exact BK264.out)) (g := gb270) (o := .cells #[.int .i64 t268, .int .i64 t269] 47 (0, 0)) (by (with_reducible repeat (first | refine blk_drewN ?_ _ | refine blk_drew ?_ | refine blk_alloc ?_ _)); exact BK270.out)) (below_size (by repeat (first | (with_reducible first | exact HB.out | apply below_alloc | apply pw_below_drewN | apply below_drew1 | refine below_set ?_ GE263.out | refine below_set ?_ GE264.out | refine below_set ?_ GE270.out | refine below_set ?_ GE275.out | refine below_set ?_ GE294.out) | exact HB.out)))); have n3_ := Aside0.mk (blk_below (g := gb263) (o := .cells #[.int .i64 t259, .int .i64 t260] 47 (0, 0)) (by (with_reducible repeat (first | refine blk_drewN ?_ _ | refine blk_drew ?_ | refine blk_alloc ?_ _)); exact BK263.out) hb); have n4_ := Aside0.mk (blk_below (g := gb264) (o := .cells #[.int .i64 t261, .int .i64 t262] 47 (0, 0)) (by (with_reducible repeat (first | refine blk_drewN ?_ _ | refine blk_drew ?_ | refine blk_alloc ?_ _)); exact BK264.out) hb); have n5_ := Aside0.mk (blk_below (g := gb270) (o := .cells #[.int .i64 t268, .int .i64 t269] 47 (0, 0)) (by (with_reducible repeat (first | refine blk_drewN ?_ _ | refine blk_drew ?_ | refine blk_alloc ?_ _)); exact BK270.out) hb); have n6_ := Aside0.mk (blk_below (g := gb275) (o := .cells #[.int .i64 t271, .slice Ao27 t272.length co27] 31 (0, 0)) (by (with_reducible repeat (first | refine blk_drewN ?_ _ | refine blk_drew ?_ | refine blk_alloc ?_ _)); exact BK275.out) hb); have n7_ := Aside0.mk (blk_below (g := gb294) (o := .cells #[.int .i64 t290, .slice Ao176 t291.length co176] 57 (0, 0)) (by (with_reducible repeat (first | refine blk_drewN ?_ _ | refine blk_drew ?_ | refine blk_alloc ?_ _)); exact BK294.out) hb); have n8_ := Aside0.mk (below_step (by repeat (first | (with_reducible first | exact HB.out | apply below_alloc | apply pw_below_drewN | apply below_drew1 | refine below_set ?_ GE263.out | refine below_set ?_ GE264.out | refine below_set ?_ GE270.out | refine below_set ?_ GE275.out | refine below_set ?_ GE294.out) | exact HB.out)) hb); clear HO_276001; clear HO293; clear BK263; clear BK264; clear BK270; clear BK275; clear BK294; clear HB; have HO_276001 := n0_; have HO293 := n1_; have HO299 := n2_; have BK263 := n3_; have BK264 := n4_; have BK270 := n5_; have BK275 := n6_; have BK294 := n7_; have HB := n8_; clear n0_ n1_ n2_ n3_ n4_ n5_ n6_ n7_ n8_; clear hb ho188; obtain ⟨Ao189, co189, eo189⟩ := Kd.R_slice HO299.out; subst eo189) | (go_at_call 35; (with_reducible refine (impl_RegionsApart.calls _ _ y297 t300 _ ?side1 ?side2 A162.out).mono ?_); (case side1 => repeat (first | exact (Kd.R_reads' HO299.out).2.2 | (with_reducible refine Kd.C_alloc ?_ _) | (with_reducible refine Kd.C_drewN ?_ _) | (with_reducible refine Kd.C_drew ?_))); (case side2 => exact (Kd.R_reads' HO299.out).2.1); rintro e w190 ⟨rfl, hb⟩; have n0_ := Aside0.mk (Kd.R_below (by (with_reducible repeat (first | apply Kd.R_alloc | apply Kd.R_drewN | apply Kd.R_drew)); exact HO_276001.out) hb); have n1_ := Aside0.mk (Kd.R_below (by (with_reducible repeat (first | apply Kd.R_alloc | apply Kd.R_drewN | apply Kd.R_drew)); exact HO293.out) hb); have n2_ := Aside0.mk (Kd.R_below (by (with_reducible repeat (first | apply Kd.R_alloc | apply Kd.R_drewN | apply Kd.R_drew)); exact HO299.out) hb); have n3_ := Aside0.mk (blk_below (g := gb263) (o := .cells #[.int .i64 t259, .int .i64 t260] 47 (0, 0)) (by (with_reducible repeat (first | refine blk_drewN ?_ _ | refine blk_drew ?_ | refine blk_alloc ?_ _)); exact BK263.out) hb); have n4_ := Aside0.mk (blk_below (g := gb264) (o := .cells #[.int .i64 t261, .int .i64 t262] 47 (0, 0)) (by (with_reducible repeat (first | refine blk_drewN ?_ _ | refine blk_drew ?_ | refine blk_alloc ?_ _)); exact BK264.out) hb); have n5_ := Aside0.mk (blk_below (g := gb270) (o := .cells #[.int .i64 t268, .int .i64 t269] 47 (0, 0)) (by (with_reducible repeat (first | refine blk_drewN ?_ _ | refine blk_drew ?_ | refine blk_alloc ?_ _)); exact BK270.out) hb); have n6_ := Aside0.mk (blk_below (g := gb275) (o := .cells #[.int .i64 t271, .slice Ao27 t272.length co27] 31 (0, 0)) (by (with_reducible repeat (first | refine blk_drewN ?_ _ | refine blk_drew ?_ | refine blk_alloc ?_ _)); exact BK275.out) hb); have n7_ := Aside0.mk (blk_below (g := gb294) (o := .cells #[.int .i64 t290, .slice Ao176 t291.length co176] 57 (0, 0)) (by (with_reducible repeat (first | refine blk_drewN ?_ _ | refine blk_drew ?_ | refine blk_alloc ?_ _)); exact BK294.out) hb); have n8_ := Aside0.mk (below_step (by repeat (first | (with_reducible first | exact HB.out | apply below_alloc | apply pw_below_drewN | apply below_drew1 | refine below_set ?_ GE263.out | refine below_set ?_ GE264.out | refine below_set ?_ GE270.out | refine below_set ?_ GE275.out | refine below_set ?_ GE294.out) | exact HB.out)) hb); clear HO_276001; clear HO293; clear HO299; clear BK263; clear BK264; clear BK270; clear BK275; clear BK294; clear HB; have HO_276001 := n0_; have HO293 := n1_; have HO299 := n2_; have BK263 := n3_; have BK264 := n4_; have BK270 := n5_; have BK275 := n6_; have BK294 := n7_; have HB := n8_; clear n0_ n1_ n2_ n3_ n4_ n5_ n6_ n7_ n8_; (try clear hb); (try clear hb2); (try clear hk); (try clear hi); have hcz191_0 : w190.cell? ⟨gb294, 0, none⟩ = some (.int .i64 t290) := (blk_cell BK294.out 0).trans rfl; have hcz191_1 : w190.cell? ⟨gb294, 1, none⟩ = some (.slice Ao176 t291.length co176) := (blk_cell BK294.out 1).trans rfl; have hfz191_0 := blk_frozen BK294.out 0; have hfz191_1 := blk_frozen BK294.out 1; have hcz192_0 : w190.cell? ⟨gb263, 0, none⟩ = some (.int .i64 t259) := (blk_cell BK263.out 0).trans rfl; have hcz192_1 : w190.cell? ⟨gb263, 1, none⟩ = some (.int .i64 t260) := (blk_cell BK263.out 1).trans rfl; have hfz192_0 := blk_frozen BK263.out 0; have hfz192_1 := blk_frozen BK263.out 1))
                                    go_ret
                                    exact ⟨by first | rfl | (simp [errW_none, errW_some] <;> rfl) | (simp [*, errW_none, errW_some] <;> rfl), by repeat (first | (with_reducible first | exact HB.out | apply below_alloc | apply pw_below_drewN | apply below_drew1 | refine below_set ?_ GE263.out | refine below_set ?_ GE264.out | refine below_set ?_ GE270.out | refine below_set ?_ GE275.out | refine below_set ?_ GE294.out) | exact HB.out)⟩
                                  · rw [if_neg c164] at H
                                    have c164b0 : (t290 == 0) = false := beq_eq_false_iff_ne.mpr c164
                                    have c164b1 : (t290 != 0) = true := bne_iff_ne.mpr c164
                                    exact absurd H (by simp)
                                · rw [if_neg c163] at H
                                  have c163b0 : (t300 == (!x10_4)) = false := by simpa using c163
                                  (try (have c163b1 : decide (t300 = (!x10_4)) = false := by simpa using c163))
                                  (try (have c163b2 : (t300 == (!x10_4)) = false := by simpa using c163))
                                  (try (have c163b3 : ¬ (t300 = (!x10_4)) := by simpa using c163))
                                  clear c163
                                  exact absurd H (by simp)
                              · rw [if_neg c161] at H
                                have c161b0 : (t296 == x10_4) = false := by simpa using c161
                                (try (have c161b1 : decide (t296 = x10_4) = false := by simpa using c161))
                                (try (have c161b2 : (t296 == x10_4) = false := by simpa using c161))
                                (try (have c161b3 : ¬ (t296 = x10_4) := by simpa using c161))
                                clear c161
                                exact absurd H (by simp)
                            · rw [if_neg c159] at H
                              have c159b0 : (t295 == x10_4) = false := by simpa using c159
                              (try (have c159b1 : decide (t295 = x10_4) = false := by simpa using c159))
                              (try (have c159b2 : (t295 == x10_4) = false := by simpa using c159))
                              (try (have c159b3 : ¬ (t295 = x10_4) := by simpa using c159))
                              clear c159
                              exact absurd H (by simp)
    · rw [if_neg c8] at H
      have c8b0 : (t271 == t276) = false := beq_eq_false_iff_ne.mpr c8
      have c8b1 : (t271 != t276) = true := bne_iff_ne.mpr c8
      exact absurd H (by simp)
/-- THE ONE PURE STATEMENT of laws_FnRegions: yours. -/
def laws_FnRegions.Pure : Prop := ∀ (l0 : List Int), l0.length ≤ maxLen → l0.length * 1 ≤ 140737488351232 → (∀ x ∈ l0, (Lit.int .u8 x).wf = true) → ∃ k, laws_FnRegions.f k l0 = some true
theorem laws_FnRegions.walk (P : laws_FnRegions.Pure) (a0 : Option Addr) (len0 cap0 : Nat) (z0 : List Int) (w : World) (w0 : (a0 = none ∧ len0 = 0 ∧ cap0 = 0 ∧ z0 = []) ∨ ∃ x, a0 = some x ∧ len0 ≤ cap0 ∧ cap0 ≤ maxLen ∧ z0.length = cap0 ∧ (∀ i, i < z0.length → w.cell? (x.add i) = some (.int .u8 (z0.getD i 0))) ∧ ∀ n ∈ z0, (Lit.int .u8 n).wf = true) (y0 : len0 * 1 ≤ 140737488351232) :
    Calls Try.prog 7 #[.slice a0 len0 cap0] w fun e w' => e = .returned (.bool true) ∧ Below w.heap.size w w' := by
  obtain ⟨l0, rfl, hr0, hm0, hw0, hc0⟩ := ReadsInt.ofRowC w0
  obtain ⟨k, h⟩ := P l0 hm0 y0 hw0
  refine (laws_FnRegions.calls k _ _ l0 w (Kd.C_of_reads (d := (0 : Int)) (h1 := fun _ => rfl) hr0) hc0 h).mono ?_
  rintro e w' ⟨rfl, hd⟩
  exact ⟨rfl, hd⟩

end Go.Proofs.Ytddnkakkejeacaa.PFnRegions
