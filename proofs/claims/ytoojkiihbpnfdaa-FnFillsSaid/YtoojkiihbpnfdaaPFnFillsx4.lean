-- The Go functions of FnFills as Lean functions, each with its proof. Written by the session's own program (wip/gen/hp.py), which drives the kit's print.py.
import Derived.Test.YtoojkiihbpnfdaaPFnFillsx0
import Derived.Test.YtoojkiihbpnfdaaPFnFillsx2
import Derived.Test.YtoojkiihbpnfdaaPFnFillsx3
namespace Go.Proofs.Ytoojkiihbpnfdaa.PFnFills
open Go.RowKit Go.Proofs.YtoojkiihbpnfdaaW.PrintWords Go.Proofs.YtoojkiihbpnfdaaW.PrintLast Go.Proofs.YtoojkiihbpnfdaaW.PrintMore
attribute [local go_sem] max2_int min2_int max_two min_two max_three min_three max_four min_four   -- for this text's walks alone
set_option linter.unusedVariables false
set_option linter.unusedSimpArgs false

/-! ### impl_filled: function 37 -/
def impl_filled.f (l0 : List (S31)) (a1_0 : Int) (a1_1 : Int) (a1_2 : Int) (a1_3 : Int) : Option ((List (S31))) := (impl_Hit_45.f l0).bind fun t157 => ((impl_hitAt.f t157 a1_0 a1_1).bind fun t160 => (if t160 ≥ 0 then ((impl_Hit_58.f t157 t160 (wrap64 (t160 + 1))).bind fun t161 => (if t161.length < 4398046511104 then (some (t161 ++ [(⟨a1_0, a1_1, a1_2, a1_3⟩ : S31)])) else (none))) else (if (t157.length : Int) = 12 then ((impl_Hit_58.f t157 0 1).bind fun t167 => (if t167.length < 4398046511104 then (some (t167 ++ [(⟨a1_0, a1_1, a1_2, a1_3⟩ : S31)])) else (none))) else (if t157.length < 4398046511104 then (some (t157 ++ [(⟨a1_0, a1_1, a1_2, a1_3⟩ : S31)])) else (none)))))
set_option maxHeartbeats 8000000 in
set_option maxRecDepth 100000 in
theorem impl_filled.calls (A0 : Option Addr) (c0 : Nat) (l0 : List (S31)) (a1_0 : Int) (a1_1 : Int) (a1_2 : Int) (a1_3 : Int) (r : List (S31)) (w : World) (hr0 : Kd.C k31 w A0 l0.length l0) (hc0 : l0.length ≤ c0) (h : impl_filled.f l0 a1_0 a1_1 a1_2 a1_3 = some r) :
  Calls Try.prog 37 #[.slice A0 l0.length c0, .agg #[.int .i64 a1_0, .int .i64 a1_1, .int .i64 a1_2, .int .i64 a1_3]] w fun e w' => ∃ v0_ : Value, e = .returned (v0_) ∧ Kd.R k31 31 w' w.heap.size (fun _ => True) v0_ r ∧ Below w.heap.size w w' := by
 have hu31 := Try.underlying31
 have HR0 := zm hr0
 have HC0 := zm hc0
 clear hr0 hc0
 have HB := zm (Below.refl w.heap.size w)
 have H : ((impl_Hit_45.f l0).bind fun t157 => ((impl_hitAt.f t157 a1_0 a1_1).bind fun t160 => (if t160 ≥ 0 then ((impl_Hit_58.f t157 t160 (wrap64 (t160 + 1))).bind fun t161 => (if t161.length < 4398046511104 then (some (t161 ++ [(⟨a1_0, a1_1, a1_2, a1_3⟩ : S31)])) else (none))) else (if (t157.length : Int) = 12 then ((impl_Hit_58.f t157 0 1).bind fun t167 => (if t167.length < 4398046511104 then (some (t167 ++ [(⟨a1_0, a1_1, a1_2, a1_3⟩ : S31)])) else (none))) else (if t157.length < 4398046511104 then (some (t157 ++ [(⟨a1_0, a1_1, a1_2, a1_3⟩ : S31)])) else (none)))))) = some r := h
 clear h
 replace H := yH.mp H
 obtain ⟨t157, A30, H⟩ := H
 try dsimp only at H
 have A3 := zm A30
 clear A30
 replace H := yH.mp H
 obtain ⟨t160, A40, H⟩ := H
 try dsimp only at H
 have A4 := zm A40
 clear A40
 by_cases c5 : t160 ≥ 0
 ·rw [if_pos c5] at H
  have c5b0 : decide (0 ≤ t160) = true := decide_eq_true c5
  clear c5
  replace H := yH.mp H
  obtain ⟨t161, A60, H⟩ := H
  try dsimp only at H
  have A6 := zm A60
  clear A60
  by_cases c7 : t161.length < 4398046511104
  ·rw [if_pos c7] at H
   have LMc7 := zm c7
   clear c7
   obtain ⟨y164, hy164⟩ : ∃ y_ : List (S31), y_ = (t161 ++ [(⟨a1_0, a1_1, a1_2, a1_3⟩ : S31)]) := ⟨_, rfl⟩
   replace H : (some y164) = some r := by first | (rw [hy164]; with_reducible exact H) | (have H2_ := (Option.bind_some _ _).symm.trans H; rw [hy164]; with_reducible exact H2_) | (have H2_ := (Option.bind_some _ _).symm.trans H; with_reducible exact H2_) | with_reducible exact H | (rw [hy164]; exact H) | exact H
   have Ny164 := zm hy164
   clear hy164
   obtain rfl := Option.some.inj H
   go_enter Try.func37, Try.ntmps37
   go_wp2_with (first | ((with_reducible refine gate_dst (N := 3) rfl ?_); refine box_event ?hg (N := 3) ?hd (cs := #[.int .i64 a1_0, .int .i64 a1_1, .int .i64 a1_2, .int .i64 a1_3]) (t := 31) ?hr ?_; (case hd => rfl); (case hg => rfl); (case hr => first | (go_simp; done) | (go_simp; rfl)); intro gb156 hg w8 hbox hb; have n0_ := zm (zw (by repeat (first | (with_reducible first | exact HB.out | apply zg | apply zh | apply zi) | exact HB.out)) hb); have n1_ := zm (hbox); have n2_ := zm ((by rw [hg]; exact (zx (by repeat (first | (with_reducible first | exact HB.out | apply zg | apply zh | apply zi) | exact HB.out))) : w.heap.size ≤ gb156)); have n3_ := zm ((by rw [hg]; exact (zx (by repeat (first | (with_reducible first | exact HB.out | apply zg | apply zh | apply zi) | exact HB.out))) : w.heap.size ≤ gb156)); clear HB; have HB := n0_; have BK156 := n1_; have GW156 := n2_; have GE156 := n3_; clear n0_ n1_ n2_ n3_; clear hb hbox hg) | ((with_reducible refine gate_callee (f := 45) rfl ?_); refine goesL_ (some 8) rfl rfl Try.func45 (by kernel_rfl) rfl #[.slice A0 l0.length c0] rfl (by (try simp only [zA, zB, zC]); first | done | rfl | (simp only [zE, zD]; rfl)) ?_; (with_reducible refine (impl_Hit_45.calls _ _ l0 t157 _ ?side1 ?side2 A3.out).mono ?_); (case side1 => repeat (first | exact (Kd.C_below HR0.out HB.out) | (with_reducible first | refine zj ?_ _ | refine zk ?_ _ | refine zl ?_))); (case side2 => exact HC0.out); rintro e w9 ⟨v158, rfl, ho0, hb⟩; refine ⟨_, rfl, ?_⟩; have n0_ := zm (zz (Kd.R_newB ho0 (g := gb156) (o := .cells #[.int .i64 a1_0, .int .i64 a1_1, .int .i64 a1_2, .int .i64 a1_3] 31 (0, 0)) (by (with_reducible repeat (first | refine zd ?_ _ | refine ze ?_ | refine zf ?_ _)); exact BK156.out)) (zx (by repeat (first | (with_reducible first | exact HB.out | apply zg | apply zh | apply zi | refine zy ?_ GE156.out) | exact HB.out)))); have n1_ := zm (zu (g := gb156) (o := .cells #[.int .i64 a1_0, .int .i64 a1_1, .int .i64 a1_2, .int .i64 a1_3] 31 (0, 0)) (by (with_reducible repeat (first | refine zd ?_ _ | refine ze ?_ | refine zf ?_ _)); exact BK156.out) hb); have n2_ := zm (zw (by repeat (first | (with_reducible first | exact HB.out | apply zg | apply zh | apply zi | refine zy ?_ GE156.out) | exact HB.out)) hb); clear BK156; clear HB; have HO159 := n0_; have BK156 := n1_; have HB := n2_; clear n0_ n1_ n2_; (try clear hb); (try clear hb2); (try clear hk); (try clear hi); (try clear ho0); have hcz10_0 : w9.cell? ⟨gb156, 0, none⟩ = some (.int .i64 a1_0) := (yG BK156.out 0).trans rfl; have hcz10_1 : w9.cell? ⟨gb156, 1, none⟩ = some (.int .i64 a1_1) := (yG BK156.out 1).trans rfl; have hcz10_2 : w9.cell? ⟨gb156, 2, none⟩ = some (.int .i64 a1_2) := (yG BK156.out 2).trans rfl; have hcz10_3 : w9.cell? ⟨gb156, 3, none⟩ = some (.int .i64 a1_3) := (yG BK156.out 3).trans rfl; have hfz10_0 := zH BK156.out 0; have hfz10_1 := zH BK156.out 1; have hfz10_2 := zH BK156.out 2; have hfz10_3 := zH BK156.out 3; obtain ⟨Ao11, co11, eo11⟩ := Kd.R_slice HO159.out; subst eo11) | ((with_reducible refine gate_callee (f := 41) rfl ?_); refine goesL_ (some 14) rfl rfl Try.func41 (by kernel_rfl) rfl #[.slice Ao11 t157.length co11, .int .i64 a1_0, .int .i64 a1_1] rfl (by (try simp only [zA, zB, zC]); first | done | rfl | (simp only [zE, zD]; rfl)) ?_; (with_reducible refine (impl_hitAt.calls _ _ t157 a1_0 a1_1 t160 _ ?side1 ?side2 A4.out).mono ?_); (case side1 => repeat (first | exact (zF HO159.out).2.2 | (with_reducible first | refine zj ?_ _ | refine zk ?_ _ | refine zl ?_))); (case side2 => exact (zF HO159.out).2.1); rintro e w12 ⟨rfl, hb⟩; refine ⟨_, rfl, ?_⟩; have n0_ := zm (zp (by (with_reducible repeat (first | apply za | apply zb | apply zc)); exact HO159.out) hb); have n1_ := zm (zu (g := gb156) (o := .cells #[.int .i64 a1_0, .int .i64 a1_1, .int .i64 a1_2, .int .i64 a1_3] 31 (0, 0)) (by (with_reducible repeat (first | refine zd ?_ _ | refine ze ?_ | refine zf ?_ _)); exact BK156.out) hb); have n2_ := zm (zw (by repeat (first | (with_reducible first | exact HB.out | apply zg | apply zh | apply zi | refine zy ?_ GE156.out) | exact HB.out)) hb); clear HO159; clear BK156; clear HB; have HO159 := n0_; have BK156 := n1_; have HB := n2_; clear n0_ n1_ n2_; (try clear hb); (try clear hb2); (try clear hk); (try clear hi)) | ((with_reducible refine gate_callee (f := 58) rfl ?_); refine goesL_ (some 21) rfl rfl Try.func58 (by kernel_rfl) rfl #[.slice Ao11 t157.length co11, .int .i64 t160, .int .i64 (wrap64 (t160 + 1))] rfl (by (try simp only [zA, zB, zC]); first | done | rfl | (simp only [zE, zD]; rfl)) ?_; (with_reducible refine (impl_Hit_58.calls _ _ t157 t160 (wrap64 (t160 + 1)) t161 _ ?bb42 ?oo42 ?side1 A6.out).mono ?_); (case side1 => exact (by (with_reducible repeat (first | apply za | apply zb | apply zc)); exact HO159.out)); rintro e w13 ⟨v162, rfl, rfl, ho0, hg⟩; refine ⟨_, rfl, ?_⟩; have n0_ := zm ho0; have n1_ := zm (blk_grown (g := gb156) (o := .cells #[.int .i64 a1_0, .int .i64 a1_1, .int .i64 a1_2, .int .i64 a1_3] 31 (0, 0)) (by (with_reducible repeat (first | refine zd ?_ _ | refine ze ?_ | refine zf ?_ _)); exact BK156.out) hg (Kd.R_away HO159.out (fun _ hk => hk.2))); have n2_ := zm (pw_below_grown (by repeat (first | (with_reducible first | exact HB.out | apply zg | apply zh | apply zi | refine zy ?_ GE156.out) | exact HB.out)) _ (zx (by repeat (first | (with_reducible first | exact HB.out | apply zg | apply zh | apply zi | refine zy ?_ GE156.out) | exact HB.out))) hg (fun k hk => zt HO159.out k hk)); clear HO159; clear BK156; clear HB; have HO159 := n0_; have BK156 := n1_; have HB := n2_; clear n0_ n1_ n2_; clear hg ho0; have hcz14_0 : w13.cell? ⟨gb156, 0, none⟩ = some (.int .i64 a1_0) := (yG BK156.out 0).trans rfl; have hcz14_1 : w13.cell? ⟨gb156, 1, none⟩ = some (.int .i64 a1_1) := (yG BK156.out 1).trans rfl; have hcz14_2 : w13.cell? ⟨gb156, 2, none⟩ = some (.int .i64 a1_2) := (yG BK156.out 2).trans rfl; have hcz14_3 : w13.cell? ⟨gb156, 3, none⟩ = some (.int .i64 a1_3) := (yG BK156.out 3).trans rfl; have hfz14_0 := zH BK156.out 0; have hfz14_1 := zH BK156.out 1; have hfz14_2 := zH BK156.out 2; have hfz14_3 := zH BK156.out 3) | ((with_reducible refine gate_builtin (b := .append) (xs := #[.tmp 27, .tmp 29]) rfl ?_); at_builtin; refine Kd.R_append k31 (w0 := w) w.heap.size rfl (.tmp 27) (.tmp 29) 26 31 (.agg #[(.int .i64 0), (.int .i64 0), (.int .i64 0), (.int .i64 0)]) 32 rfl Try.underlying26 info31 rfl (by decide) (by omega) (.slice Ao11 t161.length co11) t161 (⟨a1_0, a1_1, a1_2, a1_3⟩ : S31) [.int .i64 a1_0, .int .i64 a1_1, .int .i64 a1_2, .int .i64 a1_3] (fun k_ => k_ ≠ gb156) (fun _ => False) rfl rfl ?aP (fun _ hk => hk.elim) ?aF ?aO ?aB ?aS ?aL ?_; (case aP => exact k31_mkM _ _ _ (⟨a1_0, a1_1, a1_2, a1_3⟩ : S31)); (case aB => exact (by repeat (first | (with_reducible first | exact HB.out | apply zg | apply zh | apply zi | refine zy ?_ GE156.out) | exact HB.out))); (case aF => exact (fun k_ hk => Kd.freshB (g := gb156) (o := .cells #[.int .i64 a1_0, .int .i64 a1_1, .int .i64 a1_2, .int .i64 a1_3] 31 (0, 0)) (by (with_reducible repeat (first | refine zd ?_ _ | refine ze ?_ | refine zf ?_ _)); exact BK156.out) k_ hk)); (case aO => exact (by (with_reducible repeat (first | apply za | apply zb | apply zc)); exact zr HO159.out (fun _ hk => hk.2))); (case aS => exact (zx (by repeat (first | (with_reducible first | exact HB.out | apply zg | apply zh | apply zi | refine zy ?_ GE156.out) | exact HB.out)))); (case aL => have := LMc7.out; omega); intro v174 w34 ho hb hg hat; rw [← Ny164.out] at ho; have n0_ := zm (blk_grown (g := gb156) (o := .cells #[.int .i64 a1_0, .int .i64 a1_1, .int .i64 a1_2, .int .i64 a1_3] 31 (0, 0)) (by (with_reducible repeat (first | refine zd ?_ _ | refine ze ?_ | refine zf ?_ _)); exact BK156.out) hg (Kd.R_away HO159.out (fun _ hk => hk.2))); have n1_ := zm (hb); have n2_ := zm (ho); clear BK156; clear HB; clear HO159; have BK156 := n0_; have HB := n1_; have HO166 := n2_; clear n0_ n1_ n2_; clear ho hb hg hat))
   go_ret
   exact ⟨_, by first | rfl | (simp [errW_none, errW_some] <;> rfl) | (simp [*, errW_none, errW_some] <;> rfl), by (with_reducible repeat (first | apply za | apply zb | apply zc)); exact zr HO166.out (fun _ hk => trivial), by repeat (first | (with_reducible first | exact HB.out | apply zg | apply zh | apply zi | refine zy ?_ GE156.out) | exact HB.out)⟩
  ·rw [if_neg c7] at H
   exact absurd H (by simp)
 ·rw [if_neg c5] at H
  have c5b0 : decide (0 ≤ t160) = false := decide_eq_false c5
  clear c5
  by_cases c16 : (t157.length : Int) = 12
  ·rw [if_pos c16] at H
   have c16b0 : ((t157.length : Int) == 12) = true := beq_iff_eq.mpr c16
   have c16b1 : ((t157.length : Int) != 12) = false := bne_eq_false_iff_eq.mpr c16
   clear c16
   replace H := yH.mp H
   obtain ⟨t167, A170, H⟩ := H
   try dsimp only at H
   have A17 := zm A170
   clear A170
   by_cases c18 : t167.length < 4398046511104
   ·rw [if_pos c18] at H
    have LMc18 := zm c18
    clear c18
    obtain ⟨y170, hy170⟩ : ∃ y_ : List (S31), y_ = (t167 ++ [(⟨a1_0, a1_1, a1_2, a1_3⟩ : S31)]) := ⟨_, rfl⟩
    replace H : (some y170) = some r := by first | (rw [hy170]; with_reducible exact H) | (have H2_ := (Option.bind_some _ _).symm.trans H; rw [hy170]; with_reducible exact H2_) | (have H2_ := (Option.bind_some _ _).symm.trans H; with_reducible exact H2_) | with_reducible exact H | (rw [hy170]; exact H) | exact H
    have Ny170 := zm hy170
    clear hy170
    obtain rfl := Option.some.inj H
    go_enter Try.func37, Try.ntmps37
    go_wp2_with (first | ((with_reducible refine gate_dst (N := 3) rfl ?_); refine box_event ?hg (N := 3) ?hd (cs := #[.int .i64 a1_0, .int .i64 a1_1, .int .i64 a1_2, .int .i64 a1_3]) (t := 31) ?hr ?_; (case hd => rfl); (case hg => rfl); (case hr => first | (go_simp; done) | (go_simp; rfl)); intro gb156 hg w19 hbox hb; have n0_ := zm (zw (by repeat (first | (with_reducible first | exact HB.out | apply zg | apply zh | apply zi) | exact HB.out)) hb); have n1_ := zm (hbox); have n2_ := zm ((by rw [hg]; exact (zx (by repeat (first | (with_reducible first | exact HB.out | apply zg | apply zh | apply zi) | exact HB.out))) : w.heap.size ≤ gb156)); have n3_ := zm ((by rw [hg]; exact (zx (by repeat (first | (with_reducible first | exact HB.out | apply zg | apply zh | apply zi) | exact HB.out))) : w.heap.size ≤ gb156)); clear HB; have HB := n0_; have BK156 := n1_; have GW156 := n2_; have GE156 := n3_; clear n0_ n1_ n2_ n3_; clear hb hbox hg) | ((with_reducible refine gate_callee (f := 45) rfl ?_); refine goesL_ (some 8) rfl rfl Try.func45 (by kernel_rfl) rfl #[.slice A0 l0.length c0] rfl (by (try simp only [zA, zB, zC]); first | done | rfl | (simp only [zE, zD]; rfl)) ?_; (with_reducible refine (impl_Hit_45.calls _ _ l0 t157 _ ?side1 ?side2 A3.out).mono ?_); (case side1 => repeat (first | exact (Kd.C_below HR0.out HB.out) | (with_reducible first | refine zj ?_ _ | refine zk ?_ _ | refine zl ?_))); (case side2 => exact HC0.out); rintro e w20 ⟨v158, rfl, ho0, hb⟩; refine ⟨_, rfl, ?_⟩; have n0_ := zm (zz (Kd.R_newB ho0 (g := gb156) (o := .cells #[.int .i64 a1_0, .int .i64 a1_1, .int .i64 a1_2, .int .i64 a1_3] 31 (0, 0)) (by (with_reducible repeat (first | refine zd ?_ _ | refine ze ?_ | refine zf ?_ _)); exact BK156.out)) (zx (by repeat (first | (with_reducible first | exact HB.out | apply zg | apply zh | apply zi | refine zy ?_ GE156.out) | exact HB.out)))); have n1_ := zm (zu (g := gb156) (o := .cells #[.int .i64 a1_0, .int .i64 a1_1, .int .i64 a1_2, .int .i64 a1_3] 31 (0, 0)) (by (with_reducible repeat (first | refine zd ?_ _ | refine ze ?_ | refine zf ?_ _)); exact BK156.out) hb); have n2_ := zm (zw (by repeat (first | (with_reducible first | exact HB.out | apply zg | apply zh | apply zi | refine zy ?_ GE156.out) | exact HB.out)) hb); clear BK156; clear HB; have HO159 := n0_; have BK156 := n1_; have HB := n2_; clear n0_ n1_ n2_; (try clear hb); (try clear hb2); (try clear hk); (try clear hi); (try clear ho0); have hcz21_0 : w20.cell? ⟨gb156, 0, none⟩ = some (.int .i64 a1_0) := (yG BK156.out 0).trans rfl; have hcz21_1 : w20.cell? ⟨gb156, 1, none⟩ = some (.int .i64 a1_1) := (yG BK156.out 1).trans rfl; have hcz21_2 : w20.cell? ⟨gb156, 2, none⟩ = some (.int .i64 a1_2) := (yG BK156.out 2).trans rfl; have hcz21_3 : w20.cell? ⟨gb156, 3, none⟩ = some (.int .i64 a1_3) := (yG BK156.out 3).trans rfl; have hfz21_0 := zH BK156.out 0; have hfz21_1 := zH BK156.out 1; have hfz21_2 := zH BK156.out 2; have hfz21_3 := zH BK156.out 3; obtain ⟨Ao22, co22, eo22⟩ := Kd.R_slice HO159.out; subst eo22) | ((with_reducible refine gate_callee (f := 41) rfl ?_); refine goesL_ (some 14) rfl rfl Try.func41 (by kernel_rfl) rfl #[.slice Ao22 t157.length co22, .int .i64 a1_0, .int .i64 a1_1] rfl (by (try simp only [zA, zB, zC]); first | done | rfl | (simp only [zE, zD]; rfl)) ?_; (with_reducible refine (impl_hitAt.calls _ _ t157 a1_0 a1_1 t160 _ ?side1 ?side2 A4.out).mono ?_); (case side1 => repeat (first | exact (zF HO159.out).2.2 | (with_reducible first | refine zj ?_ _ | refine zk ?_ _ | refine zl ?_))); (case side2 => exact (zF HO159.out).2.1); rintro e w23 ⟨rfl, hb⟩; refine ⟨_, rfl, ?_⟩; have n0_ := zm (zp (by (with_reducible repeat (first | apply za | apply zb | apply zc)); exact HO159.out) hb); have n1_ := zm (zu (g := gb156) (o := .cells #[.int .i64 a1_0, .int .i64 a1_1, .int .i64 a1_2, .int .i64 a1_3] 31 (0, 0)) (by (with_reducible repeat (first | refine zd ?_ _ | refine ze ?_ | refine zf ?_ _)); exact BK156.out) hb); have n2_ := zm (zw (by repeat (first | (with_reducible first | exact HB.out | apply zg | apply zh | apply zi | refine zy ?_ GE156.out) | exact HB.out)) hb); clear HO159; clear BK156; clear HB; have HO159 := n0_; have BK156 := n1_; have HB := n2_; clear n0_ n1_ n2_; (try clear hb); (try clear hb2); (try clear hk); (try clear hi)) | ((with_reducible refine gate_callee (f := 58) rfl ?_); refine goesL_ (some 26) rfl rfl Try.func58 (by kernel_rfl) rfl #[.slice Ao22 t157.length co22, .int .i64 0, .int .i64 1] rfl (by (try simp only [zA, zB, zC]); first | done | rfl | (simp only [zE, zD]; rfl)) ?_; (with_reducible refine (impl_Hit_58.calls _ _ t157 0 1 t167 _ ?bb70 ?oo70 ?side1 A17.out).mono ?_); (case side1 => exact (by (with_reducible repeat (first | apply za | apply zb | apply zc)); exact HO159.out)); rintro e w24 ⟨v168, rfl, rfl, ho0, hg⟩; refine ⟨_, rfl, ?_⟩; have n0_ := zm ho0; have n1_ := zm (blk_grown (g := gb156) (o := .cells #[.int .i64 a1_0, .int .i64 a1_1, .int .i64 a1_2, .int .i64 a1_3] 31 (0, 0)) (by (with_reducible repeat (first | refine zd ?_ _ | refine ze ?_ | refine zf ?_ _)); exact BK156.out) hg (Kd.R_away HO159.out (fun _ hk => hk.2))); have n2_ := zm (pw_below_grown (by repeat (first | (with_reducible first | exact HB.out | apply zg | apply zh | apply zi | refine zy ?_ GE156.out) | exact HB.out)) _ (zx (by repeat (first | (with_reducible first | exact HB.out | apply zg | apply zh | apply zi | refine zy ?_ GE156.out) | exact HB.out))) hg (fun k hk => zt HO159.out k hk)); clear HO159; clear BK156; clear HB; have HO159 := n0_; have BK156 := n1_; have HB := n2_; clear n0_ n1_ n2_; clear hg ho0; have hcz25_0 : w24.cell? ⟨gb156, 0, none⟩ = some (.int .i64 a1_0) := (yG BK156.out 0).trans rfl; have hcz25_1 : w24.cell? ⟨gb156, 1, none⟩ = some (.int .i64 a1_1) := (yG BK156.out 1).trans rfl; have hcz25_2 : w24.cell? ⟨gb156, 2, none⟩ = some (.int .i64 a1_2) := (yG BK156.out 2).trans rfl; have hcz25_3 : w24.cell? ⟨gb156, 3, none⟩ = some (.int .i64 a1_3) := (yG BK156.out 3).trans rfl; have hfz25_0 := zH BK156.out 0; have hfz25_1 := zH BK156.out 1; have hfz25_2 := zH BK156.out 2; have hfz25_3 := zH BK156.out 3) | ((with_reducible refine gate_builtin (b := .append) (xs := #[.tmp 27, .tmp 29]) rfl ?_); at_builtin; refine Kd.R_append k31 (w0 := w) w.heap.size rfl (.tmp 27) (.tmp 29) 26 31 (.agg #[(.int .i64 0), (.int .i64 0), (.int .i64 0), (.int .i64 0)]) 32 rfl Try.underlying26 info31 rfl (by decide) (by omega) (.slice Ao22 t167.length co22) t167 (⟨a1_0, a1_1, a1_2, a1_3⟩ : S31) [.int .i64 a1_0, .int .i64 a1_1, .int .i64 a1_2, .int .i64 a1_3] (fun k_ => k_ ≠ gb156) (fun _ => False) rfl rfl ?aP (fun _ hk => hk.elim) ?aF ?aO ?aB ?aS ?aL ?_; (case aP => exact k31_mkM _ _ _ (⟨a1_0, a1_1, a1_2, a1_3⟩ : S31)); (case aB => exact (by repeat (first | (with_reducible first | exact HB.out | apply zg | apply zh | apply zi | refine zy ?_ GE156.out) | exact HB.out))); (case aF => exact (fun k_ hk => Kd.freshB (g := gb156) (o := .cells #[.int .i64 a1_0, .int .i64 a1_1, .int .i64 a1_2, .int .i64 a1_3] 31 (0, 0)) (by (with_reducible repeat (first | refine zd ?_ _ | refine ze ?_ | refine zf ?_ _)); exact BK156.out) k_ hk)); (case aO => exact (by (with_reducible repeat (first | apply za | apply zb | apply zc)); exact zr HO159.out (fun _ hk => hk.2))); (case aS => exact (zx (by repeat (first | (with_reducible first | exact HB.out | apply zg | apply zh | apply zi | refine zy ?_ GE156.out) | exact HB.out)))); (case aL => have := LMc18.out; omega); intro v174 w34 ho hb hg hat; rw [← Ny170.out] at ho; have n0_ := zm (blk_grown (g := gb156) (o := .cells #[.int .i64 a1_0, .int .i64 a1_1, .int .i64 a1_2, .int .i64 a1_3] 31 (0, 0)) (by (with_reducible repeat (first | refine zd ?_ _ | refine ze ?_ | refine zf ?_ _)); exact BK156.out) hg (Kd.R_away HO159.out (fun _ hk => hk.2))); have n1_ := zm (hb); have n2_ := zm (ho); clear BK156; clear HB; clear HO159; have BK156 := n0_; have HB := n1_; have HO172 := n2_; clear n0_ n1_ n2_; clear ho hb hg hat))
    go_ret
    exact ⟨_, by first | rfl | (simp [errW_none, errW_some] <;> rfl) | (simp [*, errW_none, errW_some] <;> rfl), by (with_reducible repeat (first | apply za | apply zb | apply zc)); exact zr HO172.out (fun _ hk => trivial), by repeat (first | (with_reducible first | exact HB.out | apply zg | apply zh | apply zi | refine zy ?_ GE156.out) | exact HB.out)⟩
   ·rw [if_neg c18] at H
    exact absurd H (by simp)
  ·rw [if_neg c16] at H
   have c16b0 : ((t157.length : Int) == 12) = false := beq_eq_false_iff_ne.mpr c16
   have c16b1 : ((t157.length : Int) != 12) = true := bne_iff_ne.mpr c16
   by_cases c27 : t157.length < 4398046511104
   ·rw [if_pos c27] at H
    have LMc27 := zm c27
    clear c27
    obtain ⟨y173, hy173⟩ : ∃ y_ : List (S31), y_ = (t157 ++ [(⟨a1_0, a1_1, a1_2, a1_3⟩ : S31)]) := ⟨_, rfl⟩
    replace H : (some y173) = some r := by first | (rw [hy173]; with_reducible exact H) | (have H2_ := (Option.bind_some _ _).symm.trans H; rw [hy173]; with_reducible exact H2_) | (have H2_ := (Option.bind_some _ _).symm.trans H; with_reducible exact H2_) | with_reducible exact H | (rw [hy173]; exact H) | exact H
    have Ny173 := zm hy173
    clear hy173
    obtain rfl := Option.some.inj H
    go_enter Try.func37, Try.ntmps37
    go_wp2_with (first | ((with_reducible refine gate_dst (N := 3) rfl ?_); refine box_event ?hg (N := 3) ?hd (cs := #[.int .i64 a1_0, .int .i64 a1_1, .int .i64 a1_2, .int .i64 a1_3]) (t := 31) ?hr ?_; (case hd => rfl); (case hg => rfl); (case hr => first | (go_simp; done) | (go_simp; rfl)); intro gb156 hg w28 hbox hb; have n0_ := zm (zw (by repeat (first | (with_reducible first | exact HB.out | apply zg | apply zh | apply zi) | exact HB.out)) hb); have n1_ := zm (hbox); have n2_ := zm ((by rw [hg]; exact (zx (by repeat (first | (with_reducible first | exact HB.out | apply zg | apply zh | apply zi) | exact HB.out))) : w.heap.size ≤ gb156)); have n3_ := zm ((by rw [hg]; exact (zx (by repeat (first | (with_reducible first | exact HB.out | apply zg | apply zh | apply zi) | exact HB.out))) : w.heap.size ≤ gb156)); clear HB; have HB := n0_; have BK156 := n1_; have GW156 := n2_; have GE156 := n3_; clear n0_ n1_ n2_ n3_; clear hb hbox hg) | ((with_reducible refine gate_callee (f := 45) rfl ?_); refine goesL_ (some 8) rfl rfl Try.func45 (by kernel_rfl) rfl #[.slice A0 l0.length c0] rfl (by (try simp only [zA, zB, zC]); first | done | rfl | (simp only [zE, zD]; rfl)) ?_; (with_reducible refine (impl_Hit_45.calls _ _ l0 t157 _ ?side1 ?side2 A3.out).mono ?_); (case side1 => repeat (first | exact (Kd.C_below HR0.out HB.out) | (with_reducible first | refine zj ?_ _ | refine zk ?_ _ | refine zl ?_))); (case side2 => exact HC0.out); rintro e w29 ⟨v158, rfl, ho0, hb⟩; refine ⟨_, rfl, ?_⟩; have n0_ := zm (zz (Kd.R_newB ho0 (g := gb156) (o := .cells #[.int .i64 a1_0, .int .i64 a1_1, .int .i64 a1_2, .int .i64 a1_3] 31 (0, 0)) (by (with_reducible repeat (first | refine zd ?_ _ | refine ze ?_ | refine zf ?_ _)); exact BK156.out)) (zx (by repeat (first | (with_reducible first | exact HB.out | apply zg | apply zh | apply zi | refine zy ?_ GE156.out) | exact HB.out)))); have n1_ := zm (zu (g := gb156) (o := .cells #[.int .i64 a1_0, .int .i64 a1_1, .int .i64 a1_2, .int .i64 a1_3] 31 (0, 0)) (by (with_reducible repeat (first | refine zd ?_ _ | refine ze ?_ | refine zf ?_ _)); exact BK156.out) hb); have n2_ := zm (zw (by repeat (first | (with_reducible first | exact HB.out | apply zg | apply zh | apply zi | refine zy ?_ GE156.out) | exact HB.out)) hb); clear BK156; clear HB; have HO159 := n0_; have BK156 := n1_; have HB := n2_; clear n0_ n1_ n2_; (try clear hb); (try clear hb2); (try clear hk); (try clear hi); (try clear ho0); have hcz30_0 : w29.cell? ⟨gb156, 0, none⟩ = some (.int .i64 a1_0) := (yG BK156.out 0).trans rfl; have hcz30_1 : w29.cell? ⟨gb156, 1, none⟩ = some (.int .i64 a1_1) := (yG BK156.out 1).trans rfl; have hcz30_2 : w29.cell? ⟨gb156, 2, none⟩ = some (.int .i64 a1_2) := (yG BK156.out 2).trans rfl; have hcz30_3 : w29.cell? ⟨gb156, 3, none⟩ = some (.int .i64 a1_3) := (yG BK156.out 3).trans rfl; have hfz30_0 := zH BK156.out 0; have hfz30_1 := zH BK156.out 1; have hfz30_2 := zH BK156.out 2; have hfz30_3 := zH BK156.out 3; obtain ⟨Ao31, co31, eo31⟩ := Kd.R_slice HO159.out; subst eo31) | ((with_reducible refine gate_callee (f := 41) rfl ?_); refine goesL_ (some 14) rfl rfl Try.func41 (by kernel_rfl) rfl #[.slice Ao31 t157.length co31, .int .i64 a1_0, .int .i64 a1_1] rfl (by (try simp only [zA, zB, zC]); first | done | rfl | (simp only [zE, zD]; rfl)) ?_; (with_reducible refine (impl_hitAt.calls _ _ t157 a1_0 a1_1 t160 _ ?side1 ?side2 A4.out).mono ?_); (case side1 => repeat (first | exact (zF HO159.out).2.2 | (with_reducible first | refine zj ?_ _ | refine zk ?_ _ | refine zl ?_))); (case side2 => exact (zF HO159.out).2.1); rintro e w32 ⟨rfl, hb⟩; refine ⟨_, rfl, ?_⟩; have n0_ := zm (zp (by (with_reducible repeat (first | apply za | apply zb | apply zc)); exact HO159.out) hb); have n1_ := zm (zu (g := gb156) (o := .cells #[.int .i64 a1_0, .int .i64 a1_1, .int .i64 a1_2, .int .i64 a1_3] 31 (0, 0)) (by (with_reducible repeat (first | refine zd ?_ _ | refine ze ?_ | refine zf ?_ _)); exact BK156.out) hb); have n2_ := zm (zw (by repeat (first | (with_reducible first | exact HB.out | apply zg | apply zh | apply zi | refine zy ?_ GE156.out) | exact HB.out)) hb); clear HO159; clear BK156; clear HB; have HO159 := n0_; have BK156 := n1_; have HB := n2_; clear n0_ n1_ n2_; (try clear hb); (try clear hb2); (try clear hk); (try clear hi); have hcz33_0 : w32.cell? ⟨gb156, 0, none⟩ = some (.int .i64 a1_0) := (yG BK156.out 0).trans rfl; have hcz33_1 : w32.cell? ⟨gb156, 1, none⟩ = some (.int .i64 a1_1) := (yG BK156.out 1).trans rfl; have hcz33_2 : w32.cell? ⟨gb156, 2, none⟩ = some (.int .i64 a1_2) := (yG BK156.out 2).trans rfl; have hcz33_3 : w32.cell? ⟨gb156, 3, none⟩ = some (.int .i64 a1_3) := (yG BK156.out 3).trans rfl; have hfz33_0 := zH BK156.out 0; have hfz33_1 := zH BK156.out 1; have hfz33_2 := zH BK156.out 2; have hfz33_3 := zH BK156.out 3) | ((with_reducible refine gate_builtin (b := .append) (xs := #[.tmp 27, .tmp 29]) rfl ?_); at_builtin; refine Kd.R_append k31 (w0 := w) w.heap.size rfl (.tmp 27) (.tmp 29) 26 31 (.agg #[(.int .i64 0), (.int .i64 0), (.int .i64 0), (.int .i64 0)]) 32 rfl Try.underlying26 info31 rfl (by decide) (by omega) (.slice Ao31 t157.length co31) t157 (⟨a1_0, a1_1, a1_2, a1_3⟩ : S31) [.int .i64 a1_0, .int .i64 a1_1, .int .i64 a1_2, .int .i64 a1_3] (fun k_ => k_ ≠ gb156) (fun _ => False) rfl rfl ?aP (fun _ hk => hk.elim) ?aF ?aO ?aB ?aS ?aL ?_; (case aP => exact k31_mkM _ _ _ (⟨a1_0, a1_1, a1_2, a1_3⟩ : S31)); (case aB => exact (by repeat (first | (with_reducible first | exact HB.out | apply zg | apply zh | apply zi | refine zy ?_ GE156.out) | exact HB.out))); (case aF => exact (fun k_ hk => Kd.freshB (g := gb156) (o := .cells #[.int .i64 a1_0, .int .i64 a1_1, .int .i64 a1_2, .int .i64 a1_3] 31 (0, 0)) (by (with_reducible repeat (first | refine zd ?_ _ | refine ze ?_ | refine zf ?_ _)); exact BK156.out) k_ hk)); (case aO => exact (by (with_reducible repeat (first | apply za | apply zb | apply zc)); exact zr HO159.out (fun _ hk => hk.2))); (case aS => exact (zx (by repeat (first | (with_reducible first | exact HB.out | apply zg | apply zh | apply zi | refine zy ?_ GE156.out) | exact HB.out)))); (case aL => have := LMc27.out; omega); intro v174 w34 ho hb hg hat; rw [← Ny173.out] at ho; have n0_ := zm (blk_grown (g := gb156) (o := .cells #[.int .i64 a1_0, .int .i64 a1_1, .int .i64 a1_2, .int .i64 a1_3] 31 (0, 0)) (by (with_reducible repeat (first | refine zd ?_ _ | refine ze ?_ | refine zf ?_ _)); exact BK156.out) hg (Kd.R_away HO159.out (fun _ hk => hk.2))); have n1_ := zm (hb); have n2_ := zm (ho); clear BK156; clear HB; clear HO159; have BK156 := n0_; have HB := n1_; have HO175 := n2_; clear n0_ n1_ n2_; clear ho hb hg hat))
    go_ret
    exact ⟨_, by first | rfl | (simp [errW_none, errW_some] <;> rfl) | (simp [*, errW_none, errW_some] <;> rfl), by (with_reducible repeat (first | apply za | apply zb | apply zc)); exact zr HO175.out (fun _ hk => trivial), by repeat (first | (with_reducible first | exact HB.out | apply zg | apply zh | apply zi | refine zy ?_ GE156.out) | exact HB.out)⟩
   ·rw [if_neg c27] at H
    exact absurd H (by simp)

/-! ### impl_FillCache: function 13 -/
def impl_FillCache.f (k : Nat) (l0 : List (S31)) (a1_0 : Int) (a1_1 : Int) (a1_2 : Int) (a1_3 : Int) : Option (Int × Int × Bool × (List (S31))) := (impl_CacheFault.f k l0).bind fun t178 => ((impl_hitFault.f a1_0 a1_1 a1_2 a1_3).bind fun t179 => ((impl_firstOf.f k (([t178, t179] : List Int))).bind fun t183 => (if t183 = 0 then ((impl_filled.f l0 a1_0 a1_1 a1_2 a1_3).bind fun t184 => (some (0, 0, false, t184))) else (some (t183, 0, false, ([] : List (S31)))))))
theorem impl_FillCache.mono : ∀ a0 a1 a2 a3 a4 k, LeO (impl_FillCache.f k a0 a1 a2 a3 a4) (impl_FillCache.f (k + 1) a0 a1 a2 a3 a4) := by
  intro a0 a1 a2 a3 a4 k
  unfold impl_FillCache.f
  repeat' first
      | (with_reducible exact impl_CacheFault.mono _ _)
      | (with_reducible exact impl_firstOf.mono _ _)
      | (with_reducible exact LeO.refl _)
      | (with_reducible exact LeO.none _)
      | (with_reducible refine LeO.ite ?_ ?_)
      | (with_reducible refine LeO.bind ?_ (fun _ => ?_))
      | exact impl_CacheFault.mono _ _
      | exact impl_firstOf.mono _ _
      | exact LeO.none _
      | refine LeO.ite ?_ ?_
      | refine LeO.bind ?_ (fun _ => ?_)
set_option maxHeartbeats 8000000 in
set_option maxRecDepth 100000 in
theorem impl_FillCache.calls (k : Nat) (A0 : Option Addr) (c0 : Nat) (l0 : List (S31)) (a1_0 : Int) (a1_1 : Int) (a1_2 : Int) (a1_3 : Int) (r1 : Int) (r2 : Int) (r3 : Bool) (r4 : List (S31)) (w : World) (hr0 : Kd.C k31 w A0 l0.length l0) (hc0 : l0.length ≤ c0) (h : impl_FillCache.f k l0 a1_0 a1_1 a1_2 a1_3 = some (r1, r2, r3, r4)) :
  Calls Try.prog 13 #[.slice A0 l0.length c0, .agg #[.int .i64 a1_0, .int .i64 a1_1, .int .i64 a1_2, .int .i64 a1_3]] w fun e w' => ∃ v3_ : Value, e = .returned (.agg #[.int .i64 r1, .int .i64 r2, .bool r3, v3_]) ∧ Kd.R k31 31 w' w.heap.size (fun _ => True) v3_ r4 ∧ Below w.heap.size w w' := by
 have hu31 := Try.underlying31
 have hu28 := Try.underlying28
 have HR0 := zm hr0
 have HC0 := zm hc0
 clear hr0 hc0
 have HB := zm (Below.refl w.heap.size w)
 have H : ((impl_CacheFault.f k l0).bind fun t178 => ((impl_hitFault.f a1_0 a1_1 a1_2 a1_3).bind fun t179 => ((impl_firstOf.f k (([t178, t179] : List Int))).bind fun t183 => (if t183 = 0 then ((impl_filled.f l0 a1_0 a1_1 a1_2 a1_3).bind fun t184 => (some (0, 0, false, t184))) else (some (t183, 0, false, ([] : List (S31)))))))) = some (r1, r2, r3, r4) := h
 clear h
 replace H := yH.mp H
 obtain ⟨t178, A30, H⟩ := H
 replace H : ((impl_hitFault.f a1_0 a1_1 a1_2 a1_3).bind fun t179 => ((impl_firstOf.f k (([t178, t179] : List Int))).bind fun t183 => (if t183 = 0 then ((impl_filled.f l0 a1_0 a1_1 a1_2 a1_3).bind fun t184 => (some (0, 0, false, t184))) else (some (t183, 0, false, ([] : List (S31))))))) = some (r1, r2, r3, r4) := H
 have A3 := zm A30
 clear A30
 replace H := yH.mp H
 obtain ⟨t179, A40, H⟩ := H
 replace H : ((impl_firstOf.f k (([t178, t179] : List Int))).bind fun t183 => (if t183 = 0 then ((impl_filled.f l0 a1_0 a1_1 a1_2 a1_3).bind fun t184 => (some (0, 0, false, t184))) else (some (t183, 0, false, ([] : List (S31)))))) = some (r1, r2, r3, r4) := H
 have A4 := zm A40
 clear A40
 obtain ⟨y180, hy180⟩ : ∃ y_ : List Int, y_ = (([t178, t179] : List Int)) := ⟨_, rfl⟩
 replace H : ((impl_firstOf.f k y180).bind fun t183 => (if t183 = 0 then ((impl_filled.f l0 a1_0 a1_1 a1_2 a1_3).bind fun t184 => (some (0, 0, false, t184))) else (some (t183, 0, false, ([] : List (S31)))))) = some (r1, r2, r3, r4) := by first | (rw [hy180]; with_reducible exact H) | (have H2_ := (Option.bind_some _ _).symm.trans H; rw [hy180]; with_reducible exact H2_) | (have H2_ := (Option.bind_some _ _).symm.trans H; with_reducible exact H2_) | with_reducible exact H | (rw [hy180]; exact H) | exact H
 have Ny180 := zm hy180
 clear hy180
 replace H := yH.mp H
 obtain ⟨t183, A50, H⟩ := H
 replace H : (if t183 = 0 then ((impl_filled.f l0 a1_0 a1_1 a1_2 a1_3).bind fun t184 => (some (0, 0, false, t184))) else (some (t183, 0, false, ([] : List (S31))))) = some (r1, r2, r3, r4) := H
 have A5 := zm A50
 clear A50
 by_cases c6 : t183 = 0
 ·rw [if_pos c6] at H
  have c6b0 : (t183 == 0) = true := beq_iff_eq.mpr c6
  have c6b1 : (t183 != 0) = false := bne_eq_false_iff_eq.mpr c6
  clear c6
  replace H := yH.mp H
  obtain ⟨t184, A70, H⟩ := H
  replace H : (some (0, 0, false, t184)) = some (r1, r2, r3, r4) := H
  have A7 := zm A70
  clear A70
  simp only [Option.some.injEq, Prod.mk.injEq] at H
  obtain ⟨rfl, rfl, rfl, rfl⟩ := H
  go_enter Try.func13, Try.ntmps13
  try go_wp2_with (first | ((with_reducible refine gate_dst (N := 3) rfl ?_); refine box_event ?hg (N := 3) ?hd (cs := #[.int .i64 a1_0, .int .i64 a1_1, .int .i64 a1_2, .int .i64 a1_3]) (t := 31) ?hr ?_; (case hd => rfl); (case hg => rfl); (case hr => first | (go_simp; done) | (go_simp; rfl)); intro gb176 hg w8 hbox hb; have n0_ := zm (zw (by repeat (first | (with_reducible first | exact HB.out | apply zg | apply zh | apply zi) | exact HB.out)) hb); have n1_ := zm (hbox); have n2_ := zm ((by rw [hg]; exact (zx (by repeat (first | (with_reducible first | exact HB.out | apply zg | apply zh | apply zi) | exact HB.out))) : w.heap.size ≤ gb176)); have n3_ := zm ((by rw [hg]; exact (zx (by repeat (first | (with_reducible first | exact HB.out | apply zg | apply zh | apply zi) | exact HB.out))) : w.heap.size ≤ gb176)); clear HB; have HB := n0_; have BK176 := n1_; have GW176 := n2_; have GE176 := n3_; clear n0_ n1_ n2_ n3_; clear hb hbox hg) | ((with_reducible refine gate_dst (N := 4) rfl ?_); refine box_event ?hg (N := 4) ?hd (cs := #[.int .i64 0, .int .i64 0, .bool false, .slice none 0 0]) (t := 28) ?hr ?_; (case hd => rfl); (case hg => rfl); (case hr => first | (go_simp; done) | (go_simp; rfl)); intro gb177 hg w9 hbox hb; have n0_ := zm (zu (g := gb176) (o := .cells #[.int .i64 a1_0, .int .i64 a1_1, .int .i64 a1_2, .int .i64 a1_3] 31 (0, 0)) (by (with_reducible repeat (first | refine zd ?_ _ | refine ze ?_ | refine zf ?_ _)); exact BK176.out) hb); have n1_ := zm (zw (by repeat (first | (with_reducible first | exact HB.out | apply zg | apply zh | apply zi | refine zy ?_ GE176.out) | exact HB.out)) hb); have n2_ := zm (hbox); have n3_ := zm ((by rw [hg]; exact (zx (by repeat (first | (with_reducible first | exact HB.out | apply zg | apply zh | apply zi | refine zy ?_ GE176.out) | exact HB.out))) : w.heap.size ≤ gb177)); have n4_ := zm ((by rw [hg]; exact (zx (by repeat (first | (with_reducible first | exact HB.out | apply zg | apply zh | apply zi | refine zy ?_ GE176.out) | exact HB.out))) : w.heap.size ≤ gb177)); have n5_ := zm ((by rw [hg]; exact Nat.ne_of_lt (zv (g := gb176) (o := .cells #[.int .i64 a1_0, .int .i64 a1_1, .int .i64 a1_2, .int .i64 a1_3] 31 (0, 0)) (by (with_reducible repeat (first | refine zd ?_ _ | refine ze ?_ | refine zf ?_ _)); exact BK176.out)) : gb176 ≠ gb177)); have n6_ := zm ((by rw [hg]; exact Nat.ne_of_gt (zv (g := gb176) (o := .cells #[.int .i64 a1_0, .int .i64 a1_1, .int .i64 a1_2, .int .i64 a1_3] 31 (0, 0)) (by (with_reducible repeat (first | refine zd ?_ _ | refine ze ?_ | refine zf ?_ _)); exact BK176.out)) : gb177 ≠ gb176)); clear BK176; clear HB; have BK176 := n0_; have HB := n1_; have BK177 := n2_; have GW177 := n3_; have GE177 := n4_; have NB176_177 := n5_; have NB177_176 := n6_; clear n0_ n1_ n2_ n3_ n4_ n5_ n6_; clear hb hbox hg))
  have n0_ := zm (blk_drew BK176.out)
  have n1_ := zm (blk_drew BK177.out)
  have n2_ := zm (below_drew1 HB.out)
  clear BK176
  clear BK177
  clear HB
  have BK176 := n0_
  have BK177 := n1_
  have HB := n2_
  clear n0_ n1_ n2_
  refine start_ (n := 7) (S := fun w' => w'.cell? ⟨gb176, 0, none⟩ = some (.int .i64 a1_0) ∧ w'.cell? ⟨gb176, 1, none⟩ = some (.int .i64 a1_1) ∧ w'.cell? ⟨gb176, 2, none⟩ = some (.int .i64 a1_2) ∧ w'.cell? ⟨gb176, 3, none⟩ = some (.int .i64 a1_3)) (ds := []) #[false, false, false, false, false, false, false] (by kernel_rfl) rfl rfl ⟨(yG BK176.out 0).trans rfl, (yG BK176.out 1).trans rfl, (yG BK176.out 2).trans rfl, (yG BK176.out 3).trans rfl⟩ (fun hHeld => ?_)
  generalize w9.drew = w10 at BK176 BK177 HB hHeld ⊢
  refine pure_ (i := 0) (N := some 6) (v := ?_) (a' := ?_) #[true, false, false, false, false, false, false] rfl rfl (by kernel_rfl) (fun _ _ _ h => h) (Or.inl ⟨by rfl, ?_⟩) ?_ ?_; rotate_left; (intro w'; go_simp; with_reducible rfl); rotate_left; (simp only [Act.put, yA, yB, yC, i64_w, i32_w]; rfl)
  refine take_ (i := 2) (N := some 8) (v := ?_) (a' := ?_) #[true, false, true, false, false, false, false] rfl rfl (by kernel_rfl) (fun _ _ _ h => h) (Or.inl ⟨by rfl, ?_⟩) hHeld ?_ ?_; rotate_left; (rintro w' ⟨s0, s1, s2, s3⟩; go_simp; with_reducible rfl); rotate_left; (simp only [Act.put, yA, yB, yC, i64_w, i32_w]; rfl)
  refine one_ (i := 1) (N := some 7) #[true, true, true, false, false, false, false] rfl rfl (by kernel_rfl) (by decide) (fun K hK => ?_)
  refine goes_ Try.func20 (by kernel_rfl) rfl #[.slice A0 l0.length c0] (by rfl) rfl rfl (by (try simp only [zA, zB, zC]); first | done | rfl | (simp only [zE, zD]; rfl)) ?_
  with_reducible refine (impl_CacheFault.calls k _ _ l0 t178 _ ?side1 ?side2 A3.out).mono ?_
  (case side1 => repeat (first | exact (Kd.C_below HR0.out HB.out) | (with_reducible first | refine zj ?_ _ | refine zk ?_ _ | refine zl ?_)))
  (case side2 => exact HC0.out)
  rintro e w11 ⟨rfl, hb⟩
  refine ⟨_, rfl, ?_⟩
  have n0_ := zm (zu (g := gb176) (o := .cells #[.int .i64 a1_0, .int .i64 a1_1, .int .i64 a1_2, .int .i64 a1_3] 31 (0, 0)) (by (with_reducible repeat (first | refine zd ?_ _ | refine ze ?_ | refine zf ?_ _)); exact BK176.out) hb)
  have n1_ := zm (zu (g := gb177) (o := .cells #[.int .i64 0, .int .i64 0, .bool false, .slice none 0 0] 28 (0, 0)) (by (with_reducible repeat (first | refine zd ?_ _ | refine ze ?_ | refine zf ?_ _)); exact BK177.out) hb)
  have n2_ := zm (zw (by repeat (first | (with_reducible first | exact HB.out | apply zg | apply zh | apply zi | refine zy ?_ GE176.out | refine zy ?_ GE177.out) | exact HB.out)) hb)
  clear BK176
  clear BK177
  clear HB
  have BK176 := n0_
  have BK177 := n1_
  have HB := n2_
  clear n0_ n1_ n2_
  (try clear hb)
  (try clear hb2)
  (try clear hk)
  (try clear hi)
  refine hK.out _ _ ⟨(yG BK176.out 0).trans rfl, (yG BK176.out 1).trans rfl, (yG BK176.out 2).trans rfl, (yG BK176.out 3).trans rfl⟩ (fun hHeld => ?_)
  clear hK K
  refine norm_ (a' := ?_) ?_ ?_; rotate_left; (show Act.put _ (some 7) _ = _; simp only [Act.put, yA, yB, yC, i64_w, i32_w]; rfl)
  refine one_ (i := 3) (N := some 9) #[true, true, true, true, false, false, false] rfl rfl (by kernel_rfl) (by decide) (fun K hK => ?_)
  refine goes_ Try.func36 (by kernel_rfl) rfl #[.agg #[.int .i64 a1_0, .int .i64 a1_1, .int .i64 a1_2, .int .i64 a1_3]] (by rfl) rfl rfl (by (try simp only [zA, zB, zC]); first | done | rfl | (simp only [zE, zD]; rfl)) ?_
  with_reducible refine (impl_hitFault.calls a1_0 a1_1 a1_2 a1_3 t179 _ A4.out).mono ?_
  rintro e w12 ⟨rfl, hb⟩
  refine ⟨_, rfl, ?_⟩
  have n0_ := zm (zu (g := gb176) (o := .cells #[.int .i64 a1_0, .int .i64 a1_1, .int .i64 a1_2, .int .i64 a1_3] 31 (0, 0)) (by (with_reducible repeat (first | refine zd ?_ _ | refine ze ?_ | refine zf ?_ _)); exact BK176.out) hb)
  have n1_ := zm (zu (g := gb177) (o := .cells #[.int .i64 0, .int .i64 0, .bool false, .slice none 0 0] 28 (0, 0)) (by (with_reducible repeat (first | refine zd ?_ _ | refine ze ?_ | refine zf ?_ _)); exact BK177.out) hb)
  have n2_ := zm (zw (by repeat (first | (with_reducible first | exact HB.out | apply zg | apply zh | apply zi | refine zy ?_ GE176.out | refine zy ?_ GE177.out) | exact HB.out)) hb)
  clear BK176
  clear BK177
  clear HB
  have BK176 := n0_
  have BK177 := n1_
  have HB := n2_
  clear n0_ n1_ n2_
  (try clear hb)
  (try clear hb2)
  (try clear hk)
  (try clear hi)
  refine hK.out _ _ ⟨(yG BK176.out 0).trans rfl, (yG BK176.out 1).trans rfl, (yG BK176.out 2).trans rfl, (yG BK176.out 3).trans rfl⟩ (fun hHeld => ?_)
  clear hK K
  refine norm_ (a' := ?_) ?_ ?_; rotate_left; (show Act.put _ (some 9) _ = _; simp only [Act.put, yA, yB, yC, i64_w, i32_w]; rfl)
  refine one_ (i := 4) (N := some 10) #[true, true, true, true, true, false, false] rfl rfl (by kernel_rfl) (by decide) (fun K hK => ?_)
  refine Kd.R_lit_step (Kd.int .i64) _ 2 ?hg (N := 10) ?hd (xs := ([t178, t179] : List Int)) (inner := [.int .i64 t178, .int .i64 t179]) (ok := fun _ => True) (okp := fun _ => True) ?hr ?hp (fun _ hk => hk) trivial (Below.refl _ _) (Nat.le_refl _) (by simp) ?_; (case hd => rfl); (case hg => rfl); (case hr => first | (go_simp; done) | (go_simp; rfl)); (case hp => exact (Reps.one (show Kd.M (Kd.int .i64) _ _ _ t178 [.int .i64 t178] from rfl) (Reps.one (show Kd.M (Kd.int .i64) _ _ _ t179 [.int .i64 t179] from rfl) (Reps.none _ _))))
  intro v181 w13 ho14 hb hg_ hnew_
  clear hg_ hnew_
  (first | rw [← Ny180.out] at ho14 | (simp only [Int.reduceToNat] at ho14; rw [← Ny180.out] at ho14))
  have n0_ := zm (zz ho14 (zx (by repeat (first | (with_reducible first | exact HB.out | apply zg | apply zh | apply zi | refine zy ?_ GE176.out | refine zy ?_ GE177.out) | exact HB.out))))
  have n1_ := zm (zu (g := gb176) (o := .cells #[.int .i64 a1_0, .int .i64 a1_1, .int .i64 a1_2, .int .i64 a1_3] 31 (0, 0)) (by (with_reducible repeat (first | refine zd ?_ _ | refine ze ?_ | refine zf ?_ _)); exact BK176.out) hb)
  have n2_ := zm (zu (g := gb177) (o := .cells #[.int .i64 0, .int .i64 0, .bool false, .slice none 0 0] 28 (0, 0)) (by (with_reducible repeat (first | refine zd ?_ _ | refine ze ?_ | refine zf ?_ _)); exact BK177.out) hb)
  have n3_ := zm (zw (by repeat (first | (with_reducible first | exact HB.out | apply zg | apply zh | apply zi | refine zy ?_ GE176.out | refine zy ?_ GE177.out) | exact HB.out)) hb)
  clear BK176
  clear BK177
  clear HB
  have HO182 := n0_
  have BK176 := n1_
  have BK177 := n2_
  have HB := n3_
  clear n0_ n1_ n2_ n3_
  clear hb ho14
  obtain ⟨Ao15, co15, eo15⟩ := Kd.R_slice HO182.out
  (first | subst eo15 | (injection eo15 with f1_ f2_ f3_; have f4_ := f1_.symm; have f5_ := f3_.symm; clear f1_ f2_ f3_; subst f4_; subst f5_))
  refine hK.out _ _ ⟨(yG BK176.out 0).trans rfl, (yG BK176.out 1).trans rfl, (yG BK176.out 2).trans rfl, (yG BK176.out 3).trans rfl⟩ (fun hHeld => ?_)
  clear hK K
  refine norm_ (a' := ?_) ?_ ?_; rotate_left; (show Act.put _ (some 10) _ = _; simp only [Act.put, yA, yB, yC, i64_w, i32_w]; rfl)
  refine one_ (i := 5) (N := some 11) #[true, true, true, true, true, true, false] rfl rfl (by kernel_rfl) (by decide) (fun K hK => ?_)
  refine goes_ Try.func35 (by kernel_rfl) rfl #[.slice Ao15 y180.length co15] (by rfl) rfl rfl (by (try simp only [zA, zB, zC]); first | done | rfl | (simp only [zE, zD]; rfl)) ?_
  with_reducible refine (impl_firstOf.calls k _ _ y180 t183 _ ?side1 ?side2 A5.out).mono ?_
  (case side1 => repeat (first | exact (zF HO182.out).2.2 | (with_reducible first | refine zj ?_ _ | refine zk ?_ _ | refine zl ?_)))
  (case side2 => exact (zF HO182.out).2.1)
  rintro e w' ⟨rfl, ⟨nd, rfl⟩⟩
  refine ⟨_, rfl, ?_⟩
  refine hK.out _ _ ⟨(yG BK176.out 0).trans rfl, (yG BK176.out 1).trans rfl, (yG BK176.out 2).trans rfl, (yG BK176.out 3).trans rfl⟩ (fun hHeld => ?_)
  clear hK K
  refine norm_ (a' := ?_) ?_ ?_; rotate_left; (show Act.put _ (some 11) _ = _; simp only [Act.put, yA, yB, yC, i64_w, i32_w]; rfl)
  refine pure_ (i := 6) (N := some 5) (v := ?_) (a' := ?_) #[true, true, true, true, true, true, true] rfl rfl (by kernel_rfl) (fun _ _ _ h => h) (Or.inl ⟨by rfl, ?_⟩) ?_ ?_; rotate_left; (intro w'; go_simp; with_reducible rfl); rotate_left; (simp only [Act.put, yA, yB, yC, i64_w, i32_w]; rfl)
  refine done_ (by kernel_rfl) ?_
  have hnb16 := NB176_177.out
  have hnc16 := NB177_176.out
  have hcz17_0 : w13.cell? ⟨gb176, 0, none⟩ = some (.int .i64 a1_0) := (yG BK176.out 0).trans rfl
  have hcz17_1 : w13.cell? ⟨gb176, 1, none⟩ = some (.int .i64 a1_1) := (yG BK176.out 1).trans rfl
  have hcz17_2 : w13.cell? ⟨gb176, 2, none⟩ = some (.int .i64 a1_2) := (yG BK176.out 2).trans rfl
  have hcz17_3 : w13.cell? ⟨gb176, 3, none⟩ = some (.int .i64 a1_3) := (yG BK176.out 3).trans rfl
  have hfz17_0 := zH BK176.out 0
  have hfz17_1 := zH BK176.out 1
  have hfz17_2 := zH BK176.out 2
  have hfz17_3 := zH BK176.out 3
  try go_wp2_with (first | ((with_reducible refine gate_callee (f := 37) rfl ?_); refine goesL_ (some 18) rfl rfl Try.func37 (by kernel_rfl) rfl #[.slice A0 l0.length c0, .agg #[.int .i64 a1_0, .int .i64 a1_1, .int .i64 a1_2, .int .i64 a1_3]] rfl (by (try simp only [zA, zB, zC]); first | done | rfl | (simp only [zE, zD]; rfl)) ?_; (with_reducible refine (impl_filled.calls _ _ l0 a1_0 a1_1 a1_2 a1_3 t184 _ ?side1 ?side2 A7.out).mono ?_); (case side1 => repeat (first | exact (Kd.C_below HR0.out (by repeat (first | (with_reducible first | exact HB.out | apply zg | apply zh | apply zi | refine zy ?_ GE176.out | refine zy ?_ GE177.out) | exact HB.out))) | (with_reducible first | refine zj ?_ _ | refine zk ?_ _ | refine zl ?_))); (case side2 => exact HC0.out); rintro e w18 ⟨v185, rfl, ho0, hb⟩; refine ⟨_, rfl, ?_⟩; have n0_ := zm (zp (by (with_reducible repeat (first | apply za | apply zb | apply zc)); exact HO182.out) hb); have n1_ := zm (zz (Kd.R_newB ho0 (g := gb176) (o := .cells #[.int .i64 a1_0, .int .i64 a1_1, .int .i64 a1_2, .int .i64 a1_3] 31 (0, 0)) (by (with_reducible repeat (first | refine zd ?_ _ | refine ze ?_ | refine zf ?_ _)); exact BK176.out)) (zx (by repeat (first | (with_reducible first | exact HB.out | apply zg | apply zh | apply zi | refine zy ?_ GE176.out | refine zy ?_ GE177.out) | exact HB.out)))); have n2_ := zm (zu (g := gb176) (o := .cells #[.int .i64 a1_0, .int .i64 a1_1, .int .i64 a1_2, .int .i64 a1_3] 31 (0, 0)) (by (with_reducible repeat (first | refine zd ?_ _ | refine ze ?_ | refine zf ?_ _)); exact BK176.out) hb); have n3_ := zm (zu (g := gb177) (o := .cells #[.int .i64 0, .int .i64 0, .bool false, .slice none 0 0] 28 (0, 0)) (by (with_reducible repeat (first | refine zd ?_ _ | refine ze ?_ | refine zf ?_ _)); exact BK177.out) hb); have n4_ := zm (zw (by repeat (first | (with_reducible first | exact HB.out | apply zg | apply zh | apply zi | refine zy ?_ GE176.out | refine zy ?_ GE177.out) | exact HB.out)) hb); clear HO182; clear BK176; clear BK177; clear HB; have HO182 := n0_; have HO186 := n1_; have BK176 := n2_; have BK177 := n3_; have HB := n4_; clear n0_ n1_ n2_ n3_ n4_; (try clear hb); (try clear hb2); (try clear hk); (try clear hi); (try clear ho0); obtain ⟨Ao19, co19, eo19⟩ := Kd.R_slice HO186.out; subst eo19; have hcz20_0 : w18.cell? ⟨gb177, 0, none⟩ = some (.int .i64 0) := (yG BK177.out 0).trans rfl; have hcz20_1 : w18.cell? ⟨gb177, 1, none⟩ = some (.int .i64 0) := (yG BK177.out 1).trans rfl; have hcz20_2 : w18.cell? ⟨gb177, 2, none⟩ = some (.bool false) := (yG BK177.out 2).trans rfl; have hcz20_3 : w18.cell? ⟨gb177, 3, none⟩ = some (.slice none 0 0) := (yG BK177.out 3).trans rfl; have hfz20_0 := zH BK177.out 0; have hfz20_1 := zH BK177.out 1; have hfz20_2 := zH BK177.out 2; have hfz20_3 := zH BK177.out 3))
  refine bodyPost_ret (results_cell_row rfl _ _ gb177 28 #[.int .i64 0, .int .i64 0, .bool false, .slice Ao19 t184.length co19] (0, 0) _ rfl (by (with_reducible repeat (first | refine zd ?_ _ | refine ze ?_ | refine zf ?_ _)); refine blk_put (cs := #[.int .i64 0, .int .i64 0, .bool false, .slice none 0 0]) ?_ 3 _ rfl; (with_reducible repeat (first | refine zd ?_ _ | refine ze ?_ | refine zf ?_ _)); refine blk_put (cs := #[.int .i64 0, .int .i64 0, .bool false, .slice none 0 0]) ?_ 2 _ rfl; (with_reducible repeat (first | refine zd ?_ _ | refine ze ?_ | refine zf ?_ _)); refine blk_put (cs := #[.int .i64 0, .int .i64 0, .bool false, .slice none 0 0]) ?_ 1 _ rfl; (with_reducible repeat (first | refine zd ?_ _ | refine ze ?_ | refine zf ?_ _)); refine blk_put (cs := #[.int .i64 0, .int .i64 0, .bool false, .slice none 0 0]) ?_ 0 _ rfl; (with_reducible repeat (first | refine zd ?_ _ | refine ze ?_ | refine zf ?_ _)); exact BK177.out) Try.underlying28 rfl (by kernel_rfl)) rfl ?_
  exact ⟨_, by first | rfl | (simp [errW_none, errW_some] <;> rfl) | (simp [*, errW_none, errW_some] <;> rfl), by (with_reducible repeat (first | apply za | apply zb | apply zc)); exact zr (zn (p := ⟨gb177, 3, none⟩) (zn (p := ⟨gb177, 2, none⟩) (zn (p := ⟨gb177, 1, none⟩) (zn (p := ⟨gb177, 0, none⟩) (zq HO186.out BK177.out (by decide)) (fun _ hk => hk.2) (.int .i64 0)) (fun _ hk => hk.2) (.int .i64 0)) (fun _ hk => hk.2) (.bool false)) (fun _ hk => hk.2) (.slice Ao19 t184.length co19)) (fun _ hk => trivial), by repeat (first | (with_reducible first | exact HB.out | apply zg | apply zh | apply zi | refine zy ?_ GE176.out | refine zy ?_ GE177.out) | exact HB.out)⟩
 ·rw [if_neg c6] at H
  have c6b0 : (t183 == 0) = false := beq_eq_false_iff_ne.mpr c6
  have c6b1 : (t183 != 0) = true := bne_iff_ne.mpr c6
  simp only [Option.some.injEq, Prod.mk.injEq] at H
  obtain ⟨rfl, rfl, rfl, rfl⟩ := H
  go_enter Try.func13, Try.ntmps13
  try go_wp2_with (first | ((with_reducible refine gate_dst (N := 3) rfl ?_); refine box_event ?hg (N := 3) ?hd (cs := #[.int .i64 a1_0, .int .i64 a1_1, .int .i64 a1_2, .int .i64 a1_3]) (t := 31) ?hr ?_; (case hd => rfl); (case hg => rfl); (case hr => first | (go_simp; done) | (go_simp; rfl)); intro gb176 hg w21 hbox hb; have n0_ := zm (zw (by repeat (first | (with_reducible first | exact HB.out | apply zg | apply zh | apply zi) | exact HB.out)) hb); have n1_ := zm (hbox); have n2_ := zm ((by rw [hg]; exact (zx (by repeat (first | (with_reducible first | exact HB.out | apply zg | apply zh | apply zi) | exact HB.out))) : w.heap.size ≤ gb176)); have n3_ := zm ((by rw [hg]; exact (zx (by repeat (first | (with_reducible first | exact HB.out | apply zg | apply zh | apply zi) | exact HB.out))) : w.heap.size ≤ gb176)); clear HB; have HB := n0_; have BK176 := n1_; have GW176 := n2_; have GE176 := n3_; clear n0_ n1_ n2_ n3_; clear hb hbox hg) | ((with_reducible refine gate_dst (N := 4) rfl ?_); refine box_event ?hg (N := 4) ?hd (cs := #[.int .i64 0, .int .i64 0, .bool false, .slice none 0 0]) (t := 28) ?hr ?_; (case hd => rfl); (case hg => rfl); (case hr => first | (go_simp; done) | (go_simp; rfl)); intro gb177 hg w22 hbox hb; have n0_ := zm (zu (g := gb176) (o := .cells #[.int .i64 a1_0, .int .i64 a1_1, .int .i64 a1_2, .int .i64 a1_3] 31 (0, 0)) (by (with_reducible repeat (first | refine zd ?_ _ | refine ze ?_ | refine zf ?_ _)); exact BK176.out) hb); have n1_ := zm (zw (by repeat (first | (with_reducible first | exact HB.out | apply zg | apply zh | apply zi | refine zy ?_ GE176.out) | exact HB.out)) hb); have n2_ := zm (hbox); have n3_ := zm ((by rw [hg]; exact (zx (by repeat (first | (with_reducible first | exact HB.out | apply zg | apply zh | apply zi | refine zy ?_ GE176.out) | exact HB.out))) : w.heap.size ≤ gb177)); have n4_ := zm ((by rw [hg]; exact (zx (by repeat (first | (with_reducible first | exact HB.out | apply zg | apply zh | apply zi | refine zy ?_ GE176.out) | exact HB.out))) : w.heap.size ≤ gb177)); have n5_ := zm ((by rw [hg]; exact Nat.ne_of_lt (zv (g := gb176) (o := .cells #[.int .i64 a1_0, .int .i64 a1_1, .int .i64 a1_2, .int .i64 a1_3] 31 (0, 0)) (by (with_reducible repeat (first | refine zd ?_ _ | refine ze ?_ | refine zf ?_ _)); exact BK176.out)) : gb176 ≠ gb177)); have n6_ := zm ((by rw [hg]; exact Nat.ne_of_gt (zv (g := gb176) (o := .cells #[.int .i64 a1_0, .int .i64 a1_1, .int .i64 a1_2, .int .i64 a1_3] 31 (0, 0)) (by (with_reducible repeat (first | refine zd ?_ _ | refine ze ?_ | refine zf ?_ _)); exact BK176.out)) : gb177 ≠ gb176)); clear BK176; clear HB; have BK176 := n0_; have HB := n1_; have BK177 := n2_; have GW177 := n3_; have GE177 := n4_; have NB176_177 := n5_; have NB177_176 := n6_; clear n0_ n1_ n2_ n3_ n4_ n5_ n6_; clear hb hbox hg))
  have n0_ := zm (blk_drew BK176.out)
  have n1_ := zm (blk_drew BK177.out)
  have n2_ := zm (below_drew1 HB.out)
  clear BK176
  clear BK177
  clear HB
  have BK176 := n0_
  have BK177 := n1_
  have HB := n2_
  clear n0_ n1_ n2_
  refine start_ (n := 7) (S := fun w' => w'.cell? ⟨gb176, 0, none⟩ = some (.int .i64 a1_0) ∧ w'.cell? ⟨gb176, 1, none⟩ = some (.int .i64 a1_1) ∧ w'.cell? ⟨gb176, 2, none⟩ = some (.int .i64 a1_2) ∧ w'.cell? ⟨gb176, 3, none⟩ = some (.int .i64 a1_3)) (ds := []) #[false, false, false, false, false, false, false] (by kernel_rfl) rfl rfl ⟨(yG BK176.out 0).trans rfl, (yG BK176.out 1).trans rfl, (yG BK176.out 2).trans rfl, (yG BK176.out 3).trans rfl⟩ (fun hHeld => ?_)
  generalize w22.drew = w23 at BK176 BK177 HB hHeld ⊢
  refine pure_ (i := 0) (N := some 6) (v := ?_) (a' := ?_) #[true, false, false, false, false, false, false] rfl rfl (by kernel_rfl) (fun _ _ _ h => h) (Or.inl ⟨by rfl, ?_⟩) ?_ ?_; rotate_left; (intro w'; go_simp; with_reducible rfl); rotate_left; (simp only [Act.put, yA, yB, yC, i64_w, i32_w]; rfl)
  refine take_ (i := 2) (N := some 8) (v := ?_) (a' := ?_) #[true, false, true, false, false, false, false] rfl rfl (by kernel_rfl) (fun _ _ _ h => h) (Or.inl ⟨by rfl, ?_⟩) hHeld ?_ ?_; rotate_left; (rintro w' ⟨s0, s1, s2, s3⟩; go_simp; with_reducible rfl); rotate_left; (simp only [Act.put, yA, yB, yC, i64_w, i32_w]; rfl)
  refine one_ (i := 1) (N := some 7) #[true, true, true, false, false, false, false] rfl rfl (by kernel_rfl) (by decide) (fun K hK => ?_)
  refine goes_ Try.func20 (by kernel_rfl) rfl #[.slice A0 l0.length c0] (by rfl) rfl rfl (by (try simp only [zA, zB, zC]); first | done | rfl | (simp only [zE, zD]; rfl)) ?_
  with_reducible refine (impl_CacheFault.calls k _ _ l0 t178 _ ?side1 ?side2 A3.out).mono ?_
  (case side1 => repeat (first | exact (Kd.C_below HR0.out HB.out) | (with_reducible first | refine zj ?_ _ | refine zk ?_ _ | refine zl ?_)))
  (case side2 => exact HC0.out)
  rintro e w24 ⟨rfl, hb⟩
  refine ⟨_, rfl, ?_⟩
  have n0_ := zm (zu (g := gb176) (o := .cells #[.int .i64 a1_0, .int .i64 a1_1, .int .i64 a1_2, .int .i64 a1_3] 31 (0, 0)) (by (with_reducible repeat (first | refine zd ?_ _ | refine ze ?_ | refine zf ?_ _)); exact BK176.out) hb)
  have n1_ := zm (zu (g := gb177) (o := .cells #[.int .i64 0, .int .i64 0, .bool false, .slice none 0 0] 28 (0, 0)) (by (with_reducible repeat (first | refine zd ?_ _ | refine ze ?_ | refine zf ?_ _)); exact BK177.out) hb)
  have n2_ := zm (zw (by repeat (first | (with_reducible first | exact HB.out | apply zg | apply zh | apply zi | refine zy ?_ GE176.out | refine zy ?_ GE177.out) | exact HB.out)) hb)
  clear BK176
  clear BK177
  clear HB
  have BK176 := n0_
  have BK177 := n1_
  have HB := n2_
  clear n0_ n1_ n2_
  (try clear hb)
  (try clear hb2)
  (try clear hk)
  (try clear hi)
  refine hK.out _ _ ⟨(yG BK176.out 0).trans rfl, (yG BK176.out 1).trans rfl, (yG BK176.out 2).trans rfl, (yG BK176.out 3).trans rfl⟩ (fun hHeld => ?_)
  clear hK K
  refine norm_ (a' := ?_) ?_ ?_; rotate_left; (show Act.put _ (some 7) _ = _; simp only [Act.put, yA, yB, yC, i64_w, i32_w]; rfl)
  refine one_ (i := 3) (N := some 9) #[true, true, true, true, false, false, false] rfl rfl (by kernel_rfl) (by decide) (fun K hK => ?_)
  refine goes_ Try.func36 (by kernel_rfl) rfl #[.agg #[.int .i64 a1_0, .int .i64 a1_1, .int .i64 a1_2, .int .i64 a1_3]] (by rfl) rfl rfl (by (try simp only [zA, zB, zC]); first | done | rfl | (simp only [zE, zD]; rfl)) ?_
  with_reducible refine (impl_hitFault.calls a1_0 a1_1 a1_2 a1_3 t179 _ A4.out).mono ?_
  rintro e w25 ⟨rfl, hb⟩
  refine ⟨_, rfl, ?_⟩
  have n0_ := zm (zu (g := gb176) (o := .cells #[.int .i64 a1_0, .int .i64 a1_1, .int .i64 a1_2, .int .i64 a1_3] 31 (0, 0)) (by (with_reducible repeat (first | refine zd ?_ _ | refine ze ?_ | refine zf ?_ _)); exact BK176.out) hb)
  have n1_ := zm (zu (g := gb177) (o := .cells #[.int .i64 0, .int .i64 0, .bool false, .slice none 0 0] 28 (0, 0)) (by (with_reducible repeat (first | refine zd ?_ _ | refine ze ?_ | refine zf ?_ _)); exact BK177.out) hb)
  have n2_ := zm (zw (by repeat (first | (with_reducible first | exact HB.out | apply zg | apply zh | apply zi | refine zy ?_ GE176.out | refine zy ?_ GE177.out) | exact HB.out)) hb)
  clear BK176
  clear BK177
  clear HB
  have BK176 := n0_
  have BK177 := n1_
  have HB := n2_
  clear n0_ n1_ n2_
  (try clear hb)
  (try clear hb2)
  (try clear hk)
  (try clear hi)
  refine hK.out _ _ ⟨(yG BK176.out 0).trans rfl, (yG BK176.out 1).trans rfl, (yG BK176.out 2).trans rfl, (yG BK176.out 3).trans rfl⟩ (fun hHeld => ?_)
  clear hK K
  refine norm_ (a' := ?_) ?_ ?_; rotate_left; (show Act.put _ (some 9) _ = _; simp only [Act.put, yA, yB, yC, i64_w, i32_w]; rfl)
  refine one_ (i := 4) (N := some 10) #[true, true, true, true, true, false, false] rfl rfl (by kernel_rfl) (by decide) (fun K hK => ?_)
  refine Kd.R_lit_step (Kd.int .i64) _ 2 ?hg (N := 10) ?hd (xs := ([t178, t179] : List Int)) (inner := [.int .i64 t178, .int .i64 t179]) (ok := fun _ => True) (okp := fun _ => True) ?hr ?hp (fun _ hk => hk) trivial (Below.refl _ _) (Nat.le_refl _) (by simp) ?_; (case hd => rfl); (case hg => rfl); (case hr => first | (go_simp; done) | (go_simp; rfl)); (case hp => exact (Reps.one (show Kd.M (Kd.int .i64) _ _ _ t178 [.int .i64 t178] from rfl) (Reps.one (show Kd.M (Kd.int .i64) _ _ _ t179 [.int .i64 t179] from rfl) (Reps.none _ _))))
  intro v181 w26 ho27 hb hg_ hnew_
  clear hg_ hnew_
  (first | rw [← Ny180.out] at ho27 | (simp only [Int.reduceToNat] at ho27; rw [← Ny180.out] at ho27))
  have n0_ := zm (zz ho27 (zx (by repeat (first | (with_reducible first | exact HB.out | apply zg | apply zh | apply zi | refine zy ?_ GE176.out | refine zy ?_ GE177.out) | exact HB.out))))
  have n1_ := zm (zu (g := gb176) (o := .cells #[.int .i64 a1_0, .int .i64 a1_1, .int .i64 a1_2, .int .i64 a1_3] 31 (0, 0)) (by (with_reducible repeat (first | refine zd ?_ _ | refine ze ?_ | refine zf ?_ _)); exact BK176.out) hb)
  have n2_ := zm (zu (g := gb177) (o := .cells #[.int .i64 0, .int .i64 0, .bool false, .slice none 0 0] 28 (0, 0)) (by (with_reducible repeat (first | refine zd ?_ _ | refine ze ?_ | refine zf ?_ _)); exact BK177.out) hb)
  have n3_ := zm (zw (by repeat (first | (with_reducible first | exact HB.out | apply zg | apply zh | apply zi | refine zy ?_ GE176.out | refine zy ?_ GE177.out) | exact HB.out)) hb)
  clear BK176
  clear BK177
  clear HB
  have HO182 := n0_
  have BK176 := n1_
  have BK177 := n2_
  have HB := n3_
  clear n0_ n1_ n2_ n3_
  clear hb ho27
  obtain ⟨Ao28, co28, eo28⟩ := Kd.R_slice HO182.out
  (first | subst eo28 | (injection eo28 with f1_ f2_ f3_; have f4_ := f1_.symm; have f5_ := f3_.symm; clear f1_ f2_ f3_; subst f4_; subst f5_))
  refine hK.out _ _ ⟨(yG BK176.out 0).trans rfl, (yG BK176.out 1).trans rfl, (yG BK176.out 2).trans rfl, (yG BK176.out 3).trans rfl⟩ (fun hHeld => ?_)
  clear hK K
  refine norm_ (a' := ?_) ?_ ?_; rotate_left; (show Act.put _ (some 10) _ = _; simp only [Act.put, yA, yB, yC, i64_w, i32_w]; rfl)
  refine one_ (i := 5) (N := some 11) #[true, true, true, true, true, true, false] rfl rfl (by kernel_rfl) (by decide) (fun K hK => ?_)
  refine goes_ Try.func35 (by kernel_rfl) rfl #[.slice Ao28 y180.length co28] (by rfl) rfl rfl (by (try simp only [zA, zB, zC]); first | done | rfl | (simp only [zE, zD]; rfl)) ?_
  with_reducible refine (impl_firstOf.calls k _ _ y180 t183 _ ?side1 ?side2 A5.out).mono ?_
  (case side1 => repeat (first | exact (zF HO182.out).2.2 | (with_reducible first | refine zj ?_ _ | refine zk ?_ _ | refine zl ?_)))
  (case side2 => exact (zF HO182.out).2.1)
  rintro e w' ⟨rfl, ⟨nd, rfl⟩⟩
  refine ⟨_, rfl, ?_⟩
  refine hK.out _ _ ⟨(yG BK176.out 0).trans rfl, (yG BK176.out 1).trans rfl, (yG BK176.out 2).trans rfl, (yG BK176.out 3).trans rfl⟩ (fun hHeld => ?_)
  clear hK K
  refine norm_ (a' := ?_) ?_ ?_; rotate_left; (show Act.put _ (some 11) _ = _; simp only [Act.put, yA, yB, yC, i64_w, i32_w]; rfl)
  refine pure_ (i := 6) (N := some 5) (v := ?_) (a' := ?_) #[true, true, true, true, true, true, true] rfl rfl (by kernel_rfl) (fun _ _ _ h => h) (Or.inl ⟨by rfl, ?_⟩) ?_ ?_; rotate_left; (intro w'; go_simp; with_reducible rfl); rotate_left; (simp only [Act.put, yA, yB, yC, i64_w, i32_w]; rfl)
  refine done_ (by kernel_rfl) ?_
  have hnb29 := NB177_176.out
  have hnc29 := NB176_177.out
  have hcz30_0 : w26.cell? ⟨gb177, 0, none⟩ = some (.int .i64 0) := (yG BK177.out 0).trans rfl
  have hcz30_1 : w26.cell? ⟨gb177, 1, none⟩ = some (.int .i64 0) := (yG BK177.out 1).trans rfl
  have hcz30_2 : w26.cell? ⟨gb177, 2, none⟩ = some (.bool false) := (yG BK177.out 2).trans rfl
  have hcz30_3 : w26.cell? ⟨gb177, 3, none⟩ = some (.slice none 0 0) := (yG BK177.out 3).trans rfl
  have hfz30_0 := zH BK177.out 0
  have hfz30_1 := zH BK177.out 1
  have hfz30_2 := zH BK177.out 2
  have hfz30_3 := zH BK177.out 3
  try go_wp2
  refine bodyPost_ret (results_cell_row rfl _ _ gb177 28 #[.int .i64 t183, .int .i64 0, .bool false, .slice none 0 0] (0, 0) _ rfl (by (with_reducible repeat (first | refine zd ?_ _ | refine ze ?_ | refine zf ?_ _)); refine blk_put (cs := #[.int .i64 t183, .int .i64 0, .bool false, .slice none 0 0]) ?_ 3 _ rfl; (with_reducible repeat (first | refine zd ?_ _ | refine ze ?_ | refine zf ?_ _)); refine blk_put (cs := #[.int .i64 t183, .int .i64 0, .bool false, .slice none 0 0]) ?_ 2 _ rfl; (with_reducible repeat (first | refine zd ?_ _ | refine ze ?_ | refine zf ?_ _)); refine blk_put (cs := #[.int .i64 t183, .int .i64 0, .bool false, .slice none 0 0]) ?_ 1 _ rfl; (with_reducible repeat (first | refine zd ?_ _ | refine ze ?_ | refine zf ?_ _)); refine blk_put (cs := #[.int .i64 0, .int .i64 0, .bool false, .slice none 0 0]) ?_ 0 _ rfl; (with_reducible repeat (first | refine zd ?_ _ | refine ze ?_ | refine zf ?_ _)); exact BK177.out) Try.underlying28 rfl (by kernel_rfl)) rfl ?_
  exact ⟨_, by first | rfl | (simp [errW_none, errW_some] <;> rfl) | (simp [*, errW_none, errW_some] <;> rfl), by first | exact Kd.R_nil _ _ _ _ _ | exact Kd.N_nil _ _ _ _ _ | exact Kd.V_nil _ _ _ _ _ | exact Kd.Q_nil _ _ _ _ _ | exact Kd.S_nil _ _ _ _ _, by repeat (first | (with_reducible first | exact HB.out | apply zg | apply zh | apply zi | refine zy ?_ GE176.out | refine zy ?_ GE177.out) | exact HB.out)⟩

/-! ### impl_FindHit: function 22 -/
def impl_FindHit.f (k : Nat) (l0 : List (S31)) (a1 : Int) (a2 : Int) : Option (Int × Int) := (impl_CacheFault.f k l0).bind fun t188 => (if t188 = 0 then ((impl_hitAt.f l0 a1 a2).bind fun t189 => (if t189 < 0 then (some (4, 0)) else (some (0, t189)))) else (some (t188, 0)))
theorem impl_FindHit.mono : ∀ a0 a1 a2 k, LeO (impl_FindHit.f k a0 a1 a2) (impl_FindHit.f (k + 1) a0 a1 a2) := by
  intro a0 a1 a2 k
  unfold impl_FindHit.f
  repeat' first
      | (with_reducible exact impl_CacheFault.mono _ _)
      | (with_reducible exact LeO.refl _)
      | (with_reducible exact LeO.none _)
      | (with_reducible refine LeO.ite ?_ ?_)
      | (with_reducible refine LeO.bind ?_ (fun _ => ?_))
      | exact impl_CacheFault.mono _ _
      | exact LeO.none _
      | refine LeO.ite ?_ ?_
      | refine LeO.bind ?_ (fun _ => ?_)
set_option maxHeartbeats 8000000 in
set_option maxRecDepth 100000 in
theorem impl_FindHit.calls (k : Nat) (A0 : Option Addr) (c0 : Nat) (l0 : List (S31)) (a1 : Int) (a2 : Int) (r1 : Int) (r2 : Int) (w : World) (hr0 : Kd.C k31 w A0 l0.length l0) (hc0 : l0.length ≤ c0) (h : impl_FindHit.f k l0 a1 a2 = some (r1, r2)) :
  Calls Try.prog 22 #[.slice A0 l0.length c0, .int .i64 a1, .int .i64 a2] w fun e w' => e = .returned (.agg #[.int .i64 r1, .int .i64 r2]) ∧ Below w.heap.size w w' := by
 have hu41 := Try.underlying41
 have HR0 := zm hr0
 have HC0 := zm hc0
 clear hr0 hc0
 have HB := zm (Below.refl w.heap.size w)
 have H : ((impl_CacheFault.f k l0).bind fun t188 => (if t188 = 0 then ((impl_hitAt.f l0 a1 a2).bind fun t189 => (if t189 < 0 then (some (4, 0)) else (some (0, t189)))) else (some (t188, 0)))) = some (r1, r2) := h
 clear h
 replace H := yH.mp H
 obtain ⟨t188, A40, H⟩ := H
 replace H : (if t188 = 0 then ((impl_hitAt.f l0 a1 a2).bind fun t189 => (if t189 < 0 then (some (4, 0)) else (some (0, t189)))) else (some (t188, 0))) = some (r1, r2) := H
 have A4 := zm A40
 clear A40
 by_cases c5 : t188 = 0
 ·rw [if_pos c5] at H
  have c5b0 : (t188 == 0) = true := beq_iff_eq.mpr c5
  have c5b1 : (t188 != 0) = false := bne_eq_false_iff_eq.mpr c5
  clear c5
  replace H := yH.mp H
  obtain ⟨t189, A60, H⟩ := H
  replace H : (if t189 < 0 then (some (4, 0)) else (some (0, t189))) = some (r1, r2) := H
  have A6 := zm A60
  clear A60
  by_cases c7 : t189 < 0
  ·rw [if_pos c7] at H
   have c7b0 : decide (t189 < 0) = true := decide_eq_true c7
   clear c7
   simp only [Option.some.injEq, Prod.mk.injEq] at H
   obtain ⟨rfl, rfl⟩ := H
   go_enter Try.func22, Try.ntmps22
   go_wp2_with (first | ((with_reducible refine gate_dst (N := 6) rfl ?_); refine box_event ?hg (N := 6) ?hd (cs := #[.int .i64 0, .int .i64 0]) (t := 41) ?hr ?_; (case hd => rfl); (case hg => rfl); (case hr => first | (go_simp; done) | (go_simp; rfl)); intro gb187 hg w8 hbox hb; have n0_ := zm (zw (by repeat (first | (with_reducible first | exact HB.out | apply zg | apply zh | apply zi) | exact HB.out)) hb); have n1_ := zm (hbox); have n2_ := zm ((by rw [hg]; exact (zx (by repeat (first | (with_reducible first | exact HB.out | apply zg | apply zh | apply zi) | exact HB.out))) : w.heap.size ≤ gb187)); have n3_ := zm ((by rw [hg]; exact (zx (by repeat (first | (with_reducible first | exact HB.out | apply zg | apply zh | apply zi) | exact HB.out))) : w.heap.size ≤ gb187)); clear HB; have HB := n0_; have BK187 := n1_; have GW187 := n2_; have GE187 := n3_; clear n0_ n1_ n2_ n3_; clear hb hbox hg) | ((with_reducible refine gate_callee (f := 20) rfl ?_); refine goesL_ (some 10) rfl rfl Try.func20 (by kernel_rfl) rfl #[.slice A0 l0.length c0] rfl (by (try simp only [zA, zB, zC]); first | done | rfl | (simp only [zE, zD]; rfl)) ?_; (with_reducible refine (impl_CacheFault.calls k _ _ l0 t188 _ ?side1 ?side2 A4.out).mono ?_); (case side1 => repeat (first | exact (Kd.C_below HR0.out HB.out) | (with_reducible first | refine zj ?_ _ | refine zk ?_ _ | refine zl ?_))); (case side2 => exact HC0.out); rintro e w9 ⟨rfl, hb⟩; refine ⟨_, rfl, ?_⟩; have n0_ := zm (zu (g := gb187) (o := .cells #[.int .i64 0, .int .i64 0] 41 (0, 0)) (by (with_reducible repeat (first | refine zd ?_ _ | refine ze ?_ | refine zf ?_ _)); exact BK187.out) hb); have n1_ := zm (zw (by repeat (first | (with_reducible first | exact HB.out | apply zg | apply zh | apply zi | refine zy ?_ GE187.out) | exact HB.out)) hb); clear BK187; clear HB; have BK187 := n0_; have HB := n1_; clear n0_ n1_; (try clear hb); (try clear hb2); (try clear hk); (try clear hi)) | ((with_reducible refine gate_callee (f := 41) rfl ?_); refine goesL_ (some 18) rfl rfl Try.func41 (by kernel_rfl) rfl #[.slice A0 l0.length c0, .int .i64 a1, .int .i64 a2] rfl (by (try simp only [zA, zB, zC]); first | done | rfl | (simp only [zE, zD]; rfl)) ?_; (with_reducible refine (impl_hitAt.calls _ _ l0 a1 a2 t189 _ ?side1 ?side2 A6.out).mono ?_); (case side1 => repeat (first | exact (Kd.C_below HR0.out HB.out) | (with_reducible first | refine zj ?_ _ | refine zk ?_ _ | refine zl ?_))); (case side2 => exact HC0.out); rintro e w10 ⟨rfl, hb⟩; refine ⟨_, rfl, ?_⟩; have n0_ := zm (zu (g := gb187) (o := .cells #[.int .i64 0, .int .i64 0] 41 (0, 0)) (by (with_reducible repeat (first | refine zd ?_ _ | refine ze ?_ | refine zf ?_ _)); exact BK187.out) hb); have n1_ := zm (zw (by repeat (first | (with_reducible first | exact HB.out | apply zg | apply zh | apply zi | refine zy ?_ GE187.out) | exact HB.out)) hb); clear BK187; clear HB; have BK187 := n0_; have HB := n1_; clear n0_ n1_; (try clear hb); (try clear hb2); (try clear hk); (try clear hi); have hcz11_0 : w10.cell? ⟨gb187, 0, none⟩ = some (.int .i64 0) := (yG BK187.out 0).trans rfl; have hcz11_1 : w10.cell? ⟨gb187, 1, none⟩ = some (.int .i64 0) := (yG BK187.out 1).trans rfl; have hfz11_0 := zH BK187.out 0; have hfz11_1 := zH BK187.out 1))
   refine bodyPost_ret (results_cell_row rfl _ _ gb187 41 #[.int .i64 4, .int .i64 0] (0, 0) _ rfl (by (with_reducible repeat (first | refine zd ?_ _ | refine ze ?_ | refine zf ?_ _)); refine blk_put (cs := #[.int .i64 4, .int .i64 0]) ?_ 1 _ rfl; (with_reducible repeat (first | refine zd ?_ _ | refine ze ?_ | refine zf ?_ _)); refine blk_put (cs := #[.int .i64 0, .int .i64 0]) ?_ 0 _ rfl; (with_reducible repeat (first | refine zd ?_ _ | refine ze ?_ | refine zf ?_ _)); exact BK187.out) Try.underlying41 rfl (by kernel_rfl)) rfl ?_
   exact ⟨by first | rfl | (simp [errW_none, errW_some] <;> rfl) | (simp [*, errW_none, errW_some] <;> rfl), by repeat (first | (with_reducible first | exact HB.out | apply zg | apply zh | apply zi | refine zy ?_ GE187.out) | exact HB.out)⟩
  ·rw [if_neg c7] at H
   have c7b0 : decide (t189 < 0) = false := decide_eq_false c7
   clear c7
   simp only [Option.some.injEq, Prod.mk.injEq] at H
   obtain ⟨rfl, rfl⟩ := H
   go_enter Try.func22, Try.ntmps22
   go_wp2_with (first | ((with_reducible refine gate_dst (N := 6) rfl ?_); refine box_event ?hg (N := 6) ?hd (cs := #[.int .i64 0, .int .i64 0]) (t := 41) ?hr ?_; (case hd => rfl); (case hg => rfl); (case hr => first | (go_simp; done) | (go_simp; rfl)); intro gb187 hg w12 hbox hb; have n0_ := zm (zw (by repeat (first | (with_reducible first | exact HB.out | apply zg | apply zh | apply zi) | exact HB.out)) hb); have n1_ := zm (hbox); have n2_ := zm ((by rw [hg]; exact (zx (by repeat (first | (with_reducible first | exact HB.out | apply zg | apply zh | apply zi) | exact HB.out))) : w.heap.size ≤ gb187)); have n3_ := zm ((by rw [hg]; exact (zx (by repeat (first | (with_reducible first | exact HB.out | apply zg | apply zh | apply zi) | exact HB.out))) : w.heap.size ≤ gb187)); clear HB; have HB := n0_; have BK187 := n1_; have GW187 := n2_; have GE187 := n3_; clear n0_ n1_ n2_ n3_; clear hb hbox hg) | ((with_reducible refine gate_callee (f := 20) rfl ?_); refine goesL_ (some 10) rfl rfl Try.func20 (by kernel_rfl) rfl #[.slice A0 l0.length c0] rfl (by (try simp only [zA, zB, zC]); first | done | rfl | (simp only [zE, zD]; rfl)) ?_; (with_reducible refine (impl_CacheFault.calls k _ _ l0 t188 _ ?side1 ?side2 A4.out).mono ?_); (case side1 => repeat (first | exact (Kd.C_below HR0.out HB.out) | (with_reducible first | refine zj ?_ _ | refine zk ?_ _ | refine zl ?_))); (case side2 => exact HC0.out); rintro e w13 ⟨rfl, hb⟩; refine ⟨_, rfl, ?_⟩; have n0_ := zm (zu (g := gb187) (o := .cells #[.int .i64 0, .int .i64 0] 41 (0, 0)) (by (with_reducible repeat (first | refine zd ?_ _ | refine ze ?_ | refine zf ?_ _)); exact BK187.out) hb); have n1_ := zm (zw (by repeat (first | (with_reducible first | exact HB.out | apply zg | apply zh | apply zi | refine zy ?_ GE187.out) | exact HB.out)) hb); clear BK187; clear HB; have BK187 := n0_; have HB := n1_; clear n0_ n1_; (try clear hb); (try clear hb2); (try clear hk); (try clear hi)) | ((with_reducible refine gate_callee (f := 41) rfl ?_); refine goesL_ (some 18) rfl rfl Try.func41 (by kernel_rfl) rfl #[.slice A0 l0.length c0, .int .i64 a1, .int .i64 a2] rfl (by (try simp only [zA, zB, zC]); first | done | rfl | (simp only [zE, zD]; rfl)) ?_; (with_reducible refine (impl_hitAt.calls _ _ l0 a1 a2 t189 _ ?side1 ?side2 A6.out).mono ?_); (case side1 => repeat (first | exact (Kd.C_below HR0.out HB.out) | (with_reducible first | refine zj ?_ _ | refine zk ?_ _ | refine zl ?_))); (case side2 => exact HC0.out); rintro e w14 ⟨rfl, hb⟩; refine ⟨_, rfl, ?_⟩; have n0_ := zm (zu (g := gb187) (o := .cells #[.int .i64 0, .int .i64 0] 41 (0, 0)) (by (with_reducible repeat (first | refine zd ?_ _ | refine ze ?_ | refine zf ?_ _)); exact BK187.out) hb); have n1_ := zm (zw (by repeat (first | (with_reducible first | exact HB.out | apply zg | apply zh | apply zi | refine zy ?_ GE187.out) | exact HB.out)) hb); clear BK187; clear HB; have BK187 := n0_; have HB := n1_; clear n0_ n1_; (try clear hb); (try clear hb2); (try clear hk); (try clear hi); have hcz15_0 : w14.cell? ⟨gb187, 0, none⟩ = some (.int .i64 0) := (yG BK187.out 0).trans rfl; have hcz15_1 : w14.cell? ⟨gb187, 1, none⟩ = some (.int .i64 0) := (yG BK187.out 1).trans rfl; have hfz15_0 := zH BK187.out 0; have hfz15_1 := zH BK187.out 1))
   refine bodyPost_ret (results_cell_row rfl _ _ gb187 41 #[.int .i64 0, .int .i64 t189] (0, 0) _ rfl (by (with_reducible repeat (first | refine zd ?_ _ | refine ze ?_ | refine zf ?_ _)); refine blk_put (cs := #[.int .i64 0, .int .i64 0]) ?_ 1 _ rfl; (with_reducible repeat (first | refine zd ?_ _ | refine ze ?_ | refine zf ?_ _)); refine blk_put (cs := #[.int .i64 0, .int .i64 0]) ?_ 0 _ rfl; (with_reducible repeat (first | refine zd ?_ _ | refine ze ?_ | refine zf ?_ _)); exact BK187.out) Try.underlying41 rfl (by kernel_rfl)) rfl ?_
   exact ⟨by first | rfl | (simp [errW_none, errW_some] <;> rfl) | (simp [*, errW_none, errW_some] <;> rfl), by repeat (first | (with_reducible first | exact HB.out | apply zg | apply zh | apply zi | refine zy ?_ GE187.out) | exact HB.out)⟩
 ·rw [if_neg c5] at H
  have c5b0 : (t188 == 0) = false := beq_eq_false_iff_ne.mpr c5
  have c5b1 : (t188 != 0) = true := bne_iff_ne.mpr c5
  simp only [Option.some.injEq, Prod.mk.injEq] at H
  obtain ⟨rfl, rfl⟩ := H
  go_enter Try.func22, Try.ntmps22
  go_wp2_with (first | ((with_reducible refine gate_dst (N := 6) rfl ?_); refine box_event ?hg (N := 6) ?hd (cs := #[.int .i64 0, .int .i64 0]) (t := 41) ?hr ?_; (case hd => rfl); (case hg => rfl); (case hr => first | (go_simp; done) | (go_simp; rfl)); intro gb187 hg w16 hbox hb; have n0_ := zm (zw (by repeat (first | (with_reducible first | exact HB.out | apply zg | apply zh | apply zi) | exact HB.out)) hb); have n1_ := zm (hbox); have n2_ := zm ((by rw [hg]; exact (zx (by repeat (first | (with_reducible first | exact HB.out | apply zg | apply zh | apply zi) | exact HB.out))) : w.heap.size ≤ gb187)); have n3_ := zm ((by rw [hg]; exact (zx (by repeat (first | (with_reducible first | exact HB.out | apply zg | apply zh | apply zi) | exact HB.out))) : w.heap.size ≤ gb187)); clear HB; have HB := n0_; have BK187 := n1_; have GW187 := n2_; have GE187 := n3_; clear n0_ n1_ n2_ n3_; clear hb hbox hg) | ((with_reducible refine gate_callee (f := 20) rfl ?_); refine goesL_ (some 10) rfl rfl Try.func20 (by kernel_rfl) rfl #[.slice A0 l0.length c0] rfl (by (try simp only [zA, zB, zC]); first | done | rfl | (simp only [zE, zD]; rfl)) ?_; (with_reducible refine (impl_CacheFault.calls k _ _ l0 t188 _ ?side1 ?side2 A4.out).mono ?_); (case side1 => repeat (first | exact (Kd.C_below HR0.out HB.out) | (with_reducible first | refine zj ?_ _ | refine zk ?_ _ | refine zl ?_))); (case side2 => exact HC0.out); rintro e w17 ⟨rfl, hb⟩; refine ⟨_, rfl, ?_⟩; have n0_ := zm (zu (g := gb187) (o := .cells #[.int .i64 0, .int .i64 0] 41 (0, 0)) (by (with_reducible repeat (first | refine zd ?_ _ | refine ze ?_ | refine zf ?_ _)); exact BK187.out) hb); have n1_ := zm (zw (by repeat (first | (with_reducible first | exact HB.out | apply zg | apply zh | apply zi | refine zy ?_ GE187.out) | exact HB.out)) hb); clear BK187; clear HB; have BK187 := n0_; have HB := n1_; clear n0_ n1_; (try clear hb); (try clear hb2); (try clear hk); (try clear hi); have hcz18_0 : w17.cell? ⟨gb187, 0, none⟩ = some (.int .i64 0) := (yG BK187.out 0).trans rfl; have hcz18_1 : w17.cell? ⟨gb187, 1, none⟩ = some (.int .i64 0) := (yG BK187.out 1).trans rfl; have hfz18_0 := zH BK187.out 0; have hfz18_1 := zH BK187.out 1))
  refine bodyPost_ret (results_cell_row rfl _ _ gb187 41 #[.int .i64 t188, .int .i64 0] (0, 0) _ rfl (by (with_reducible repeat (first | refine zd ?_ _ | refine ze ?_ | refine zf ?_ _)); refine blk_put (cs := #[.int .i64 t188, .int .i64 0]) ?_ 1 _ rfl; (with_reducible repeat (first | refine zd ?_ _ | refine ze ?_ | refine zf ?_ _)); refine blk_put (cs := #[.int .i64 0, .int .i64 0]) ?_ 0 _ rfl; (with_reducible repeat (first | refine zd ?_ _ | refine ze ?_ | refine zf ?_ _)); exact BK187.out) Try.underlying41 rfl (by kernel_rfl)) rfl ?_
  exact ⟨by first | rfl | (simp [errW_none, errW_some] <;> rfl) | (simp [*, errW_none, errW_some] <;> rfl), by repeat (first | (with_reducible first | exact HB.out | apply zg | apply zh | apply zi | refine zy ?_ GE187.out) | exact HB.out)⟩


/-! ### impl_Hit_44: function 44, by hand -/
-- info 31
theorem fblk_setCells {g t : Nat} : ∀ (vs : List Value) (o : Nat) (w : World) (cs : Array Value), w.heap[g]? = some (.cells cs t (0, 0)) → o + vs.length ≤ cs.size →
    ∃ cs', (w.setCells g o vs).heap[g]? = some (.cells cs' t (0, 0)) ∧ cs'.size = cs.size ∧ ∀ j, j < o → cs'.toList[j]? = cs.toList[j]?
  | [], o, w, cs, h, _ => ⟨cs, h, rfl, fun j _ => rfl⟩
  | v :: r, o, w, cs, h, hs => by
    simp only [List.length_cons] at hs
    obtain ⟨cs', h1, h2, h3⟩ := fblk_setCells r (o + 1) (w.setCell ⟨g, o, none⟩ v) (cs.setIfInBounds o v) (blk_set h o v) (by rw [Array.size_setIfInBounds]; omega)
    refine ⟨cs', h1, by rw [h2, Array.size_setIfInBounds], fun j hj => ?_⟩
    rw [h3 j (by omega)]
    simp only [Array.toList_setIfInBounds, List.getElem?_set]
    rw [if_neg (by omega)]
theorem frun_clear_cells {P : Program} (w : World) (t e ty : TypeId) (z : Value) (zcells : List Value) (ht : P.underlying t = some (.slice e)) (hv : ∀ w, (zeroValue e).run P w = .ok z w) (b o n c : Nat) (hn : 0 < n) (hzs : (Builtin.zeroCells z.cells n).toList = zcells) (h1 : ∀ v ∈ zcells, v.oneCell' = true)
    (hc : ∀ j, j < zcells.length → (w.cell? ⟨b, o + j, none⟩).isSome = true) (hf : ∀ j, j < zcells.length → w.frozen? ⟨b, o + j, none⟩ = false) :
    (Builtin.clear_ #[t] ty #[.slice (some ⟨b, o, none⟩) n c]).run P w = .ok (.tuple #[]) (w.setCells b o zcells) := by
  have hst := run_storeCells_cells (P := P) b o zcells 0 w (by simpa using hc) (by simpa using hf) h1
  simp only [Nat.add_zero] at hst
  obtain ⟨m, rfl⟩ : ∃ m, n = m + 1 := ⟨n - 1, by omega⟩
  simp [Builtin.clear_, run_underlying ht, hv, hzs, hst]
theorem fgrown_setCells (g : Nat) : ∀ (vs : List Value) (o : Nat) (w : World), w.grownBy (w.setCells g o vs) (some g)
  | [], o, w => ⟨rfl, rfl, rfl, Nat.le_refl _, fun _ _ _ => rfl⟩
  | v :: r, o, w => by
    have h := fgrown_setCells g r (o + 1) (w.setCell ⟨g, o, none⟩ v)
    have hs : (w.setCell ⟨g, o, none⟩ v).heap.size = w.heap.size := by simp [World.setCell]
    exact ⟨h.os, h.tape, h.output, hs ▸ h.size, fun k hk hne => (h.block k (by rw [hs]; exact hk) hne).trans (Below.heap_setCell w ⟨g, o, none⟩ v k (fun e => hne (by rw [e])))⟩
theorem fgrown_trans {w w1 w2 : World} {r : Option Nat} (h : w.grownBy w1 r) (k : w1.grownBy w2 r) : w.grownBy w2 r :=
  ⟨k.os.trans h.os, k.tape.trans h.tape, k.output.trans h.output, Nat.le_trans h.size k.size, fun j hj hne => (k.block j (Nat.lt_of_lt_of_le hj h.size) hne).trans (h.block j hj hne)⟩
theorem fgrown_below {w w1 w2 : World} {r : Option Nat} (h : w.grownBy w1 r) (k : Below w1.heap.size w1 w2) : w.grownBy w2 r :=
  ⟨k.os.trans h.os, k.tape.trans h.tape, k.output.trans h.output, Nat.le_trans h.size k.size, fun j hj hne => (k.block j (Nat.lt_of_lt_of_le hj h.size)).trans (h.block j hj hne)⟩
/-- A row, its first elements alone, behind stores into what lies behind them. -/
theorem fR_cut {w w1 : World} {g c base : Nat} {ok : Nat → Prop} {xs : List S31} (h : Kd.R k31 31 w base ok (.slice (some ⟨g, 0, none⟩) xs.length c) xs) (hg : w.grownBy w1 (some g)) (i : Nat) (hi : i ≤ xs.length)
    (hc : ∀ cur, w.heap[g]? = some (.cells cur 31 (0, 0)) → cur.size = c * 4 → ∃ cur', w1.heap[g]? = some (.cells cur' 31 (0, 0)) ∧ cur'.size = cur.size ∧ ∀ j, j < i * 4 → cur'.toList[j]? = cur.toList[j]?) :
    Kd.R k31 31 w1 base ok (.slice (some ⟨g, 0, none⟩) i c) (xs.take i) := by
  obtain ⟨hok, inner, ⟨hl, hown⟩, hr⟩ := h
  rcases hown with ⟨h, _⟩ | ⟨g', cap, cur, he, hbase, hh, hcap, hmax, hcs, htake⟩
  · cases h
  have hg' : g' = g ∧ cap = c := by
    injection he with h1 h2 h3
    injection h1 with h1
    injection h1 with h1
    exact ⟨h1.symm, h3.symm⟩
  obtain ⟨rfl, rfl⟩ := hg'
  have hsz4 : k31.sz = 4 := rfl
  rw [hsz4] at hcs htake hl hr
  obtain ⟨cur', hb', hs', hp'⟩ := hc cur hh hcs
  have hli : (xs.take i).length = i := by rw [List.length_take]; omega
  have hlen' : (cur'.toList.take (i * 4)).length = i * 4 := by rw [List.length_take, Array.length_toList, hs', hcs]; omega
  refine ⟨hok, cur'.toList.take (i * 4), ⟨by rw [hlen', hli]; rfl, .inr ⟨g', cap, cur', by rw [hli], hbase, hb', by omega, hmax, by rw [hs', hcs]; rfl, by rw [hli]; rfl⟩⟩, ⟨by rw [hlen', hli]; rfl, fun j p hj => ?_⟩⟩
  have hji : j < i := by
    rcases Nat.lt_or_ge j i with h | h
    · exact h
    · rw [List.getElem?_eq_none (by rw [hli]; exact h)] at hj
      cases hj
  rw [List.getElem?_take_of_lt hji] at hj
  have hM := hr.2 j p hj
  have he2 : ((cur'.toList.take (i * 4)).drop (j * 4)).take 4 = (inner.drop (j * 4)).take 4 := by
    apply List.ext_getElem?
    intro t
    by_cases c2 : t < 4
    · rw [List.getElem?_take_of_lt c2, List.getElem?_take_of_lt c2, List.getElem?_drop, List.getElem?_drop, List.getElem?_take_of_lt (by omega), hp' _ (by omega), ← htake, List.getElem?_take_of_lt (by omega)]
    · rw [List.getElem?_eq_none (by rw [List.length_take]; omega), List.getElem?_eq_none (by rw [List.length_take]; omega)]
  rw [hsz4, he2]
  exact Kd.M_grown hM hg (fun k hk => hk.2)
def flB (tag : Int) (x : S31) : Bool := x.f0 == tag
def flIdx (tag : Int) : List S31 → Int → Int
  | [], _ => -1
  | x :: t, i => if flB tag x = true then i else flIdx tag t (i + 1)
theorem fl_1.calls (x0 x1 x2 x3 tag : Int) (b1 : Nat) (b : Bool) (w : World) (h1 : w.cell? ⟨b1, 0, none⟩ = some (.int .i64 tag)) (h : (x0 == tag) = b) :
    Calls Try.prog 46 #[.agg #[.int .i64 x0, .int .i64 x1, .int .i64 x2, .int .i64 x3], .pointer (some ⟨b1, 0, none⟩)] w fun e w' => e = .returned (.bool b) ∧ Below w.heap.size w w' := by
  have g1 : ∀ o : Obj, (w.alloc o).cell? ⟨b1, 0, none⟩ = some (.int .i64 tag) := fun o => (World.cell?_alloc_lt _ _ _ (World.block_lt_of_cell? w _ h1)).trans h1
  clear h1
  subst h
  go_enter Try.func46, Try.ntmps46
  go_wp2
  go_ret
  exact ⟨rfl, by repeat (first | exact Below.refl _ _ | apply below_alloc | apply pw_below_drewN | apply below_drew)⟩
theorem flIdx_cons (tag : Int) (l : List S31) (i : Nat) (h : i < l.length) : flIdx tag (l.drop i) (i : Int) = if ((rd_T31 l (i : Int)).f0 == tag) = true then (i : Int) else flIdx tag (l.drop (i + 1)) ((i + 1 : Nat) : Int) := by
  have e : rd_T31 l (i : Int) = l[i] := by unfold rd_T31; rw [Int.toNat_natCast, List.getD_eq_getElem?_getD, List.getElem?_eq_getElem h]; rfl
  rw [e, List.drop_eq_getElem_cons h]
  rfl
theorem flIdx_end (tag : Int) (l : List S31) (i : Nat) (h : l.length ≤ i) : flIdx tag (l.drop i) (i : Int) = -1 := by rw [List.drop_eq_nil_of_le h]; rfl
set_option maxHeartbeats 2000000 in
set_option maxRecDepth 100000 in
theorem indexFl.calls (A0 : Option Addr) (c0 : Nat) (l0 : List S31) (tag r : Int) (b1 : Nat) (w : World) (hr0 : Kd.C k31 w A0 l0.length l0) (hc0 : l0.length ≤ c0) (h1 : w.cell? ⟨b1, 0, none⟩ = some (.int .i64 tag)) (h : flIdx tag (l0.drop 0) ((0 : Nat) : Int) = r) :
    Calls Try.prog 59 #[.slice A0 l0.length c0, .func (.func 46) #[] #[.pointer (some ⟨b1, 0, none⟩)]] w fun e w' => e = .returned (.int .i64 r) ∧ Below w.heap.size w w' := by
  have hu := Try.underlying31
  have HM := hr0.2.1
  have HR0 := Aside0.mk hr0
  have HC0 := Aside0.mk hc0
  have H0 := Aside0.mk h
  have H1 := Aside0.mk h1
  clear hr0 hc0 h h1
  go_enter Try.func59, Try.ntmps59
  go_wp2
  go_loopg [5, 8] l0.length (fun kq v5 v8 w' => ∃ (i : Nat), v8 = .int .i64 (i : Int) ∧ Aside0 (i + kq = l0.length) ∧ Aside0 (flIdx tag (l0.drop i) (i : Int) = r) ∧ Aside0 (Below w.heap.size w w'))
  case atStart => exact ⟨0, rfl, ⟨by omega⟩, H0, ⟨Below.refl _ _⟩⟩
  case round =>
    obtain ⟨i, rfl, HK, HI, HB⟩ := hrel
    have g1 := Aside0.mk ((HB.out.cell (World.block_lt_of_cell? w _ H1.out)).trans H1.out)
    by_cases hlt : i < l0.length
    · have hc := flIdx_cons tag l0 i hlt
      rw [HI.out] at hc
      clear HI
      have p101 : 0 ≤ (i : Int) := Int.natCast_nonneg i
      have q101 : (i : Int) < (l0.length : Int) := by omega
      obtain ⟨ad101, e101, hx0, hx1, hx2, hx3⟩ := at_T31 (Kd.C_below HR0.out HB.out) (i : Int) p101 q101
      cases e101
      rw [Int.toNat_natCast] at hx0 hx1 hx2 hx3
      cases hb : ((rd_T31 l0 (i : Int)).f0 == tag) with
      | false =>
        rw [hb, if_neg (by decide)] at hc
        have HN := Aside0.mk hc.symm
        have Hb := Aside0.mk hb
        clear hc hb
        go_wp2_with (go_at_call 46; refine (fl_1.calls _ _ _ _ tag b1 false _ g1.out Hb.out).mono ?_; rintro e w' ⟨rfl, hbb⟩; have HB2 := Aside0.mk (below_step HB.out hbb); clear hbb HB)
        obtain ⟨kq, rfl⟩ : ∃ m, gk = m + 1 := ⟨gk - 1, by have := HK.out; omega⟩
        go_roundg kq
        case measure => omega
        case rel => exact ⟨i + 1, by go_num, ⟨by have := HK.out; omega⟩, HN, ⟨by repeat (first | exact HB2.out | apply pw_below_drewN | apply below_drew1)⟩⟩
      | true =>
        rw [hb, if_pos rfl] at hc
        subst hc
        have Hb := Aside0.mk hb
        clear hb
        go_wp2_with (go_at_call 46; refine (fl_1.calls _ _ _ _ tag b1 true _ g1.out Hb.out).mono ?_; rintro e w' ⟨rfl, hbb⟩; have HB2 := Aside0.mk (below_step HB.out hbb); clear hbb HB)
        go_ret
        exact ⟨rfl, by repeat (first | exact HB2.out | apply pw_below_drewN | apply below_drew1)⟩
    · have hc := flIdx_end tag l0 i (by omega)
      rw [HI.out] at hc
      subst hc
      clear HI
      go_wp2
      go_ret
      exact ⟨rfl, by repeat (first | exact HB.out | apply pw_below_drewN | apply below_drew1)⟩
theorem flIdx_spec (tag : Int) (l : List S31) : ∀ i : Int, (flIdx tag l i = -1 ∧ l.filter (fun x => !flB tag x) = l) ∨ ∃ (n : Nat) (x : S31), l[n]? = some x ∧ flIdx tag l i = i + (n : Int) ∧ flB tag x = true ∧ (l.take n).filter (fun x => !flB tag x) = l.take n := by
  induction l with
  | nil => intro i; exact .inl ⟨rfl, rfl⟩
  | cons x t ih =>
    intro i
    unfold flIdx
    cases hb : flB tag x with
    | true => exact .inr ⟨0, x, rfl, by simp, hb, rfl⟩
    | false =>
      rw [if_neg (by decide)]
      rcases ih (i + 1) with ⟨h1, h2⟩ | ⟨n, y, h1, h2, h3, h4⟩
      · exact .inl ⟨h1, by rw [List.filter_cons, hb, h2]; rfl⟩
      · exact .inr ⟨n + 1, y, h1, by rw [h2]; omega, h3, by rw [List.take_succ_cons, List.filter_cons, hb, h4]; rfl⟩
def impl_Hit_44.f (l0 : List S31) (a1 : Int) : Option (List S31) := some (l0.filter (fun x => !flB a1 x))
theorem fkept_len (tag : Int) (l : List S31) (n j : Nat) (x : S31) (h : l[n]? = some x) (hx : flB tag x = true) (hj : n < j) : ((l.take j).filter (fun x => !flB tag x)).length < j := by
  have hn : n < l.length := (List.getElem?_eq_some_iff.1 h).1
  have h1 := List.length_filter_lt_length_iff_exists (p := fun x => !flB tag x) (l := l.take j)
  have h2 : ((l.take j).filter (fun x => !flB tag x)).length < (l.take j).length := h1.mpr ⟨x, List.mem_iff_getElem?.mpr ⟨n, by rw [List.getElem?_take_of_lt hj]; exact h⟩, by simp [hx]⟩
  rw [List.length_take] at h2
  omega
set_option maxHeartbeats 8000000 in
set_option maxRecDepth 100000 in
theorem delF.calls (A0 : Option Addr) (c0 : Nat) (l0 : List S31) (tag : Int) (b1 : Nat) (w : World) (base : Nat) (ok : Nat → Prop) (ho : Kd.R k31 31 w base ok (.slice A0 l0.length c0) l0) (hbx : w.heap[b1]? = some (.cells #[.int .i64 tag] 2 (0, 0))) (hne : some b1 ≠ (.slice A0 l0.length c0 : Value).ownBlock) :
    Calls Try.prog 44 #[.slice A0 l0.length c0, .func (.func 46) #[] #[.pointer (some ⟨b1, 0, none⟩)]] w fun e w' => ∃ v, e = .returned v ∧ Kd.R k31 31 w' base ok v (l0.filter (fun x => !flB tag x)) ∧ w.grownBy w' (.slice A0 l0.length c0 : Value).ownBlock := by
  have hu := Try.underlying31
  have hu26 := Try.underlying26
  have HO := Aside0.mk ho
  have HBX := Aside0.mk hbx
  have HNE := Aside0.mk hne
  have hr := Kd.R_reads' ho
  have HRC := Aside0.mk hr.2.2
  have HCC := Aside0.mk hr.2.1
  have hx1 : w.cell? ⟨b1, 0, none⟩ = some (.int .i64 tag) := (blk_cell hbx 0).trans rfl
  have HX1 := Aside0.mk hx1
  have hHM := hr.2.2.2.1
  clear ho hbx hne hr hx1
  rcases flIdx_spec tag l0 0 with ⟨hi, hf⟩ | ⟨n0, x0, hx0, hi, hbx0, hf⟩
  · have HI := Aside0.mk (show flIdx tag (l0.drop 0) ((0 : Nat) : Int) = -1 from hi)
    have HF := Aside0.mk hf
    clear hi hf
    go_enter Try.func44, Try.ntmps44
    go_wp2_with (go_at_call 59; refine (indexFl.calls _ _ l0 tag (-1) b1 _ HRC.out HCC.out HX1.out HI.out).mono ?_; rintro e w' ⟨rfl, hb⟩; have HB2 := Aside0.mk hb; clear hb)
    go_ret
    refine ⟨_, rfl, ?_, ?_⟩
    · rw [HF.out]
      exact Kd.R_below HO.out HB2.out
    · exact ⟨HB2.out.os, HB2.out.tape, HB2.out.output, HB2.out.size, fun k hk _ => HB2.out.block k hk⟩
  · have hn0 : n0 < l0.length := (List.getElem?_eq_some_iff.1 hx0).1
    obtain ⟨go_, co_, eo_, gb_, gl_, cl_, HG_⟩ := Kd.R_form HO.out (by omega)
    have hA : A0 = some ⟨go_, 0, none⟩ ∧ c0 = co_ := by
      injection eo_ with h1 h2 h3
      exact ⟨h1, h3⟩
    obtain ⟨rfl, rfl⟩ := hA
    clear eo_ HG_ cl_
    have HI := Aside0.mk (show flIdx tag (l0.drop 0) ((0 : Nat) : Int) = (n0 : Int) from by show flIdx tag l0 0 = (n0 : Int); rw [hi]; omega)
    have hneg : ((n0 : Int) == -1) = false := beq_eq_false_iff_ne.mpr (by omega)
    have HF := Aside0.mk hf
    have HX0 := Aside0.mk (And.intro hx0 hbx0)
    have HCM : c0 ≤ 9223372036854775807 := by
      obtain ⟨_, _, ⟨_, hown⟩, _⟩ := HO.out
      rcases hown with ⟨h, _⟩ | ⟨g', cap, cur, he, _, _, _, hmax, _⟩
      · cases h
      · injection he with h1 h2 h3
        unfold maxLen at hmax
        omega
    clear hi hf hx0 hbx0
    have HC0 := HCC.out
    go_enter Try.func44, Try.ntmps44
    go_wp2_with (go_at_call 59; refine (indexFl.calls _ _ l0 tag (n0 : Int) b1 _ HRC.out HCC.out HX1.out HI.out).mono ?_; rintro e w' ⟨rfl, hb⟩; have HB2 := Aside0.mk hb; clear hb)
    go_loopg [5, 6] l0.length (fun gg s5 s6 wr => ∃ (i j : Nat) (xs : List S31), s5 = .int .i64 (i : Int) ∧ s6 = .int .i64 (j : Int) ∧ Aside0 (i < j ∧ j ≤ l0.length ∧ l0.length - j ≤ gg ∧ n0 < j) ∧ Aside0 (xs.length = l0.length ∧ xs.take i = (l0.take j).filter (fun x => !flB tag x) ∧ xs.drop j = l0.drop j) ∧ Aside0 (Kd.R k31 31 wr base ok (.slice (some ⟨go_, 0, none⟩) l0.length c0) xs) ∧ Aside0 (w.grownBy wr (some go_)))
    case atStart =>
      refine ⟨n0, n0 + 1, l0, rfl, by go_num, ⟨by omega⟩, ⟨rfl, ?_, rfl⟩, ⟨Kd.R_below HO.out HB2.out⟩, ⟨⟨HB2.out.os, HB2.out.tape, HB2.out.output, HB2.out.size, fun k hk _ => HB2.out.block k hk⟩⟩⟩
      rw [List.take_succ_eq_append_getElem hn0, List.filter_append, HF.out]
      have e1 : l0[n0] = x0 := (List.getElem?_eq_some_iff.1 HX0.out.1).2
      rw [e1, List.filter_cons, HX0.out.2]
      simp
    case round =>
      obtain ⟨i, j, xs, rfl, rfl, HIJ, HXS, HR, HG⟩ := hrel
      have HBr := Aside0.mk (Below.refl wr.heap.size wr)
      have gbx := blk_grown HBX.out HG.out HNE.out
      have G1 := Aside0.mk (show wr.cell? ⟨b1, 0, none⟩ = some (.int .i64 tag) from (blk_cell gbx 0).trans rfl)
      clear gbx
      have hxl := HXS.out.1
      by_cases hlt : j < l0.length
      · have p101 : 0 ≤ (j : Int) := Int.natCast_nonneg j
        have q101 : (j : Int) < (l0.length : Int) := by omega
        have hrd : rd_T31 xs (j : Int) = rd_T31 l0 (j : Int) := by
          have e : xs[j]? = l0[j]? := by
            have := congrArg (fun t : List S31 => t[0]?) HXS.out.2.2
            simpa using this
          unfold rd_T31
          rw [Int.toNat_natCast, List.getD_eq_getElem?_getD, List.getD_eq_getElem?_getD, e]
        obtain ⟨ce10, hcl10, hM10, hcc10, hfr10⟩ := Kd.R_elem HR.out z31 (j : Int) p101 q101
        obtain rfl := k31_openM hM10
        have hx10_0 : wr.cell? ⟨go_, j * 4, none⟩ = some (.int .i64 ((rd_T31 xs (j : Int)).f0)) := hcc10 0 _ rfl
        have hx10_1 : wr.cell? ⟨go_, j * 4 + 1, none⟩ = some (.int .i64 ((rd_T31 xs (j : Int)).f1)) := hcc10 1 _ rfl
        have hx10_2 : wr.cell? ⟨go_, j * 4 + 2, none⟩ = some (.int .i64 ((rd_T31 xs (j : Int)).f2)) := hcc10 2 _ rfl
        have hx10_3 : wr.cell? ⟨go_, j * 4 + 3, none⟩ = some (.int .i64 ((rd_T31 xs (j : Int)).f3)) := hcc10 3 _ rfl
        clear hcl10 hcc10 hfr10 hM10
        rw [hrd] at hx10_0 hx10_1 hx10_2 hx10_3
        have hkeep : flB tag (rd_T31 l0 (j : Int)) = ((rd_T31 l0 (j : Int)).f0 == tag) := rfl
        have hl0j : l0[j]? = some (rd_T31 l0 (j : Int)) := by
          unfold rd_T31
          rw [Int.toNat_natCast, List.getD_eq_getElem?_getD, List.getElem?_eq_getElem hlt]
          rfl
        have HL0 := Aside0.mk hl0j
        have htk : l0.take (j + 1) = l0.take j ++ [rd_T31 l0 (j : Int)] := by
          rw [List.take_add_one, hl0j]
          rfl
        have HTK := Aside0.mk htk
        have HKP := Aside0.mk hkeep
        clear hrd hl0j htk hkeep
        generalize rd_T31 l0 (j : Int) = X at *
        cases hb : (X.f0 == tag) with
        | true =>
          have Hb := Aside0.mk hb
          clear hb
          go_wp2_with (first | ((with_reducible refine gate_dst (N := 7) rfl ?_); refine box_event ?hg (N := 7) ?hd (cs := #[.int .i64 0, .int .i64 0, .int .i64 0, .int .i64 0]) (t := 31) ?hr ?_; (case hd => rfl); (case hg => rfl); (case hr => first | (go_simp; done) | (go_simp; rfl)); intro gb7 hg w12 hbox hb; have n0_ := Aside0.mk (below_step HBr.out hb); have n3_ := Aside0.mk ((by rw [hg]; exact below_size HBr.out) : wr.heap.size ≤ gb7); clear HBr; have HBr := n0_; have BK7 := Aside0.mk hbox; have GE7 := n3_; clear n0_ n3_; clear hb hbox hg; have hcz13_0 : w12.cell? ⟨gb7, 0, none⟩ = some (.int .i64 0) := (blk_cell BK7.out 0).trans rfl; have hcz13_1 : w12.cell? ⟨gb7, 1, none⟩ = some (.int .i64 0) := (blk_cell BK7.out 1).trans rfl; have hcz13_2 : w12.cell? ⟨gb7, 2, none⟩ = some (.int .i64 0) := (blk_cell BK7.out 2).trans rfl; have hcz13_3 : w12.cell? ⟨gb7, 3, none⟩ = some (.int .i64 0) := (blk_cell BK7.out 3).trans rfl; have hfz13_0 := blk_frozen BK7.out 0; have hfz13_1 := blk_frozen BK7.out 1; have hfz13_2 := blk_frozen BK7.out 2; have hfz13_3 := blk_frozen BK7.out 3) | (go_at_call 46; refine (fl_1.calls X.f0 X.f1 X.f2 X.f3 tag b1 true _ ?h1 Hb.out).mono ?_; (case h1 => exact ((show Below wr.heap.size wr _ from (by repeat (first | (with_reducible first | exact HBr.out | apply below_alloc | apply pw_below_drewN | apply below_drew1 | refine below_set ?_ GE7.out) | exact HBr.out))).cell (World.block_lt_of_cell? wr _ G1.out)).trans G1.out); rintro e w3 ⟨rfl, hb⟩; have n0_ := Aside0.mk (below_step (by repeat (first | (with_reducible first | exact HBr.out | apply below_alloc | apply pw_below_drewN | apply below_drew1 | refine below_set ?_ GE7.out) | exact HBr.out)) hb); have n1_ := Aside0.mk (blk_below (g := gb7) (o := .cells #[.int .i64 X.f0, .int .i64 X.f1, .int .i64 X.f2, .int .i64 X.f3] 31 (0, 0)) (by (with_reducible repeat (first | refine blk_drewN ?_ _ | refine blk_drew ?_ | refine blk_alloc ?_ _)); refine blk_put (cs := #[.int .i64 X.f0, .int .i64 X.f1, .int .i64 X.f2, .int .i64 0]) ?_ 3 _ rfl; refine blk_put (cs := #[.int .i64 X.f0, .int .i64 X.f1, .int .i64 0, .int .i64 0]) ?_ 2 _ rfl; refine blk_put (cs := #[.int .i64 X.f0, .int .i64 0, .int .i64 0, .int .i64 0]) ?_ 1 _ rfl; refine blk_put (cs := #[.int .i64 0, .int .i64 0, .int .i64 0, .int .i64 0]) ?_ 0 _ rfl; exact BK7.out) hb); clear HBr BK7; have HBr := n0_; have BK7 := n1_; clear n0_ n1_ hb))
          go_roundg (l0.length - (j + 1))
          case measure => have := HIJ.out; omega
          case rel =>
            refine ⟨i, j + 1, xs, rfl, by go_num, ⟨by have := HIJ.out; omega⟩, ⟨HXS.out.1, ?_, ?_⟩, ⟨Kd.R_below HR.out HBr.out⟩, ⟨fgrown_below HG.out HBr.out⟩⟩
            · rw [HTK.out, List.filter_append, ← HXS.out.2.1, List.filter_cons, HKP.out, Hb.out]
              simp
            · have := congrArg (List.drop 1) HXS.out.2.2
              simpa [List.drop_drop] using this
        | false =>
          have Hb := Aside0.mk hb
          clear hb
          go_wp2_with (first | ((with_reducible refine gate_dst (N := 7) rfl ?_); refine box_event ?hg (N := 7) ?hd (cs := #[.int .i64 0, .int .i64 0, .int .i64 0, .int .i64 0]) (t := 31) ?hr ?_; (case hd => rfl); (case hg => rfl); (case hr => first | (go_simp; done) | (go_simp; rfl)); intro gb7 hg w12 hbox hb; have n0_ := Aside0.mk (below_step HBr.out hb); have n3_ := Aside0.mk ((by rw [hg]; exact below_size HBr.out) : wr.heap.size ≤ gb7); clear HBr; have HBr := n0_; have BK7 := Aside0.mk hbox; have GE7 := n3_; clear n0_ n3_; clear hb hbox hg; have hcz13_0 : w12.cell? ⟨gb7, 0, none⟩ = some (.int .i64 0) := (blk_cell BK7.out 0).trans rfl; have hcz13_1 : w12.cell? ⟨gb7, 1, none⟩ = some (.int .i64 0) := (blk_cell BK7.out 1).trans rfl; have hcz13_2 : w12.cell? ⟨gb7, 2, none⟩ = some (.int .i64 0) := (blk_cell BK7.out 2).trans rfl; have hcz13_3 : w12.cell? ⟨gb7, 3, none⟩ = some (.int .i64 0) := (blk_cell BK7.out 3).trans rfl; have hfz13_0 := blk_frozen BK7.out 0; have hfz13_1 := blk_frozen BK7.out 1; have hfz13_2 := blk_frozen BK7.out 2; have hfz13_3 := blk_frozen BK7.out 3) | (go_at_call 46; refine (fl_1.calls X.f0 X.f1 X.f2 X.f3 tag b1 false _ ?h1 Hb.out).mono ?_; (case h1 => exact ((show Below wr.heap.size wr _ from (by repeat (first | (with_reducible first | exact HBr.out | apply below_alloc | apply pw_below_drewN | apply below_drew1 | refine below_set ?_ GE7.out) | exact HBr.out))).cell (World.block_lt_of_cell? wr _ G1.out)).trans G1.out); rintro e w3 ⟨rfl, hb⟩; have n0_ := Aside0.mk (below_step (by repeat (first | (with_reducible first | exact HBr.out | apply below_alloc | apply pw_below_drewN | apply below_drew1 | refine below_set ?_ GE7.out) | exact HBr.out)) hb); have n1_ := Aside0.mk (blk_below (g := gb7) (o := .cells #[.int .i64 X.f0, .int .i64 X.f1, .int .i64 X.f2, .int .i64 X.f3] 31 (0, 0)) (by (with_reducible repeat (first | refine blk_drewN ?_ _ | refine blk_drew ?_ | refine blk_alloc ?_ _)); refine blk_put (cs := #[.int .i64 X.f0, .int .i64 X.f1, .int .i64 X.f2, .int .i64 0]) ?_ 3 _ rfl; refine blk_put (cs := #[.int .i64 X.f0, .int .i64 X.f1, .int .i64 0, .int .i64 0]) ?_ 2 _ rfl; refine blk_put (cs := #[.int .i64 X.f0, .int .i64 0, .int .i64 0, .int .i64 0]) ?_ 1 _ rfl; refine blk_put (cs := #[.int .i64 0, .int .i64 0, .int .i64 0, .int .i64 0]) ?_ 0 _ rfl; exact BK7.out) hb); clear HBr BK7; have HBr := n0_; have BK7 := n1_; clear n0_ n1_ hb; have HR2 := Aside0.mk (Kd.R_below HR.out HBr.out); have HG2 := Aside0.mk (fgrown_below HG.out HBr.out); have hcz14_0 : w3.cell? ⟨gb7, 0, none⟩ = some (.int .i64 X.f0) := (blk_cell BK7.out 0).trans rfl; have hcz14_1 : w3.cell? ⟨gb7, 1, none⟩ = some (.int .i64 X.f1) := (blk_cell BK7.out 1).trans rfl; have hcz14_2 : w3.cell? ⟨gb7, 2, none⟩ = some (.int .i64 X.f2) := (blk_cell BK7.out 2).trans rfl; have hcz14_3 : w3.cell? ⟨gb7, 3, none⟩ = some (.int .i64 X.f3) := (blk_cell BK7.out 3).trans rfl; have p12 : 0 ≤ (i : Int) := Int.natCast_nonneg i; have q12 : (i : Int) < (l0.length : Int) := (by have := HIJ.out; omega); obtain ⟨ce12, hcl12, hM12, hcc12, hfr12⟩ := Kd.R_elem HR2.out z31 (i : Int) p12 q12; obtain rfl := k31_openM hM12; have hP12 := Kd.R_seg HR2.out (i : Int) p12 q12 (seg := [.int .i64 X.f0, .int .i64 X.f1, .int .i64 X.f2, .int .i64 X.f3]) (j := 0) hcl12 hcc12 (show 4 ≤ 4 from by decide) (x' := X) (k31_mkM _ _ _ X) (fun _ hk => hk); rw [Int.toNat_natCast] at hP12; have HP12 := Aside0.mk hP12; clear hP12; have hx12_0 : w3.cell? ⟨go_, i * 4, none⟩ = _ := hcc12 0 _ rfl; have hx12_1 : w3.cell? ⟨go_, i * 4 + 1, none⟩ = _ := hcc12 1 _ rfl; have hx12_2 : w3.cell? ⟨go_, i * 4 + 2, none⟩ = _ := hcc12 2 _ rfl; have hx12_3 : w3.cell? ⟨go_, i * 4 + 3, none⟩ = _ := hcc12 3 _ rfl; have hf12_0 : w3.frozen? ⟨go_, i * 4, none⟩ = false := hfr12 0; have hf12_1 : w3.frozen? ⟨go_, i * 4 + 1, none⟩ = false := hfr12 1; have hf12_2 : w3.frozen? ⟨go_, i * 4 + 2, none⟩ = false := hfr12 2; have hf12_3 : w3.frozen? ⟨go_, i * 4 + 3, none⟩ = false := hfr12 3; clear hcl12 hcc12 hfr12 hM12) | ((with_reducible refine gate_store (t := 31) (p := 33) rfl ?_); refine store_event (t := 31) (p := 33) (v := ?vo_) (w1 := ((((w3.setCell ⟨go_, i * 4, none⟩ (.int .i64 X.f0)).setCell ⟨go_, i * 4 + 1, none⟩ (.int .i64 X.f1)).setCell ⟨go_, i * 4 + 2, none⟩ (.int .i64 X.f2)).setCell ⟨go_, i * 4 + 3, none⟩ (.int .i64 X.f3))) ?hg ?ho ?hn ?hr ?_; (case ho => rfl); (case hg => rfl); (case hn => rfl); (case hr => first | (go_simp; done) | (go_simp; rfl)); intro w13 hw; have HR3 := Aside0.mk (show Kd.R k31 31 w13 base ok (.slice (some ⟨go_, 0, none⟩) l0.length c0) (xs.set i X) from (by rw [hw]; exact HP12.out.1)); have HG3 := Aside0.mk (fgrown_trans HG2.out (show w3.grownBy w13 (some go_) from (by rw [hw]; exact HP12.out.2))); clear HR2 HG2 HP12 hw))
          go_roundg (l0.length - (j + 1))
          case measure => have := HIJ.out; omega
          case rel =>
            refine ⟨i + 1, j + 1, xs.set i X, by go_num, by go_num, ⟨by have := HIJ.out; omega⟩, ⟨by rw [List.length_set]; exact HXS.out.1, ?_, ?_⟩, HR3, HG3⟩
            · have hil : i < xs.length := by have := HIJ.out; have := HXS.out.1; omega
              rw [HTK.out, List.filter_append, ← HXS.out.2.1, List.filter_cons, HKP.out, Hb.out, List.take_add_one, List.getElem?_set_self hil, List.take_set_of_le (Nat.le_refl i)]
              rfl
            · rw [List.drop_set_of_lt (by have := HIJ.out; omega)]
              have := congrArg (List.drop 1) HXS.out.2.2
              simpa [List.drop_drop] using this
      · have hjn : j = l0.length := by have := HIJ.out; omega
        have hil : i < l0.length := by have := HIJ.out; omega
        obtain ⟨cur, hcur, hsz, hcap⟩ : ∃ cur, wr.heap[go_]? = some (.cells cur 31 (0, 0)) ∧ cur.size = c0 * 4 ∧ l0.length ≤ c0 := by
          obtain ⟨_, _, ⟨_, hown⟩, _⟩ := HR.out
          rcases hown with ⟨h, _⟩ | ⟨g', cap, cur, he, _, hh, hcap, _, hcs, _⟩
          · cases h
          · injection he with h1 h2 h3
            injection h1 with h1
            injection h1 with h1
            subst h1 h3
            exact ⟨cur, hh, hcs, by rw [hxl] at hcap; exact hcap⟩
        obtain ⟨zcells, hzs⟩ : ∃ zcells, (Builtin.zeroCells (Value.agg #[.int .i64 0, .int .i64 0, .int .i64 0, .int .i64 0]).cells (l0.length - i)).toList = zcells := ⟨_, rfl⟩
        have hzl : zcells.length = (l0.length - i) * 4 := by rw [← hzs]; simp [Builtin.zeroCells, Value.cells]
        have hz1 : ∀ v ∈ zcells, v.oneCell' = true := by
          intro v hv
          rw [← hzs] at hv
          simp only [Builtin.zeroCells, Value.cells, Array.toList_map, List.mem_map] at hv
          obtain ⟨q, _, rfl⟩ := hv
          have hq : q % 4 = 0 ∨ q % 4 = 1 ∨ q % 4 = 2 ∨ q % 4 = 3 := by omega
          rcases hq with h | h | h | h <;> simp [h, Value.oneCell']
        have hcl : (Builtin.clear_ #[26] 0 #[.slice (some ⟨go_, i * 4, none⟩) (l0.length - i) (c0 - i)]).run Try.prog wr = .ok (.tuple #[]) (wr.setCells go_ (i * 4) zcells) := by
          refine frun_clear_cells wr 26 31 0 _ zcells Try.underlying26 (fun w => by kernel_rfl) go_ (i * 4) (l0.length - i) _ (by omega) hzs hz1 (fun q hq => ?_) (fun q _ => blk_frozen hcur _)
          rw [blk_cell hcur, Array.getElem?_eq_getElem (by rw [hsz]; omega)]
          rfl
        have hci : c0 ≠ i := by omega
        have hic : i ≤ c0 := by omega
        have p0 : (0 : Int) ≤ (i : Int) := by omega
        have p1 : (i : Int) ≤ (l0.length : Int) := by omega
        have p2 : (i : Int) ≤ (c0 : Int) := by omega
        have hfin := Aside0.mk (show Kd.R k31 31 (wr.setCells go_ (i * 4) zcells) base ok (.slice (some ⟨go_, 0, none⟩) i c0) (l0.filter (fun x => !flB tag x)) from by
          have h2 : xs.take i = l0.filter (fun x => !flB tag x) := by rw [HXS.out.2.1, hjn, List.take_length]
          rw [← h2]
          refine fR_cut (by rw [hxl]; exact HR.out) (fgrown_setCells go_ zcells (i * 4) wr) i (by omega) (fun cur2 h3 h4 => ?_)
          rw [hcur] at h3
          injection h3 with h3
          injection h3 with h3
          subst h3
          obtain ⟨cs', q1, q2, q3⟩ := fblk_setCells (t := 31) zcells (i * 4) wr cur hcur (by rw [hzl, hsz]; omega)
          exact ⟨cs', q1, q2, q3⟩)
        have hgf := Aside0.mk (fgrown_trans HG.out (fgrown_setCells go_ zcells (i * 4) wr))
        clear hcur hzs hz1 hzl hsz
        go_wp2
        go_ret
        exact ⟨_, rfl, hfin.out, hgf.out⟩
theorem impl_Hit_44.calls (A0 : Option Addr) (c0 : Nat) (l0 : List S31) (a1 : Int) (b1 : Nat) (r : List S31) (w : World) (base : Nat) (ok : Nat → Prop) (ho : Kd.R k31 31 w base ok (.slice A0 l0.length c0) l0) (hbx : w.heap[b1]? = some (.cells #[.int .i64 a1] 2 (0, 0))) (hne : some b1 ≠ (.slice A0 l0.length c0 : Value).ownBlock) (h : impl_Hit_44.f l0 a1 = some r) :
    Calls Try.prog 44 #[.slice A0 l0.length c0, .func (.func 46) #[] #[.pointer (some ⟨b1, 0, none⟩)]] w fun e w' => ∃ v, e = .returned v ∧ Kd.R k31 31 w' base ok v r ∧ w.grownBy w' (.slice A0 l0.length c0 : Value).ownBlock := by
  obtain rfl := Option.some.inj h
  exact delF.calls A0 c0 l0 a1 b1 w base ok ho hbx hne

/-! ### impl_FlushCache: function 25 -/
def impl_FlushCache.f (k : Nat) (l0 : List (S31)) (a1 : Int) : Option (Int × Int × Bool × (List (S31))) := (impl_CacheFault.f k l0).bind fun t191 => (if t191 = 0 then ((impl_within.f a1 0 9).bind fun t192 => (if t192 = true then ((impl_Hit_45.f l0).bind fun t193 => ((impl_Hit_44.f t193 a1).bind fun t196 => (some (0, 0, false, t196)))) else (some (3, 0, false, ([] : List (S31)))))) else (some (t191, 0, false, ([] : List (S31)))))
theorem impl_FlushCache.mono : ∀ a0 a1 k, LeO (impl_FlushCache.f k a0 a1) (impl_FlushCache.f (k + 1) a0 a1) := by
  intro a0 a1 k
  unfold impl_FlushCache.f
  repeat' first
      | (with_reducible exact impl_CacheFault.mono _ _)
      | (with_reducible exact LeO.refl _)
      | (with_reducible exact LeO.none _)
      | (with_reducible refine LeO.ite ?_ ?_)
      | (with_reducible refine LeO.bind ?_ (fun _ => ?_))
      | exact impl_CacheFault.mono _ _
      | exact LeO.none _
      | refine LeO.ite ?_ ?_
      | refine LeO.bind ?_ (fun _ => ?_)
set_option maxHeartbeats 8000000 in
set_option maxRecDepth 100000 in
theorem impl_FlushCache.calls (k : Nat) (A0 : Option Addr) (c0 : Nat) (l0 : List (S31)) (a1 : Int) (r1 : Int) (r2 : Int) (r3 : Bool) (r4 : List (S31)) (w : World) (hr0 : Kd.C k31 w A0 l0.length l0) (hc0 : l0.length ≤ c0) (h : impl_FlushCache.f k l0 a1 = some (r1, r2, r3, r4)) :
  Calls Try.prog 25 #[.slice A0 l0.length c0, .int .i64 a1] w fun e w' => ∃ v3_ : Value, e = .returned (.agg #[.int .i64 r1, .int .i64 r2, .bool r3, v3_]) ∧ Kd.R k31 31 w' w.heap.size (fun _ => True) v3_ r4 ∧ Below w.heap.size w w' := by
 have hu28 := Try.underlying28
 have HR0 := zm hr0
 have HC0 := zm hc0
 clear hr0 hc0
 have HB := zm (Below.refl w.heap.size w)
 have H : ((impl_CacheFault.f k l0).bind fun t191 => (if t191 = 0 then ((impl_within.f a1 0 9).bind fun t192 => (if t192 = true then ((impl_Hit_45.f l0).bind fun t193 => ((impl_Hit_44.f t193 a1).bind fun t196 => (some (0, 0, false, t196)))) else (some (3, 0, false, ([] : List (S31)))))) else (some (t191, 0, false, ([] : List (S31)))))) = some (r1, r2, r3, r4) := h
 clear h
 replace H := yH.mp H
 obtain ⟨t191, A30, H⟩ := H
 replace H : (if t191 = 0 then ((impl_within.f a1 0 9).bind fun t192 => (if t192 = true then ((impl_Hit_45.f l0).bind fun t193 => ((impl_Hit_44.f t193 a1).bind fun t196 => (some (0, 0, false, t196)))) else (some (3, 0, false, ([] : List (S31)))))) else (some (t191, 0, false, ([] : List (S31))))) = some (r1, r2, r3, r4) := H
 have A3 := zm A30
 clear A30
 by_cases c4 : t191 = 0
 ·rw [if_pos c4] at H
  have c4b0 : (t191 == 0) = true := beq_iff_eq.mpr c4
  have c4b1 : (t191 != 0) = false := bne_eq_false_iff_eq.mpr c4
  clear c4
  replace H := yH.mp H
  obtain ⟨t192, A50, H⟩ := H
  replace H : (if t192 = true then ((impl_Hit_45.f l0).bind fun t193 => ((impl_Hit_44.f t193 a1).bind fun t196 => (some (0, 0, false, t196)))) else (some (3, 0, false, ([] : List (S31))))) = some (r1, r2, r3, r4) := H
  have A5 := zm A50
  clear A50
  by_cases c6 : t192 = true
  ·subst c6
   rw [if_pos rfl] at H
   replace H := yH.mp H
   obtain ⟨t193, A70, H⟩ := H
   replace H : ((impl_Hit_44.f t193 a1).bind fun t196 => (some (0, 0, false, t196))) = some (r1, r2, r3, r4) := H
   have A7 := zm A70
   clear A70
   replace H := yH.mp H
   obtain ⟨t196, A80, H⟩ := H
   replace H : (some (0, 0, false, t196)) = some (r1, r2, r3, r4) := H
   have A8 := zm A80
   clear A80
   simp only [Option.some.injEq, Prod.mk.injEq] at H
   obtain ⟨rfl, rfl, rfl, rfl⟩ := H
   go_enter Try.func25, Try.ntmps25
   go_wp2_with (first | ((with_reducible refine gate_dst (N := 3) rfl ?_); refine box_event ?hg (N := 3) ?hd (cs := #[.int .i64 a1]) (t := 2) ?hr ?_; (case hd => rfl); (case hg => rfl); (case hr => first | (go_simp; done) | (go_simp; rfl)); intro gbT hg wT hbox hb; have n0_ := zm (zw HB.out hb); clear HB; have HB := n0_; have BKT := zm hbox; clear n0_; clear hb hbox hg) | ((with_reducible refine gate_dst (N := 4) rfl ?_); refine box_event ?hg (N := 4) ?hd (cs := #[.int .i64 0, .int .i64 0, .bool false, .slice none 0 0]) (t := 28) ?hr ?_; (case hd => rfl); (case hg => rfl); (case hr => first | (go_simp; done) | (go_simp; rfl)); intro gb190 hg w9 hbox hb; have n0_ := zm (zw (by repeat (first | (with_reducible first | exact HB.out | apply zg | apply zh | apply zi) | exact HB.out)) hb); have n1_ := zm (hbox); have n2_ := zm ((by rw [hg]; exact (zx (by repeat (first | (with_reducible first | exact HB.out | apply zg | apply zh | apply zi) | exact HB.out))) : w.heap.size ≤ gb190)); have n3_ := zm ((by rw [hg]; exact (zx (by repeat (first | (with_reducible first | exact HB.out | apply zg | apply zh | apply zi) | exact HB.out))) : w.heap.size ≤ gb190)); have nT_ := zm (zu (g := gbT) (o := (.cells #[.int .i64 a1] 2 (0, 0))) (by (with_reducible repeat (first | refine zd ?_ _ | refine ze ?_ | refine zf ?_ _)); exact BKT.out) hb); clear BKT; have BKT := nT_; clear nT_; clear HB; have HB := n0_; have BK190 := n1_; have GW190 := n2_; have GE190 := n3_; clear n0_ n1_ n2_ n3_; clear hb hbox hg) | ((with_reducible refine gate_callee (f := 20) rfl ?_); refine goesL_ (some 7) rfl rfl Try.func20 (by kernel_rfl) rfl #[.slice A0 l0.length c0] rfl (by (try simp only [zA, zB, zC]); first | done | rfl | (simp only [zE, zD]; rfl)) ?_; (with_reducible refine (impl_CacheFault.calls k _ _ l0 t191 _ ?side1 ?side2 A3.out).mono ?_); (case side1 => repeat (first | exact (Kd.C_below HR0.out HB.out) | (with_reducible first | refine zj ?_ _ | refine zk ?_ _ | refine zl ?_))); (case side2 => exact HC0.out); rintro e w10 ⟨rfl, hb⟩; refine ⟨_, rfl, ?_⟩; have n0_ := zm (zu (g := gb190) (o := .cells #[.int .i64 0, .int .i64 0, .bool false, .slice none 0 0] 28 (0, 0)) (by (with_reducible repeat (first | refine zd ?_ _ | refine ze ?_ | refine zf ?_ _)); exact BK190.out) hb); have n1_ := zm (zw (by repeat (first | (with_reducible first | exact HB.out | apply zg | apply zh | apply zi | refine zy ?_ GE190.out) | exact HB.out)) hb); have nT_ := zm (zu (g := gbT) (o := (.cells #[.int .i64 a1] 2 (0, 0))) (by (with_reducible repeat (first | refine zd ?_ _ | refine ze ?_ | refine zf ?_ _)); exact BKT.out) hb); clear BKT; have BKT := nT_; clear nT_; clear BK190; clear HB; have BK190 := n0_; have HB := n1_; clear n0_ n1_; have hczT : w10.cell? ⟨gbT, 0, none⟩ = some (.int .i64 a1) := (yG BKT.out 0).trans rfl; (try clear hb); (try clear hb2); (try clear hk); (try clear hi)) | ((with_reducible refine gate_callee (f := 43) rfl ?_); refine goesL_ (some 13) rfl rfl Try.func43 (by kernel_rfl) rfl #[.int .i64 a1, .int .i64 0, .int .i64 9] rfl (by (try simp only [zA, zB, zC]); first | done | rfl | (simp only [zE, zD]; rfl)) ?_; (with_reducible refine (impl_within.calls a1 0 9 true _ A5.out).mono ?_); rintro e w' ⟨rfl, ⟨nd, rfl⟩⟩; refine ⟨_, rfl, ?_⟩; (try (rw [drewN_self w10]; generalize hq_ : World.drewN w10 _ = w10; have n0_ : Aside0 (w10.heap[gb190]? = some (.cells #[.int .i64 0, .int .i64 0, .bool false, .slice none 0 0] 28 (0, 0))) := ⟨by rw [← hq_]; exact (by (with_reducible repeat (first | refine zd ?_ _ | refine ze ?_ | refine zf ?_ _)); exact BK190.out)⟩; have n1_ : Aside0 (Below w.heap.size w w10) := ⟨by rw [← hq_]; exact (by repeat (first | (with_reducible first | exact HB.out | apply zg | apply zh | apply zi | refine zy ?_ GE190.out) | exact HB.out))⟩; have nT_ : Aside0 (w10.heap[gbT]? = some (.cells #[.int .i64 a1] 2 (0, 0))) := ⟨by rw [← hq_]; exact (by (with_reducible repeat (first | refine zd ?_ _ | refine ze ?_ | refine zf ?_ _)); exact BKT.out)⟩; clear BK190 HB BKT hq_; have BKT := nT_; clear nT_; have BK190 := n0_; have HB := n1_; clear n0_ n1_))) | ((with_reducible refine gate_callee (f := 45) rfl ?_); refine goesL_ (some 17) rfl rfl Try.func45 (by kernel_rfl) rfl #[.slice A0 l0.length c0] rfl (by (try simp only [zA, zB, zC]); first | done | rfl | (simp only [zE, zD]; rfl)) ?_; (with_reducible refine (impl_Hit_45.calls _ _ l0 t193 _ ?side1 ?side2 A7.out).mono ?_); (case side1 => repeat (first | exact (Kd.C_below HR0.out HB.out) | (with_reducible first | refine zj ?_ _ | refine zk ?_ _ | refine zl ?_))); (case side2 => exact HC0.out); rintro e w11 ⟨v194, rfl, ho0, hb⟩; refine ⟨_, rfl, ?_⟩; have n0_ := zm (zz (Kd.R_newB (Kd.R_newB ho0 (g := gbT) (o := (.cells #[.int .i64 a1] 2 (0, 0))) (by (with_reducible repeat (first | refine zd ?_ _ | refine ze ?_ | refine zf ?_ _)); exact BKT.out)) (g := gb190) (o := .cells #[.int .i64 0, .int .i64 0, .bool false, .slice none 0 0] 28 (0, 0)) (by (with_reducible repeat (first | refine zd ?_ _ | refine ze ?_ | refine zf ?_ _)); exact BK190.out)) (zx (by repeat (first | (with_reducible first | exact HB.out | apply zg | apply zh | apply zi | refine zy ?_ GE190.out) | exact HB.out)))); have n1_ := zm (zu (g := gb190) (o := .cells #[.int .i64 0, .int .i64 0, .bool false, .slice none 0 0] 28 (0, 0)) (by (with_reducible repeat (first | refine zd ?_ _ | refine ze ?_ | refine zf ?_ _)); exact BK190.out) hb); have n2_ := zm (zw (by repeat (first | (with_reducible first | exact HB.out | apply zg | apply zh | apply zi | refine zy ?_ GE190.out) | exact HB.out)) hb); have nT_ := zm (zu (g := gbT) (o := (.cells #[.int .i64 a1] 2 (0, 0))) (by (with_reducible repeat (first | refine zd ?_ _ | refine ze ?_ | refine zf ?_ _)); exact BKT.out) hb); clear BKT; have BKT := nT_; clear nT_; clear BK190; clear HB; have HO195 := n0_; have BK190 := n1_; have HB := n2_; clear n0_ n1_ n2_; (try clear hb); (try clear hb2); (try clear hk); (try clear hi); (try clear ho0); obtain ⟨Ao12, co12, eo12⟩ := Kd.R_slice HO195.out; subst eo12) | ((with_reducible refine gate_callee (f := 44) rfl ?_); refine goesL_ (some 19) rfl rfl Try.func44 (by kernel_rfl) rfl #[.slice Ao12 t193.length co12, .func (.func 46) #[] #[.pointer (some ⟨gbT, 0, none⟩)]] rfl (by (try simp only [zA, zB, zC]); first | done | rfl | (simp only [zE, zD]; rfl)) ?_; (with_reducible refine (impl_Hit_44.calls _ _ t193 a1 gbT t196 _ ?bb60 ?oo60 ?side1 ?side2 ?side3 A8.out).mono ?_); (case side1 => exact (by (with_reducible repeat (first | apply za | apply zb | apply zc)); exact HO195.out)); (case side2 => (with_reducible repeat (first | refine zd ?_ _ | refine ze ?_ | refine zf ?_ _)); exact BKT.out); (case side3 => exact Kd.R_away HO195.out (fun _ hk => hk.1.2)); rintro e w13 ⟨v197, rfl, ho0, hg⟩; refine ⟨_, rfl, ?_⟩; have n0_ := zm ho0; have n1_ := zm (blk_grown (g := gb190) (o := .cells #[.int .i64 0, .int .i64 0, .bool false, .slice none 0 0] 28 (0, 0)) (by (with_reducible repeat (first | refine zd ?_ _ | refine ze ?_ | refine zf ?_ _)); exact BK190.out) hg (Kd.R_away HO195.out (fun _ hk => hk.2))); have n2_ := zm (pw_below_grown (by repeat (first | (with_reducible first | exact HB.out | apply zg | apply zh | apply zi | refine zy ?_ GE190.out) | exact HB.out)) _ (zx (by repeat (first | (with_reducible first | exact HB.out | apply zg | apply zh | apply zi | refine zy ?_ GE190.out) | exact HB.out))) hg (fun k hk => zt HO195.out k hk)); clear HO195; clear BK190; clear HB; have HO198 := n0_; have BK190 := n1_; have HB := n2_; clear n0_ n1_ n2_; clear hg ho0; obtain ⟨Ao14, co14, eo14⟩ := Kd.R_slice HO198.out; subst eo14; have hcz15_0 : w13.cell? ⟨gb190, 0, none⟩ = some (.int .i64 0) := (yG BK190.out 0).trans rfl; have hcz15_1 : w13.cell? ⟨gb190, 1, none⟩ = some (.int .i64 0) := (yG BK190.out 1).trans rfl; have hcz15_2 : w13.cell? ⟨gb190, 2, none⟩ = some (.bool false) := (yG BK190.out 2).trans rfl; have hcz15_3 : w13.cell? ⟨gb190, 3, none⟩ = some (.slice none 0 0) := (yG BK190.out 3).trans rfl; have hfz15_0 := zH BK190.out 0; have hfz15_1 := zH BK190.out 1; have hfz15_2 := zH BK190.out 2; have hfz15_3 := zH BK190.out 3))
   refine bodyPost_ret (results_cell_row rfl _ _ gb190 28 #[.int .i64 0, .int .i64 0, .bool false, .slice Ao14 t196.length co14] (0, 0) _ rfl (by (with_reducible repeat (first | refine zd ?_ _ | refine ze ?_ | refine zf ?_ _)); refine blk_put (cs := #[.int .i64 0, .int .i64 0, .bool false, .slice none 0 0]) ?_ 3 _ rfl; (with_reducible repeat (first | refine zd ?_ _ | refine ze ?_ | refine zf ?_ _)); refine blk_put (cs := #[.int .i64 0, .int .i64 0, .bool false, .slice none 0 0]) ?_ 2 _ rfl; (with_reducible repeat (first | refine zd ?_ _ | refine ze ?_ | refine zf ?_ _)); refine blk_put (cs := #[.int .i64 0, .int .i64 0, .bool false, .slice none 0 0]) ?_ 1 _ rfl; (with_reducible repeat (first | refine zd ?_ _ | refine ze ?_ | refine zf ?_ _)); refine blk_put (cs := #[.int .i64 0, .int .i64 0, .bool false, .slice none 0 0]) ?_ 0 _ rfl; (with_reducible repeat (first | refine zd ?_ _ | refine ze ?_ | refine zf ?_ _)); exact BK190.out) Try.underlying28 rfl (by kernel_rfl)) rfl ?_
   exact ⟨_, by first | rfl | (simp [errW_none, errW_some] <;> rfl) | (simp [*, errW_none, errW_some] <;> rfl), by (with_reducible repeat (first | apply za | apply zb | apply zc)); exact zr (zn (p := ⟨gb190, 3, none⟩) (zn (p := ⟨gb190, 2, none⟩) (zn (p := ⟨gb190, 1, none⟩) (zn (p := ⟨gb190, 0, none⟩) (zq HO198.out BK190.out (by decide)) (fun _ hk => hk.2) (.int .i64 0)) (fun _ hk => hk.2) (.int .i64 0)) (fun _ hk => hk.2) (.bool false)) (fun _ hk => hk.2) (.slice Ao14 t196.length co14)) (fun _ hk => trivial), by repeat (first | (with_reducible first | exact HB.out | apply zg | apply zh | apply zi | refine zy ?_ GE190.out) | exact HB.out)⟩
  ·replace c6 := Bool.eq_false_iff.mpr c6
   subst c6
   rw [if_neg (show ¬ (false = true) by decide)] at H
   simp only [Option.some.injEq, Prod.mk.injEq] at H
   obtain ⟨rfl, rfl, rfl, rfl⟩ := H
   go_enter Try.func25, Try.ntmps25
   go_wp2_with (first | ((with_reducible refine gate_dst (N := 3) rfl ?_); refine box_event ?hg (N := 3) ?hd (cs := #[.int .i64 a1]) (t := 2) ?hr ?_; (case hd => rfl); (case hg => rfl); (case hr => first | (go_simp; done) | (go_simp; rfl)); intro gbT hg wT hbox hb; have n0_ := zm (zw HB.out hb); clear HB; have HB := n0_; have BKT := zm hbox; clear n0_; clear hb hbox hg) | ((with_reducible refine gate_dst (N := 4) rfl ?_); refine box_event ?hg (N := 4) ?hd (cs := #[.int .i64 0, .int .i64 0, .bool false, .slice none 0 0]) (t := 28) ?hr ?_; (case hd => rfl); (case hg => rfl); (case hr => first | (go_simp; done) | (go_simp; rfl)); intro gb190 hg w16 hbox hb; have n0_ := zm (zw (by repeat (first | (with_reducible first | exact HB.out | apply zg | apply zh | apply zi) | exact HB.out)) hb); have n1_ := zm (hbox); have n2_ := zm ((by rw [hg]; exact (zx (by repeat (first | (with_reducible first | exact HB.out | apply zg | apply zh | apply zi) | exact HB.out))) : w.heap.size ≤ gb190)); have n3_ := zm ((by rw [hg]; exact (zx (by repeat (first | (with_reducible first | exact HB.out | apply zg | apply zh | apply zi) | exact HB.out))) : w.heap.size ≤ gb190)); have nT_ := zm (zu (g := gbT) (o := (.cells #[.int .i64 a1] 2 (0, 0))) (by (with_reducible repeat (first | refine zd ?_ _ | refine ze ?_ | refine zf ?_ _)); exact BKT.out) hb); clear BKT; have BKT := nT_; clear nT_; clear HB; have HB := n0_; have BK190 := n1_; have GW190 := n2_; have GE190 := n3_; clear n0_ n1_ n2_ n3_; clear hb hbox hg) | ((with_reducible refine gate_callee (f := 20) rfl ?_); refine goesL_ (some 7) rfl rfl Try.func20 (by kernel_rfl) rfl #[.slice A0 l0.length c0] rfl (by (try simp only [zA, zB, zC]); first | done | rfl | (simp only [zE, zD]; rfl)) ?_; (with_reducible refine (impl_CacheFault.calls k _ _ l0 t191 _ ?side1 ?side2 A3.out).mono ?_); (case side1 => repeat (first | exact (Kd.C_below HR0.out HB.out) | (with_reducible first | refine zj ?_ _ | refine zk ?_ _ | refine zl ?_))); (case side2 => exact HC0.out); rintro e w17 ⟨rfl, hb⟩; refine ⟨_, rfl, ?_⟩; have n0_ := zm (zu (g := gb190) (o := .cells #[.int .i64 0, .int .i64 0, .bool false, .slice none 0 0] 28 (0, 0)) (by (with_reducible repeat (first | refine zd ?_ _ | refine ze ?_ | refine zf ?_ _)); exact BK190.out) hb); have n1_ := zm (zw (by repeat (first | (with_reducible first | exact HB.out | apply zg | apply zh | apply zi | refine zy ?_ GE190.out) | exact HB.out)) hb); have nT_ := zm (zu (g := gbT) (o := (.cells #[.int .i64 a1] 2 (0, 0))) (by (with_reducible repeat (first | refine zd ?_ _ | refine ze ?_ | refine zf ?_ _)); exact BKT.out) hb); clear BKT; have BKT := nT_; clear nT_; clear BK190; clear HB; have BK190 := n0_; have HB := n1_; clear n0_ n1_; have hczT : w17.cell? ⟨gbT, 0, none⟩ = some (.int .i64 a1) := (yG BKT.out 0).trans rfl; (try clear hb); (try clear hb2); (try clear hk); (try clear hi)) | ((with_reducible refine gate_callee (f := 43) rfl ?_); refine goesL_ (some 13) rfl rfl Try.func43 (by kernel_rfl) rfl #[.int .i64 a1, .int .i64 0, .int .i64 9] rfl (by (try simp only [zA, zB, zC]); first | done | rfl | (simp only [zE, zD]; rfl)) ?_; (with_reducible refine (impl_within.calls a1 0 9 false _ A5.out).mono ?_); rintro e w' ⟨rfl, ⟨nd, rfl⟩⟩; refine ⟨_, rfl, ?_⟩; (try (rw [drewN_self w17]; generalize hq_ : World.drewN w17 _ = w17; have n0_ : Aside0 (w17.heap[gb190]? = some (.cells #[.int .i64 0, .int .i64 0, .bool false, .slice none 0 0] 28 (0, 0))) := ⟨by rw [← hq_]; exact (by (with_reducible repeat (first | refine zd ?_ _ | refine ze ?_ | refine zf ?_ _)); exact BK190.out)⟩; have n1_ : Aside0 (Below w.heap.size w w17) := ⟨by rw [← hq_]; exact (by repeat (first | (with_reducible first | exact HB.out | apply zg | apply zh | apply zi | refine zy ?_ GE190.out) | exact HB.out))⟩; have nT_ : Aside0 (w17.heap[gbT]? = some (.cells #[.int .i64 a1] 2 (0, 0))) := ⟨by rw [← hq_]; exact (by (with_reducible repeat (first | refine zd ?_ _ | refine ze ?_ | refine zf ?_ _)); exact BKT.out)⟩; clear BK190 HB BKT hq_; have BKT := nT_; clear nT_; have BK190 := n0_; have HB := n1_; clear n0_ n1_)); have hcz18_0 : w17.cell? ⟨gb190, 0, none⟩ = some (.int .i64 0) := (yG BK190.out 0).trans rfl; have hcz18_1 : w17.cell? ⟨gb190, 1, none⟩ = some (.int .i64 0) := (yG BK190.out 1).trans rfl; have hcz18_2 : w17.cell? ⟨gb190, 2, none⟩ = some (.bool false) := (yG BK190.out 2).trans rfl; have hcz18_3 : w17.cell? ⟨gb190, 3, none⟩ = some (.slice none 0 0) := (yG BK190.out 3).trans rfl; have hfz18_0 := zH BK190.out 0; have hfz18_1 := zH BK190.out 1; have hfz18_2 := zH BK190.out 2; have hfz18_3 := zH BK190.out 3))
   refine bodyPost_ret (results_cell_row rfl _ _ gb190 28 #[.int .i64 3, .int .i64 0, .bool false, .slice none 0 0] (0, 0) _ rfl (by (with_reducible repeat (first | refine zd ?_ _ | refine ze ?_ | refine zf ?_ _)); refine blk_put (cs := #[.int .i64 3, .int .i64 0, .bool false, .slice none 0 0]) ?_ 3 _ rfl; (with_reducible repeat (first | refine zd ?_ _ | refine ze ?_ | refine zf ?_ _)); refine blk_put (cs := #[.int .i64 3, .int .i64 0, .bool false, .slice none 0 0]) ?_ 2 _ rfl; (with_reducible repeat (first | refine zd ?_ _ | refine ze ?_ | refine zf ?_ _)); refine blk_put (cs := #[.int .i64 3, .int .i64 0, .bool false, .slice none 0 0]) ?_ 1 _ rfl; (with_reducible repeat (first | refine zd ?_ _ | refine ze ?_ | refine zf ?_ _)); refine blk_put (cs := #[.int .i64 0, .int .i64 0, .bool false, .slice none 0 0]) ?_ 0 _ rfl; (with_reducible repeat (first | refine zd ?_ _ | refine ze ?_ | refine zf ?_ _)); exact BK190.out) Try.underlying28 rfl (by kernel_rfl)) rfl ?_
   exact ⟨_, by first | rfl | (simp [errW_none, errW_some] <;> rfl) | (simp [*, errW_none, errW_some] <;> rfl), by first | exact Kd.R_nil _ _ _ _ _ | exact Kd.N_nil _ _ _ _ _ | exact Kd.V_nil _ _ _ _ _ | exact Kd.Q_nil _ _ _ _ _ | exact Kd.S_nil _ _ _ _ _, by repeat (first | (with_reducible first | exact HB.out | apply zg | apply zh | apply zi | refine zy ?_ GE190.out) | exact HB.out)⟩
 ·rw [if_neg c4] at H
  have c4b0 : (t191 == 0) = false := beq_eq_false_iff_ne.mpr c4
  have c4b1 : (t191 != 0) = true := bne_iff_ne.mpr c4
  simp only [Option.some.injEq, Prod.mk.injEq] at H
  obtain ⟨rfl, rfl, rfl, rfl⟩ := H
  go_enter Try.func25, Try.ntmps25
  go_wp2_with (first | ((with_reducible refine gate_dst (N := 3) rfl ?_); refine box_event ?hg (N := 3) ?hd (cs := #[.int .i64 a1]) (t := 2) ?hr ?_; (case hd => rfl); (case hg => rfl); (case hr => first | (go_simp; done) | (go_simp; rfl)); intro gbT hg wT hbox hb; have n0_ := zm (zw HB.out hb); clear HB; have HB := n0_; have BKT := zm hbox; clear n0_; clear hb hbox hg) | ((with_reducible refine gate_dst (N := 4) rfl ?_); refine box_event ?hg (N := 4) ?hd (cs := #[.int .i64 0, .int .i64 0, .bool false, .slice none 0 0]) (t := 28) ?hr ?_; (case hd => rfl); (case hg => rfl); (case hr => first | (go_simp; done) | (go_simp; rfl)); intro gb190 hg w19 hbox hb; have n0_ := zm (zw (by repeat (first | (with_reducible first | exact HB.out | apply zg | apply zh | apply zi) | exact HB.out)) hb); have n1_ := zm (hbox); have n2_ := zm ((by rw [hg]; exact (zx (by repeat (first | (with_reducible first | exact HB.out | apply zg | apply zh | apply zi) | exact HB.out))) : w.heap.size ≤ gb190)); have n3_ := zm ((by rw [hg]; exact (zx (by repeat (first | (with_reducible first | exact HB.out | apply zg | apply zh | apply zi) | exact HB.out))) : w.heap.size ≤ gb190)); have nT_ := zm (zu (g := gbT) (o := (.cells #[.int .i64 a1] 2 (0, 0))) (by (with_reducible repeat (first | refine zd ?_ _ | refine ze ?_ | refine zf ?_ _)); exact BKT.out) hb); clear BKT; have BKT := nT_; clear nT_; clear HB; have HB := n0_; have BK190 := n1_; have GW190 := n2_; have GE190 := n3_; clear n0_ n1_ n2_ n3_; clear hb hbox hg) | ((with_reducible refine gate_callee (f := 20) rfl ?_); refine goesL_ (some 7) rfl rfl Try.func20 (by kernel_rfl) rfl #[.slice A0 l0.length c0] rfl (by (try simp only [zA, zB, zC]); first | done | rfl | (simp only [zE, zD]; rfl)) ?_; (with_reducible refine (impl_CacheFault.calls k _ _ l0 t191 _ ?side1 ?side2 A3.out).mono ?_); (case side1 => repeat (first | exact (Kd.C_below HR0.out HB.out) | (with_reducible first | refine zj ?_ _ | refine zk ?_ _ | refine zl ?_))); (case side2 => exact HC0.out); rintro e w20 ⟨rfl, hb⟩; refine ⟨_, rfl, ?_⟩; have n0_ := zm (zu (g := gb190) (o := .cells #[.int .i64 0, .int .i64 0, .bool false, .slice none 0 0] 28 (0, 0)) (by (with_reducible repeat (first | refine zd ?_ _ | refine ze ?_ | refine zf ?_ _)); exact BK190.out) hb); have n1_ := zm (zw (by repeat (first | (with_reducible first | exact HB.out | apply zg | apply zh | apply zi | refine zy ?_ GE190.out) | exact HB.out)) hb); have nT_ := zm (zu (g := gbT) (o := (.cells #[.int .i64 a1] 2 (0, 0))) (by (with_reducible repeat (first | refine zd ?_ _ | refine ze ?_ | refine zf ?_ _)); exact BKT.out) hb); clear BKT; have BKT := nT_; clear nT_; clear BK190; clear HB; have BK190 := n0_; have HB := n1_; clear n0_ n1_; have hczT : w20.cell? ⟨gbT, 0, none⟩ = some (.int .i64 a1) := (yG BKT.out 0).trans rfl; (try clear hb); (try clear hb2); (try clear hk); (try clear hi); have hcz21_0 : w20.cell? ⟨gb190, 0, none⟩ = some (.int .i64 0) := (yG BK190.out 0).trans rfl; have hcz21_1 : w20.cell? ⟨gb190, 1, none⟩ = some (.int .i64 0) := (yG BK190.out 1).trans rfl; have hcz21_2 : w20.cell? ⟨gb190, 2, none⟩ = some (.bool false) := (yG BK190.out 2).trans rfl; have hcz21_3 : w20.cell? ⟨gb190, 3, none⟩ = some (.slice none 0 0) := (yG BK190.out 3).trans rfl; have hfz21_0 := zH BK190.out 0; have hfz21_1 := zH BK190.out 1; have hfz21_2 := zH BK190.out 2; have hfz21_3 := zH BK190.out 3))
  refine bodyPost_ret (results_cell_row rfl _ _ gb190 28 #[.int .i64 t191, .int .i64 0, .bool false, .slice none 0 0] (0, 0) _ rfl (by (with_reducible repeat (first | refine zd ?_ _ | refine ze ?_ | refine zf ?_ _)); refine blk_put (cs := #[.int .i64 t191, .int .i64 0, .bool false, .slice none 0 0]) ?_ 3 _ rfl; (with_reducible repeat (first | refine zd ?_ _ | refine ze ?_ | refine zf ?_ _)); refine blk_put (cs := #[.int .i64 t191, .int .i64 0, .bool false, .slice none 0 0]) ?_ 2 _ rfl; (with_reducible repeat (first | refine zd ?_ _ | refine ze ?_ | refine zf ?_ _)); refine blk_put (cs := #[.int .i64 t191, .int .i64 0, .bool false, .slice none 0 0]) ?_ 1 _ rfl; (with_reducible repeat (first | refine zd ?_ _ | refine ze ?_ | refine zf ?_ _)); refine blk_put (cs := #[.int .i64 0, .int .i64 0, .bool false, .slice none 0 0]) ?_ 0 _ rfl; (with_reducible repeat (first | refine zd ?_ _ | refine ze ?_ | refine zf ?_ _)); exact BK190.out) Try.underlying28 rfl (by kernel_rfl)) rfl ?_
  exact ⟨_, by first | rfl | (simp [errW_none, errW_some] <;> rfl) | (simp [*, errW_none, errW_some] <;> rfl), by first | exact Kd.R_nil _ _ _ _ _ | exact Kd.N_nil _ _ _ _ _ | exact Kd.V_nil _ _ _ _ _ | exact Kd.Q_nil _ _ _ _ _ | exact Kd.S_nil _ _ _ _ _, by repeat (first | (with_reducible first | exact HB.out | apply zg | apply zh | apply zi | refine zy ?_ GE190.out) | exact HB.out)⟩

/-! ### laws_lwBig: function 31 -/
def laws_lwBig.f (l0 : List Int) : Option (Bool) := some (decide ((l0.length : Int) > 1048576))
set_option maxHeartbeats 8000000 in
set_option maxRecDepth 100000 in
theorem laws_lwBig.calls (A0 : Option Addr) (c0 : Nat) (l0 : List Int) (r : Bool) (w : World) (hr0 : Kd.C (Kd.int .u8) w A0 l0.length l0) (hc0 : l0.length ≤ c0) (h : laws_lwBig.f l0 = some r) :
  Calls Try.prog 31 #[.slice A0 l0.length c0] w fun e w' => e = .returned (.bool r) ∧ Drawn0 w w' := by
 have HR0 := zm hr0
 have HC0 := zm hc0
 clear hr0 hc0
 have H : (some (decide ((l0.length : Int) > 1048576))) = some r := h
 clear h
 obtain rfl := Option.some.inj H
 go_enter Try.func31, Try.ntmps31
 go_wp2
 go_ret
 exact ⟨by first | rfl | (simp; done) | (simp [*]; done), by repeat (first | exact Drawn0.refl _ | apply Drawn0.step)⟩

end Go.Proofs.Ytoojkiihbpnfdaa.PFnFills
