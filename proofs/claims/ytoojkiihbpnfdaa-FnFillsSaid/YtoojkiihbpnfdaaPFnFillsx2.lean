-- The Go functions of FnFills as Lean functions, each with its proof. Written by the session's own program (wip/gen/hp.py), which drives the kit's print.py.
import Derived.Test.YtoojkiihbpnfdaaPFnFillsx0
namespace Go.Proofs.Ytoojkiihbpnfdaa.PFnFills
open Go.RowKit Go.Proofs.YtoojkiihbpnfdaaW.PrintWords Go.Proofs.YtoojkiihbpnfdaaW.PrintLast Go.Proofs.YtoojkiihbpnfdaaW.PrintMore
attribute [local go_sem] max2_int min2_int max_two min_two max_three min_three max_four min_four   -- for this text's walks alone
set_option linter.unusedVariables false
set_option linter.unusedSimpArgs false

/-! ### spec_l1In: function 42 -/
theorem zn : type_of% @Kd.R_far := @Kd.R_far
theorem zo : type_of% @Kd.R_elder' := @Kd.R_elder'
theorem zp : type_of% @Kd.R_below := @Kd.R_below
theorem zq : type_of% @Kd.R_types := @Kd.R_types
theorem zr : type_of% @Kd.R_mono := @Kd.R_mono
theorem zs : type_of% @Kd.R_new' := @Kd.R_new'
theorem zt : type_of% @Kd.R_base := @Kd.R_base
theorem zu : type_of% @blk_below := @blk_below
theorem zv : type_of% @blk_lt := @blk_lt
theorem zw : type_of% @below_step := @below_step
theorem zx : type_of% @below_size := @below_size
theorem zy : type_of% @below_set := @below_set
theorem zz : type_of% @Kd.R_lower := @Kd.R_lower
theorem zA : type_of% @List.map_toArray := @List.map_toArray
theorem zB : type_of% @List.map_cons := @List.map_cons
theorem zC : type_of% @List.map_nil := @List.map_nil
theorem zD : type_of% @List.length_take := @List.length_take
theorem zE : type_of% @List.length_drop := @List.length_drop
theorem zF : type_of% @Kd.R_reads' := @Kd.R_reads'
theorem zG : type_of% @Kd.R_lt := @Kd.R_lt
theorem zH : type_of% @blk_frozen := @blk_frozen
theorem yA : type_of% @List.setIfInBounds_toArray := @List.setIfInBounds_toArray
theorem yB : type_of% @List.set_cons_zero := @List.set_cons_zero
theorem yC : type_of% @List.set_cons_succ := @List.set_cons_succ
theorem yD : type_of% @Kd.own_blk := @Kd.own_blk
theorem yE : type_of% @Kd.R_ne := @Kd.R_ne
theorem yF : type_of% @World.block_lt_of_cell? := @World.block_lt_of_cell?
theorem yG : type_of% @blk_cell := @blk_cell
theorem yH : type_of% @Option.bind_eq_some_iff := @Option.bind_eq_some_iff
theorem za : type_of% @Kd.R_alloc := @Kd.R_alloc
theorem zb : type_of% @Kd.R_drewN := @Kd.R_drewN
theorem zc : type_of% @Kd.R_drew := @Kd.R_drew
theorem zd : type_of% @blk_drewN := @blk_drewN
theorem ze : type_of% @blk_drew := @blk_drew
theorem zf : type_of% @blk_alloc := @blk_alloc
theorem zg : type_of% @below_alloc := @below_alloc
theorem zh : type_of% @pw_below_drewN := @pw_below_drewN
theorem zi : type_of% @below_drew1 := @below_drew1
theorem zj : type_of% @Kd.C_alloc := @Kd.C_alloc
theorem zk : type_of% @Kd.C_drewN := @Kd.C_drewN
theorem zl : type_of% @Kd.C_drew := @Kd.C_drew
theorem zm : type_of% @Aside0.mk := @Aside0.mk
def spec_l1In.f (a0 : Int) (a1 : Int) (a2 : Int) : Option (Bool) := if a0 ≥ a1 then (some (decide (a0 ≤ a2))) else (some false)
set_option maxHeartbeats 8000000 in
set_option maxRecDepth 100000 in
theorem spec_l1In.calls (a0 : Int) (a1 : Int) (a2 : Int) (r : Bool) (w : World) (h : spec_l1In.f a0 a1 a2 = some r) :
  Calls Try.prog 42 #[.int .i64 a0, .int .i64 a1, .int .i64 a2] w fun e w' => e = .returned (.bool r) ∧ Drawn0 w w' := by
 have H : (if a0 ≥ a1 then (some (decide (a0 ≤ a2))) else (some false)) = some r := h
 clear h
 by_cases c4 : a0 ≥ a1
 ·rw [if_pos c4] at H
  have c4b0 : decide (a1 ≤ a0) = true := decide_eq_true c4
  clear c4
  obtain rfl := Option.some.inj H
  go_enter Try.func42, Try.ntmps42
  go_wp2
  go_ret
  exact ⟨by first | rfl | (simp; done) | (simp [*]; done), by repeat (first | exact Drawn0.refl _ | apply Drawn0.step)⟩
 ·rw [if_neg c4] at H
  have c4b0 : decide (a1 ≤ a0) = false := decide_eq_false c4
  clear c4
  obtain rfl := Option.some.inj H
  go_enter Try.func42, Try.ntmps42
  go_wp2
  go_ret
  exact ⟨by first | rfl | (simp; done) | (simp [*]; done), by repeat (first | exact Drawn0.refl _ | apply Drawn0.step)⟩

/-! ### spec_l5Hit: function 33 -/
def spec_l5Hit.f (a0_0 : Int) (a0_1 : Int) (a0_2 : Int) (a0_3 : Int) : Option (Bool) := (spec_l1In.f a0_0 0 9).bind fun t102 => (if t102 = true then ((spec_l1In.f a0_1 0 7).bind fun t103 => (if t103 = true then ((spec_l1In.f a0_2 0 23).bind fun t104 => (if t104 = true then ((spec_l1In.f a0_3 1 7).bind fun t105 => (some t105)) else (some false))) else (some false))) else (some false))
set_option maxHeartbeats 8000000 in
set_option maxRecDepth 100000 in
theorem spec_l5Hit.calls (a0_0 : Int) (a0_1 : Int) (a0_2 : Int) (a0_3 : Int) (r : Bool) (w : World) (h : spec_l5Hit.f a0_0 a0_1 a0_2 a0_3 = some r) :
  Calls Try.prog 33 #[.agg #[.int .i64 a0_0, .int .i64 a0_1, .int .i64 a0_2, .int .i64 a0_3]] w fun e w' => e = .returned (.bool r) ∧ Below w.heap.size w w' := by
 have hu31 := Try.underlying31
 have HB := zm (Below.refl w.heap.size w)
 have H : ((spec_l1In.f a0_0 0 9).bind fun t102 => (if t102 = true then ((spec_l1In.f a0_1 0 7).bind fun t103 => (if t103 = true then ((spec_l1In.f a0_2 0 23).bind fun t104 => (if t104 = true then ((spec_l1In.f a0_3 1 7).bind fun t105 => (some t105)) else (some false))) else (some false))) else (some false))) = some r := h
 clear h
 replace H := yH.mp H
 obtain ⟨t102, A20, H⟩ := H
 try dsimp only at H
 have A2 := zm A20
 clear A20
 by_cases c3 : t102 = true
 ·subst c3
  rw [if_pos rfl] at H
  replace H := yH.mp H
  obtain ⟨t103, A40, H⟩ := H
  try dsimp only at H
  have A4 := zm A40
  clear A40
  by_cases c5 : t103 = true
  ·subst c5
   rw [if_pos rfl] at H
   replace H := yH.mp H
   obtain ⟨t104, A60, H⟩ := H
   try dsimp only at H
   have A6 := zm A60
   clear A60
   by_cases c7 : t104 = true
   ·subst c7
    rw [if_pos rfl] at H
    replace H := yH.mp H
    obtain ⟨t105, A80, H⟩ := H
    try dsimp only at H
    have A8 := zm A80
    clear A80
    obtain rfl := Option.some.inj H
    go_enter Try.func33, Try.ntmps33
    go_wp2_with (first | ((with_reducible refine gate_dst (N := 1) rfl ?_); refine box_event ?hg (N := 1) ?hd (cs := #[.int .i64 a0_0, .int .i64 a0_1, .int .i64 a0_2, .int .i64 a0_3]) (t := 31) ?hr ?_; (case hd => rfl); (case hg => rfl); (case hr => first | (go_simp; done) | (go_simp; rfl)); intro gb101 hg w9 hbox hb; have n0_ := zm (zw (by repeat (first | (with_reducible first | exact HB.out | apply zg | apply zh | apply zi) | exact HB.out)) hb); have n1_ := zm (hbox); have n2_ := zm ((by rw [hg]; exact (zx (by repeat (first | (with_reducible first | exact HB.out | apply zg | apply zh | apply zi) | exact HB.out))) : w.heap.size ≤ gb101)); have n3_ := zm ((by rw [hg]; exact (zx (by repeat (first | (with_reducible first | exact HB.out | apply zg | apply zh | apply zi) | exact HB.out))) : w.heap.size ≤ gb101)); clear HB; have HB := n0_; have BK101 := n1_; have GW101 := n2_; have GE101 := n3_; clear n0_ n1_ n2_ n3_; clear hb hbox hg; have hcz10_0 : w9.cell? ⟨gb101, 0, none⟩ = some (.int .i64 a0_0) := (yG BK101.out 0).trans rfl; have hcz10_1 : w9.cell? ⟨gb101, 1, none⟩ = some (.int .i64 a0_1) := (yG BK101.out 1).trans rfl; have hcz10_2 : w9.cell? ⟨gb101, 2, none⟩ = some (.int .i64 a0_2) := (yG BK101.out 2).trans rfl; have hcz10_3 : w9.cell? ⟨gb101, 3, none⟩ = some (.int .i64 a0_3) := (yG BK101.out 3).trans rfl; have hfz10_0 := zH BK101.out 0; have hfz10_1 := zH BK101.out 1; have hfz10_2 := zH BK101.out 2; have hfz10_3 := zH BK101.out 3) | ((with_reducible refine gate_callee (f := 42) rfl ?_); refine goesL_ (some 5) rfl rfl Try.func42 (by kernel_rfl) rfl #[.int .i64 a0_0, .int .i64 0, .int .i64 9] rfl (by (try simp only [zA, zB, zC]); first | done | rfl | (simp only [zE, zD]; rfl)) ?_; (with_reducible refine (spec_l1In.calls a0_0 0 9 true _ A2.out).mono ?_); rintro e w' ⟨rfl, ⟨nd, rfl⟩⟩; refine ⟨_, rfl, ?_⟩) | (go_at_call 42; (with_reducible refine (spec_l1In.calls a0_1 0 7 true _ A4.out).mono ?_); rintro e w' ⟨rfl, ⟨nd, rfl⟩⟩) | (go_at_call 42; (with_reducible refine (spec_l1In.calls a0_2 0 23 true _ A6.out).mono ?_); rintro e w' ⟨rfl, ⟨nd, rfl⟩⟩) | (go_at_call 42; (with_reducible refine (spec_l1In.calls a0_3 1 7 t105 _ A8.out).mono ?_); rintro e w' ⟨rfl, ⟨nd, rfl⟩⟩))
    go_ret
    exact ⟨by first | rfl | (simp [errW_none, errW_some] <;> rfl) | (simp [*, errW_none, errW_some] <;> rfl), by repeat (first | (with_reducible first | exact HB.out | apply zg | apply zh | apply zi | refine zy ?_ GE101.out) | exact HB.out)⟩
   ·replace c7 := Bool.eq_false_iff.mpr c7
    subst c7
    rw [if_neg (show ¬ (false = true) by decide)] at H
    obtain rfl := Option.some.inj H
    go_enter Try.func33, Try.ntmps33
    go_wp2_with (first | ((with_reducible refine gate_dst (N := 1) rfl ?_); refine box_event ?hg (N := 1) ?hd (cs := #[.int .i64 a0_0, .int .i64 a0_1, .int .i64 a0_2, .int .i64 a0_3]) (t := 31) ?hr ?_; (case hd => rfl); (case hg => rfl); (case hr => first | (go_simp; done) | (go_simp; rfl)); intro gb101 hg w11 hbox hb; have n0_ := zm (zw (by repeat (first | (with_reducible first | exact HB.out | apply zg | apply zh | apply zi) | exact HB.out)) hb); have n1_ := zm (hbox); have n2_ := zm ((by rw [hg]; exact (zx (by repeat (first | (with_reducible first | exact HB.out | apply zg | apply zh | apply zi) | exact HB.out))) : w.heap.size ≤ gb101)); have n3_ := zm ((by rw [hg]; exact (zx (by repeat (first | (with_reducible first | exact HB.out | apply zg | apply zh | apply zi) | exact HB.out))) : w.heap.size ≤ gb101)); clear HB; have HB := n0_; have BK101 := n1_; have GW101 := n2_; have GE101 := n3_; clear n0_ n1_ n2_ n3_; clear hb hbox hg; have hcz12_0 : w11.cell? ⟨gb101, 0, none⟩ = some (.int .i64 a0_0) := (yG BK101.out 0).trans rfl; have hcz12_1 : w11.cell? ⟨gb101, 1, none⟩ = some (.int .i64 a0_1) := (yG BK101.out 1).trans rfl; have hcz12_2 : w11.cell? ⟨gb101, 2, none⟩ = some (.int .i64 a0_2) := (yG BK101.out 2).trans rfl; have hcz12_3 : w11.cell? ⟨gb101, 3, none⟩ = some (.int .i64 a0_3) := (yG BK101.out 3).trans rfl; have hfz12_0 := zH BK101.out 0; have hfz12_1 := zH BK101.out 1; have hfz12_2 := zH BK101.out 2; have hfz12_3 := zH BK101.out 3) | ((with_reducible refine gate_callee (f := 42) rfl ?_); refine goesL_ (some 5) rfl rfl Try.func42 (by kernel_rfl) rfl #[.int .i64 a0_0, .int .i64 0, .int .i64 9] rfl (by (try simp only [zA, zB, zC]); first | done | rfl | (simp only [zE, zD]; rfl)) ?_; (with_reducible refine (spec_l1In.calls a0_0 0 9 true _ A2.out).mono ?_); rintro e w' ⟨rfl, ⟨nd, rfl⟩⟩; refine ⟨_, rfl, ?_⟩) | (go_at_call 42; (with_reducible refine (spec_l1In.calls a0_1 0 7 true _ A4.out).mono ?_); rintro e w' ⟨rfl, ⟨nd, rfl⟩⟩) | (go_at_call 42; (with_reducible refine (spec_l1In.calls a0_2 0 23 false _ A6.out).mono ?_); rintro e w' ⟨rfl, ⟨nd, rfl⟩⟩))
    go_ret
    exact ⟨by first | rfl | (simp [errW_none, errW_some] <;> rfl) | (simp [*, errW_none, errW_some] <;> rfl), by repeat (first | (with_reducible first | exact HB.out | apply zg | apply zh | apply zi | refine zy ?_ GE101.out) | exact HB.out)⟩
  ·replace c5 := Bool.eq_false_iff.mpr c5
   subst c5
   rw [if_neg (show ¬ (false = true) by decide)] at H
   obtain rfl := Option.some.inj H
   go_enter Try.func33, Try.ntmps33
   go_wp2_with (first | ((with_reducible refine gate_dst (N := 1) rfl ?_); refine box_event ?hg (N := 1) ?hd (cs := #[.int .i64 a0_0, .int .i64 a0_1, .int .i64 a0_2, .int .i64 a0_3]) (t := 31) ?hr ?_; (case hd => rfl); (case hg => rfl); (case hr => first | (go_simp; done) | (go_simp; rfl)); intro gb101 hg w13 hbox hb; have n0_ := zm (zw (by repeat (first | (with_reducible first | exact HB.out | apply zg | apply zh | apply zi) | exact HB.out)) hb); have n1_ := zm (hbox); have n2_ := zm ((by rw [hg]; exact (zx (by repeat (first | (with_reducible first | exact HB.out | apply zg | apply zh | apply zi) | exact HB.out))) : w.heap.size ≤ gb101)); have n3_ := zm ((by rw [hg]; exact (zx (by repeat (first | (with_reducible first | exact HB.out | apply zg | apply zh | apply zi) | exact HB.out))) : w.heap.size ≤ gb101)); clear HB; have HB := n0_; have BK101 := n1_; have GW101 := n2_; have GE101 := n3_; clear n0_ n1_ n2_ n3_; clear hb hbox hg; have hcz14_0 : w13.cell? ⟨gb101, 0, none⟩ = some (.int .i64 a0_0) := (yG BK101.out 0).trans rfl; have hcz14_1 : w13.cell? ⟨gb101, 1, none⟩ = some (.int .i64 a0_1) := (yG BK101.out 1).trans rfl; have hcz14_2 : w13.cell? ⟨gb101, 2, none⟩ = some (.int .i64 a0_2) := (yG BK101.out 2).trans rfl; have hcz14_3 : w13.cell? ⟨gb101, 3, none⟩ = some (.int .i64 a0_3) := (yG BK101.out 3).trans rfl; have hfz14_0 := zH BK101.out 0; have hfz14_1 := zH BK101.out 1; have hfz14_2 := zH BK101.out 2; have hfz14_3 := zH BK101.out 3) | ((with_reducible refine gate_callee (f := 42) rfl ?_); refine goesL_ (some 5) rfl rfl Try.func42 (by kernel_rfl) rfl #[.int .i64 a0_0, .int .i64 0, .int .i64 9] rfl (by (try simp only [zA, zB, zC]); first | done | rfl | (simp only [zE, zD]; rfl)) ?_; (with_reducible refine (spec_l1In.calls a0_0 0 9 true _ A2.out).mono ?_); rintro e w' ⟨rfl, ⟨nd, rfl⟩⟩; refine ⟨_, rfl, ?_⟩) | (go_at_call 42; (with_reducible refine (spec_l1In.calls a0_1 0 7 false _ A4.out).mono ?_); rintro e w' ⟨rfl, ⟨nd, rfl⟩⟩))
   go_ret
   exact ⟨by first | rfl | (simp [errW_none, errW_some] <;> rfl) | (simp [*, errW_none, errW_some] <;> rfl), by repeat (first | (with_reducible first | exact HB.out | apply zg | apply zh | apply zi | refine zy ?_ GE101.out) | exact HB.out)⟩
 ·replace c3 := Bool.eq_false_iff.mpr c3
  subst c3
  rw [if_neg (show ¬ (false = true) by decide)] at H
  obtain rfl := Option.some.inj H
  go_enter Try.func33, Try.ntmps33
  go_wp2_with (first | ((with_reducible refine gate_dst (N := 1) rfl ?_); refine box_event ?hg (N := 1) ?hd (cs := #[.int .i64 a0_0, .int .i64 a0_1, .int .i64 a0_2, .int .i64 a0_3]) (t := 31) ?hr ?_; (case hd => rfl); (case hg => rfl); (case hr => first | (go_simp; done) | (go_simp; rfl)); intro gb101 hg w15 hbox hb; have n0_ := zm (zw (by repeat (first | (with_reducible first | exact HB.out | apply zg | apply zh | apply zi) | exact HB.out)) hb); have n1_ := zm (hbox); have n2_ := zm ((by rw [hg]; exact (zx (by repeat (first | (with_reducible first | exact HB.out | apply zg | apply zh | apply zi) | exact HB.out))) : w.heap.size ≤ gb101)); have n3_ := zm ((by rw [hg]; exact (zx (by repeat (first | (with_reducible first | exact HB.out | apply zg | apply zh | apply zi) | exact HB.out))) : w.heap.size ≤ gb101)); clear HB; have HB := n0_; have BK101 := n1_; have GW101 := n2_; have GE101 := n3_; clear n0_ n1_ n2_ n3_; clear hb hbox hg; have hcz16_0 : w15.cell? ⟨gb101, 0, none⟩ = some (.int .i64 a0_0) := (yG BK101.out 0).trans rfl; have hcz16_1 : w15.cell? ⟨gb101, 1, none⟩ = some (.int .i64 a0_1) := (yG BK101.out 1).trans rfl; have hcz16_2 : w15.cell? ⟨gb101, 2, none⟩ = some (.int .i64 a0_2) := (yG BK101.out 2).trans rfl; have hcz16_3 : w15.cell? ⟨gb101, 3, none⟩ = some (.int .i64 a0_3) := (yG BK101.out 3).trans rfl; have hfz16_0 := zH BK101.out 0; have hfz16_1 := zH BK101.out 1; have hfz16_2 := zH BK101.out 2; have hfz16_3 := zH BK101.out 3) | ((with_reducible refine gate_callee (f := 42) rfl ?_); refine goesL_ (some 5) rfl rfl Try.func42 (by kernel_rfl) rfl #[.int .i64 a0_0, .int .i64 0, .int .i64 9] rfl (by (try simp only [zA, zB, zC]); first | done | rfl | (simp only [zE, zD]; rfl)) ?_; (with_reducible refine (spec_l1In.calls a0_0 0 9 false _ A2.out).mono ?_); rintro e w' ⟨rfl, ⟨nd, rfl⟩⟩; refine ⟨_, rfl, ?_⟩))
  go_ret
  exact ⟨by first | rfl | (simp [errW_none, errW_some] <;> rfl) | (simp [*, errW_none, errW_some] <;> rfl), by repeat (first | (with_reducible first | exact HB.out | apply zg | apply zh | apply zi | refine zy ?_ GE101.out) | exact HB.out)⟩

/-! ### spec_l5Find: function 40 -/
def spec_l5Find.l0 : Nat → List (S31) → Int → Int → Int → Option (Int)
  | 0, _, _, _, _ => none
  | k + 1, x0, x1, x2, x7 => if x7 < (x0.length : Int) then (if 0 ≤ x7 then (if ((rd_T31 x0 x7).f0) = x1 then (if ((rd_T31 x0 x7).f1) = x2 then (some x7) else (spec_l5Find.l0 k x0 x1 x2 (wrap64 (x7 + 1)))) else (spec_l5Find.l0 k x0 x1 x2 (wrap64 (x7 + 1)))) else (none)) else (some (-1))
def spec_l5Find.f (k : Nat) (l0 : List (S31)) (a1 : Int) (a2 : Int) : Option (Int) := spec_l5Find.l0 k l0 a1 a2 0
theorem spec_l5Find.mono_l : ∀ k, (∀ y0 y1 y2 y3, LeO (spec_l5Find.l0 k y0 y1 y2 y3) (spec_l5Find.l0 (k + 1) y0 y1 y2 y3))
  | 0 => fun _ _ _ _ r h => by simp [spec_l5Find.l0] at h
  | k + 1 => by
    have ih0 := spec_l5Find.mono_l k
    · intro y0 y1 y2 y3
      unfold spec_l5Find.l0
      repeat' first
      | (with_reducible exact ih0 _ _ _ _)
      | (with_reducible exact LeO.refl _)
      | (with_reducible exact LeO.none _)
      | (with_reducible refine LeO.ite ?_ ?_)
      | (with_reducible refine LeO.bind ?_ (fun _ => ?_))
      | exact ih0 _ _ _ _
      | exact LeO.none _
      | refine LeO.ite ?_ ?_
      | refine LeO.bind ?_ (fun _ => ?_)
theorem spec_l5Find.mono : ∀ a0 a1 a2 k, LeO (spec_l5Find.f k a0 a1 a2) (spec_l5Find.f (k + 1) a0 a1 a2) := by
  intro a0 a1 a2 k
  have ih0 := spec_l5Find.mono_l k
  unfold spec_l5Find.f
  repeat' first
      | (with_reducible exact ih0 _ _ _ _)
      | (with_reducible exact LeO.refl _)
      | (with_reducible exact LeO.none _)
      | (with_reducible refine LeO.ite ?_ ?_)
      | (with_reducible refine LeO.bind ?_ (fun _ => ?_))
      | exact ih0 _ _ _ _
      | exact LeO.none _
      | refine LeO.ite ?_ ?_
      | refine LeO.bind ?_ (fun _ => ?_)
set_option maxHeartbeats 8000000 in
set_option maxRecDepth 100000 in
theorem spec_l5Find.calls (k : Nat) (A0 : Option Addr) (c0 : Nat) (l0 : List (S31)) (a1 : Int) (a2 : Int) (r : Int) (w : World) (hr0 : Kd.C k31 w A0 l0.length l0) (hc0 : l0.length ≤ c0) (h : spec_l5Find.f k l0 a1 a2 = some r) :
  Calls Try.prog 40 #[.slice A0 l0.length c0, .int .i64 a1, .int .i64 a2] w fun e w' => e = .returned (.int .i64 r) ∧ Drawn0 w w' := by
 have HR0 := zm hr0
 have HC0 := zm hc0
 clear hr0 hc0
 have H : (spec_l5Find.l0 k l0 a1 a2 0) = some r := h
 clear h
 have H' := zm H
 clear H
 go_enter Try.func40, Try.ntmps40
 go_wp2
 go_loopg [7] k (fun kq v7 w' => ∃ (x7_1 : Int), v7 = .int .i64 x7_1 ∧ Aside0 (spec_l5Find.l0 kq l0 a1 a2 x7_1 = some r) ∧ Aside0 (kq ≤ k) ∧ Drawn0 w w')
 case atStart => exact ⟨(0), (by first | rfl | (simp; done) | (simp [*]; done)), H', ⟨Nat.le_refl _⟩, by repeat (first | exact Drawn0.refl _ | apply Drawn0.step)⟩
 case round =>
  clear H'
  try clear p2
  obtain ⟨x7_1, rfl, HA, HK1, ⟨m1, rfl⟩⟩ := hrel
  cases gk with
  | zero => exact absurd HA.out (by simp [spec_l5Find.l0])
  | succ k1 =>
   have H := HA.out
   clear HA
   simp only [spec_l5Find.l0] at H
   by_cases c4 : x7_1 < (l0.length : Int)
   ·rw [if_pos c4] at H
    have c4b0 : decide (x7_1 < (l0.length : Int)) = true := decide_eq_true c4
    clear c4
    by_cases c5 : 0 ≤ x7_1
    ·rw [if_pos c5] at H
     have c5b0 : decide (0 ≤ x7_1) = true := decide_eq_true c5
     clear c5
     by_cases c6 : ((rd_T31 l0 x7_1).f0) = a1
     ·rw [if_pos c6] at H
      have c6b0 : (((rd_T31 l0 x7_1).f0) == a1) = true := beq_iff_eq.mpr c6
      have c6b1 : (((rd_T31 l0 x7_1).f0) != a1) = false := bne_eq_false_iff_eq.mpr c6
      clear c6
      by_cases c7 : ((rd_T31 l0 x7_1).f1) = a2
      ·rw [if_pos c7] at H
       have c7b0 : (((rd_T31 l0 x7_1).f1) == a2) = true := beq_iff_eq.mpr c7
       have c7b1 : (((rd_T31 l0 x7_1).f1) != a2) = false := bne_eq_false_iff_eq.mpr c7
       clear c7
       obtain rfl := Option.some.inj H
       have p106 : 0 ≤ (x7_1 : Int) := of_decide_eq_true (by first | (with_reducible assumption) | assumption)
       have q106 : x7_1 < (l0.length : Int) := of_decide_eq_true (by first | (with_reducible assumption) | assumption)
       obtain ⟨ad106, e106, hx106_0, hx106_1, hx106_2, hx106_3⟩ := at_T31 HR0.out x7_1 p106 q106
       cases e106
       replace p106 := eq_true p106
       replace q106 := eq_true q106
       have p107 : 0 ≤ (x7_1 : Int) := of_decide_eq_true (by first | (with_reducible assumption) | assumption)
       have q107 : x7_1 < (l0.length : Int) := of_decide_eq_true (by first | (with_reducible assumption) | assumption)
       obtain ⟨ad107, e107, hx107_0, hx107_1, hx107_2, hx107_3⟩ := at_T31 HR0.out x7_1 p107 q107
       obtain rfl : ad106 = ad107 := (by injection e107)
       replace p107 := eq_true p107
       replace q107 := eq_true q107
       go_wp2
       go_ret
       exact ⟨by first | rfl | (simp; done) | (simp [*]; done), by repeat (first | exact Drawn0.refl _ | apply Drawn0.step)⟩
      ·rw [if_neg c7] at H
       have c7b0 : (((rd_T31 l0 x7_1).f1) == a2) = false := beq_eq_false_iff_ne.mpr c7
       have c7b1 : (((rd_T31 l0 x7_1).f1) != a2) = true := bne_iff_ne.mpr c7
       have H' := zm H
       clear H
       have p106 : 0 ≤ (x7_1 : Int) := of_decide_eq_true (by first | (with_reducible assumption) | assumption)
       have q106 : x7_1 < (l0.length : Int) := of_decide_eq_true (by first | (with_reducible assumption) | assumption)
       obtain ⟨ad106, e106, hx106_0, hx106_1, hx106_2, hx106_3⟩ := at_T31 HR0.out x7_1 p106 q106
       cases e106
       replace p106 := eq_true p106
       replace q106 := eq_true q106
       have p107 : 0 ≤ (x7_1 : Int) := of_decide_eq_true (by first | (with_reducible assumption) | assumption)
       have q107 : x7_1 < (l0.length : Int) := of_decide_eq_true (by first | (with_reducible assumption) | assumption)
       obtain ⟨ad107, e107, hx107_0, hx107_1, hx107_2, hx107_3⟩ := at_T31 HR0.out x7_1 p107 q107
       obtain rfl : ad106 = ad107 := (by injection e107)
       replace p107 := eq_true p107
       replace q107 := eq_true q107
       go_wp2
       go_roundg k1
       case measure => have := HK1.out; omega
       case rel => exact ⟨(wrap64 (x7_1 + 1)), (by first | rfl | (simp; done) | (simp [*]; done)), H', ⟨by have := HK1.out; omega⟩, by repeat (first | exact Drawn0.refl _ | apply Drawn0.step)⟩
     ·rw [if_neg c6] at H
      have c6b0 : (((rd_T31 l0 x7_1).f0) == a1) = false := beq_eq_false_iff_ne.mpr c6
      have c6b1 : (((rd_T31 l0 x7_1).f0) != a1) = true := bne_iff_ne.mpr c6
      have H' := zm H
      clear H
      have p106 : 0 ≤ (x7_1 : Int) := of_decide_eq_true (by first | (with_reducible assumption) | assumption)
      have q106 : x7_1 < (l0.length : Int) := of_decide_eq_true (by first | (with_reducible assumption) | assumption)
      obtain ⟨ad106, e106, hx106_0, hx106_1, hx106_2, hx106_3⟩ := at_T31 HR0.out x7_1 p106 q106
      cases e106
      replace p106 := eq_true p106
      replace q106 := eq_true q106
      go_wp2
      go_roundg k1
      case measure => have := HK1.out; omega
      case rel => exact ⟨(wrap64 (x7_1 + 1)), (by first | rfl | (simp; done) | (simp [*]; done)), H', ⟨by have := HK1.out; omega⟩, by repeat (first | exact Drawn0.refl _ | apply Drawn0.step)⟩
    ·rw [if_neg c5] at H
     exact absurd H (by simp)
   ·rw [if_neg c4] at H
    have c4b0 : decide (x7_1 < (l0.length : Int)) = false := decide_eq_false c4
    clear c4
    obtain rfl := Option.some.inj H
    go_wp2
    go_ret
    exact ⟨by first | rfl | (simp; done) | (simp [*]; done), by repeat (first | exact Drawn0.refl _ | apply Drawn0.step)⟩

/-! ### spec_CacheFault: function 19 -/
def spec_CacheFault.l0 : Nat → List (S31) → Int → Option (Int)
  | 0, _, _ => none
  | k + 1, x0, x3 => if x3 < (x0.length : Int) then (if 0 ≤ x3 then ((spec_l5Hit.f ((rd_T31 x0 x3).f0) ((rd_T31 x0 x3).f1) ((rd_T31 x0 x3).f2) ((rd_T31 x0 x3).f3)).bind fun t109 => (if t109 = true then (if x3 ≤ (x0.length : Int) then ((spec_l5Find.f k (x0.take (x3 : Int).toNat) ((rd_T31 x0 x3).f0) ((rd_T31 x0 x3).f1)).bind fun t116 => (if t116 ≥ 0 then (some 6) else (spec_CacheFault.l0 k x0 (wrap64 (x3 + 1))))) else (none)) else (some 3))) else (none)) else (some 0)
def spec_CacheFault.f (k : Nat) (l0 : List (S31)) : Option (Int) := if (l0.length : Int) > 12 then (some 2) else (spec_CacheFault.l0 k l0 0)
theorem spec_CacheFault.mono_l : ∀ k, (∀ y0 y1, LeO (spec_CacheFault.l0 k y0 y1) (spec_CacheFault.l0 (k + 1) y0 y1))
  | 0 => fun _ _ r h => by simp [spec_CacheFault.l0] at h
  | k + 1 => by
    have ih0 := spec_CacheFault.mono_l k
    · intro y0 y1
      unfold spec_CacheFault.l0
      repeat' first
      | (with_reducible exact ih0 _ _)
      | (with_reducible exact spec_l5Find.mono _ _ _ _)
      | (with_reducible exact LeO.refl _)
      | (with_reducible exact LeO.none _)
      | (with_reducible refine LeO.ite ?_ ?_)
      | (with_reducible refine LeO.bind ?_ (fun _ => ?_))
      | exact ih0 _ _
      | exact spec_l5Find.mono _ _ _ _
      | exact LeO.none _
      | refine LeO.ite ?_ ?_
      | refine LeO.bind ?_ (fun _ => ?_)
theorem spec_CacheFault.mono : ∀ a0 k, LeO (spec_CacheFault.f k a0) (spec_CacheFault.f (k + 1) a0) := by
  intro a0 k
  have ih0 := spec_CacheFault.mono_l k
  unfold spec_CacheFault.f
  repeat' first
      | (with_reducible exact ih0 _ _)
      | (with_reducible exact spec_l5Find.mono _ _ _ _)
      | (with_reducible exact LeO.refl _)
      | (with_reducible exact LeO.none _)
      | (with_reducible refine LeO.ite ?_ ?_)
      | (with_reducible refine LeO.bind ?_ (fun _ => ?_))
      | exact ih0 _ _
      | exact spec_l5Find.mono _ _ _ _
      | exact LeO.none _
      | refine LeO.ite ?_ ?_
      | refine LeO.bind ?_ (fun _ => ?_)
set_option maxHeartbeats 8000000 in
set_option maxRecDepth 100000 in
theorem spec_CacheFault.calls (k : Nat) (A0 : Option Addr) (c0 : Nat) (l0 : List (S31)) (r : Int) (w : World) (hr0 : Kd.C k31 w A0 l0.length l0) (hc0 : l0.length ≤ c0) (h : spec_CacheFault.f k l0 = some r) :
  Calls Try.prog 19 #[.slice A0 l0.length c0] w fun e w' => e = .returned (.int .i64 r) ∧ Below w.heap.size w w' := by
 have hu31 := Try.underlying31
 have HR0 := zm hr0
 have HC0 := zm hc0
 clear hr0 hc0
 have HB := zm (Below.refl w.heap.size w)
 have H : (if (l0.length : Int) > 12 then (some 2) else (spec_CacheFault.l0 k l0 0)) = some r := h
 clear h
 by_cases c2 : (l0.length : Int) > 12
 ·rw [if_pos c2] at H
  have c2b0 : decide (12 < (l0.length : Int)) = true := decide_eq_true c2
  have c2b1 : decide (12 < l0.length) = true := decide_eq_true (by omega)
  clear c2
  obtain rfl := Option.some.inj H
  go_enter Try.func19, Try.ntmps19
  go_wp2
  repeat (go_quiet (fail); try go_wp2)
  go_ret
  exact ⟨by first | rfl | (simp [errW_none, errW_some] <;> rfl) | (simp [*, errW_none, errW_some] <;> rfl), by repeat (first | (with_reducible first | exact HB.out | apply zg | apply zh | apply zi) | exact HB.out)⟩
 ·rw [if_neg c2] at H
  have c2b0 : decide (12 < (l0.length : Int)) = false := decide_eq_false c2
  have c2b1 : decide (12 < l0.length) = false := decide_eq_false (by omega)
  clear c2
  have H' := zm H
  clear H
  go_enter Try.func19, Try.ntmps19
  go_wp2
  repeat (go_quiet (fail); try go_wp2)
  go_loopg [3] k (fun kq v3 w' => ∃ (x3_1 : Int), v3 = .int .i64 x3_1 ∧ Aside0 (spec_CacheFault.l0 kq l0 x3_1 = some r) ∧ Aside0 (kq ≤ k) ∧ Aside0 (Below w.heap.size w w'))
  case atStart => exact ⟨(0), (by first | rfl | (simp; done) | (simp [*]; done)), H', ⟨Nat.le_refl _⟩, ⟨by repeat (first | (with_reducible first | exact HB.out | apply zg | apply zh | apply zi) | exact HB.out)⟩⟩
  case round =>
   clear H'
   try clear c1
   try clear c2
   try clear c2b0
   try clear c2b1
   try clear p2
   obtain ⟨x3_1, rfl, HA, HK1, HB⟩ := hrel
   cases gk with
   | zero => exact absurd HA.out (by simp [spec_CacheFault.l0])
   | succ k1 =>
    have H := HA.out
    clear HA
    simp only [spec_CacheFault.l0] at H
    by_cases c3 : x3_1 < (l0.length : Int)
    ·rw [if_pos c3] at H
     have c3b0 : decide (x3_1 < (l0.length : Int)) = true := decide_eq_true c3
     clear c3
     by_cases c4 : 0 ≤ x3_1
     ·rw [if_pos c4] at H
      have c4b0 : decide (0 ≤ x3_1) = true := decide_eq_true c4
      clear c4
      replace H := yH.mp H
      obtain ⟨t109, A50, H⟩ := H
      try dsimp only at H
      have A5 := zm A50
      clear A50
      by_cases c6 : t109 = true
      ·subst c6
       rw [if_pos rfl] at H
       have c7b0 := eq_true (of_decide_eq_true (by first | (with_reducible assumption) | assumption) : 0 ≤ x3_1)
       by_cases c8 : x3_1 ≤ (l0.length : Int)
       ·rw [if_pos c8] at H
        have c8b0 := eq_true c8
        have c8b1 : decide (x3_1 ≤ (l0.length : Int)) = true := decide_eq_true c8
        clear c8
        obtain ⟨y110, hy110⟩ : ∃ y_ : List (S31), y_ = (l0.take (x3_1 : Int).toNat) := ⟨_, rfl⟩
        replace H : ((spec_l5Find.f k1 y110 ((rd_T31 l0 x3_1).f0) ((rd_T31 l0 x3_1).f1)).bind fun t116 => (if t116 ≥ 0 then (some 6) else (spec_CacheFault.l0 k1 l0 (wrap64 (x3_1 + 1))))) = some r := by first | (rw [hy110]; with_reducible exact H) | (have H2_ := (Option.bind_some _ _).symm.trans H; rw [hy110]; with_reducible exact H2_) | (have H2_ := (Option.bind_some _ _).symm.trans H; with_reducible exact H2_) | with_reducible exact H | (rw [hy110]; exact H) | exact H
        have Ny110 := zm hy110
        clear hy110
        replace H := yH.mp H
        obtain ⟨t116, A90, H⟩ := H
        try dsimp only at H
        have A9 := zm A90
        clear A90
        by_cases c10 : t116 ≥ 0
        ·rw [if_pos c10] at H
         have c10b0 : decide (0 ≤ t116) = true := decide_eq_true c10
         clear c10
         obtain rfl := Option.some.inj H
         have p108 : 0 ≤ (x3_1 : Int) := of_decide_eq_true (by first | (with_reducible assumption) | assumption)
         have q108 : x3_1 < (l0.length : Int) := of_decide_eq_true (by first | (with_reducible assumption) | assumption)
         obtain ⟨ad108, e108, hx108_0, hx108_1, hx108_2, hx108_3⟩ := at_T31 HR0.out x3_1 p108 q108
         cases e108
         replace hx108_0 := (HB.out.cell (yF w _ hx108_0)).trans hx108_0
         replace hx108_1 := (HB.out.cell (yF w _ hx108_1)).trans hx108_1
         replace hx108_2 := (HB.out.cell (yF w _ hx108_2)).trans hx108_2
         replace hx108_3 := (HB.out.cell (yF w _ hx108_3)).trans hx108_3
         replace p108 := eq_true p108
         replace q108 := eq_true q108
         iterate 6 (try (first | go_quiet (first | (go_at_call 33; (with_reducible refine (spec_l5Hit.calls ((rd_T31 l0 x3_1).f0) ((rd_T31 l0 x3_1).f1) ((rd_T31 l0 x3_1).f2) ((rd_T31 l0 x3_1).f3) true _ A5.out).mono ?_); rintro e w11 ⟨rfl, hb⟩; have n0_ := zm (zw (by repeat (first | (with_reducible first | exact HB.out | apply zg | apply zh | apply zi) | exact HB.out)) hb); clear HB; have HB := n0_; clear n0_; (try clear hb); (try clear hb2); (try clear hk); (try clear hi); have q12 : (x3_1 : Int) ≤ ((l0.length : Int) : Int) := of_decide_eq_true (by first | (with_reducible assumption) | assumption); obtain ⟨i012, hi012, _, hsz12, _⟩ := info_parts info31; have hroom12 : l0.length ≤ c0 := HC0.out; have hC12 : Kd.C k31 _ (some ad108) l0.length l0 := HR0.out; have hcut12 := cut_to (P := Try.prog) 26 31 .i64 Try.underlying26 hi012 (some ad108) l0.length c0 x3_1 (of_decide_eq_true (by first | (with_reducible assumption) | assumption)) q12 hroom12; have hr12 := Kd.C_take (m := (x3_1 : Int).toNat) hC12 (by omega); have hy12 : y110.length = (x3_1 : Int).toNat := (by rw [Ny110.out, zD]; omega); rw [← Ny110.out] at hr12; rw [← hy12] at hcut12; have HR113 := zm hr12; have HC113 := zm (show y110.length ≤ c0 from by omega); clear hr12 hC12 hroom12 hi012 hsz12; have KY12 := zm hy12; clear hy12; replace q12 := eq_true q12; have p114 : 0 ≤ (x3_1 : Int) := of_decide_eq_true (by first | (with_reducible assumption) | assumption); have q114 : x3_1 < (l0.length : Int) := of_decide_eq_true (by first | (with_reducible assumption) | assumption); obtain ⟨ad114, e114, hx114_0, hx114_1, hx114_2, hx114_3⟩ := at_T31 HR0.out x3_1 p114 q114; obtain rfl : ad108 = ad114 := (by injection e114); replace hx114_0 := (HB.out.cell (yF w _ hx114_0)).trans hx114_0; replace hx114_1 := (HB.out.cell (yF w _ hx114_1)).trans hx114_1; replace hx114_2 := (HB.out.cell (yF w _ hx114_2)).trans hx114_2; replace hx114_3 := (HB.out.cell (yF w _ hx114_3)).trans hx114_3; replace p114 := eq_true p114; replace q114 := eq_true q114; have p115 : 0 ≤ (x3_1 : Int) := of_decide_eq_true (by first | (with_reducible assumption) | assumption); have q115 : x3_1 < (l0.length : Int) := of_decide_eq_true (by first | (with_reducible assumption) | assumption); obtain ⟨ad115, e115, hx115_0, hx115_1, hx115_2, hx115_3⟩ := at_T31 HR0.out x3_1 p115 q115; obtain rfl : ad108 = ad115 := (by injection e115); replace hx115_0 := (HB.out.cell (yF w _ hx115_0)).trans hx115_0; replace hx115_1 := (HB.out.cell (yF w _ hx115_1)).trans hx115_1; replace hx115_2 := (HB.out.cell (yF w _ hx115_2)).trans hx115_2; replace hx115_3 := (HB.out.cell (yF w _ hx115_3)).trans hx115_3; replace p115 := eq_true p115; replace q115 := eq_true q115) | (go_at_call 40; (with_reducible refine (spec_l5Find.calls k1 _ _ y110 ((rd_T31 l0 x3_1).f0) ((rd_T31 l0 x3_1).f1) t116 _ ?side1 ?side2 A9.out).mono ?_); (case side1 => repeat (first | exact (Kd.C_below HR113.out HB.out) | (with_reducible first | refine zj ?_ _ | refine zk ?_ _ | refine zl ?_))); (case side2 => exact HC113.out); rintro e w' ⟨rfl, ⟨nd, rfl⟩⟩; (try first | exact ⟨rfl, _, World.drewN_drewN _ _ _⟩ | exact ⟨rfl, _, Eq.trans (World.drewN_drewN _ _ _) (congrArg (World.drewN _) (Nat.add_assoc _ _ _))⟩))) | go_wp2_with (first | (go_at_call 33; (with_reducible refine (spec_l5Hit.calls ((rd_T31 l0 x3_1).f0) ((rd_T31 l0 x3_1).f1) ((rd_T31 l0 x3_1).f2) ((rd_T31 l0 x3_1).f3) true _ A5.out).mono ?_); rintro e w11 ⟨rfl, hb⟩; have n0_ := zm (zw (by repeat (first | (with_reducible first | exact HB.out | apply zg | apply zh | apply zi) | exact HB.out)) hb); clear HB; have HB := n0_; clear n0_; (try clear hb); (try clear hb2); (try clear hk); (try clear hi); have q12 : (x3_1 : Int) ≤ ((l0.length : Int) : Int) := of_decide_eq_true (by first | (with_reducible assumption) | assumption); obtain ⟨i012, hi012, _, hsz12, _⟩ := info_parts info31; have hroom12 : l0.length ≤ c0 := HC0.out; have hC12 : Kd.C k31 _ (some ad108) l0.length l0 := HR0.out; have hcut12 := cut_to (P := Try.prog) 26 31 .i64 Try.underlying26 hi012 (some ad108) l0.length c0 x3_1 (of_decide_eq_true (by first | (with_reducible assumption) | assumption)) q12 hroom12; have hr12 := Kd.C_take (m := (x3_1 : Int).toNat) hC12 (by omega); have hy12 : y110.length = (x3_1 : Int).toNat := (by rw [Ny110.out, zD]; omega); rw [← Ny110.out] at hr12; rw [← hy12] at hcut12; have HR113 := zm hr12; have HC113 := zm (show y110.length ≤ c0 from by omega); clear hr12 hC12 hroom12 hi012 hsz12; have KY12 := zm hy12; clear hy12; replace q12 := eq_true q12; have p114 : 0 ≤ (x3_1 : Int) := of_decide_eq_true (by first | (with_reducible assumption) | assumption); have q114 : x3_1 < (l0.length : Int) := of_decide_eq_true (by first | (with_reducible assumption) | assumption); obtain ⟨ad114, e114, hx114_0, hx114_1, hx114_2, hx114_3⟩ := at_T31 HR0.out x3_1 p114 q114; obtain rfl : ad108 = ad114 := (by injection e114); replace hx114_0 := (HB.out.cell (yF w _ hx114_0)).trans hx114_0; replace hx114_1 := (HB.out.cell (yF w _ hx114_1)).trans hx114_1; replace hx114_2 := (HB.out.cell (yF w _ hx114_2)).trans hx114_2; replace hx114_3 := (HB.out.cell (yF w _ hx114_3)).trans hx114_3; replace p114 := eq_true p114; replace q114 := eq_true q114; have p115 : 0 ≤ (x3_1 : Int) := of_decide_eq_true (by first | (with_reducible assumption) | assumption); have q115 : x3_1 < (l0.length : Int) := of_decide_eq_true (by first | (with_reducible assumption) | assumption); obtain ⟨ad115, e115, hx115_0, hx115_1, hx115_2, hx115_3⟩ := at_T31 HR0.out x3_1 p115 q115; obtain rfl : ad108 = ad115 := (by injection e115); replace hx115_0 := (HB.out.cell (yF w _ hx115_0)).trans hx115_0; replace hx115_1 := (HB.out.cell (yF w _ hx115_1)).trans hx115_1; replace hx115_2 := (HB.out.cell (yF w _ hx115_2)).trans hx115_2; replace hx115_3 := (HB.out.cell (yF w _ hx115_3)).trans hx115_3; replace p115 := eq_true p115; replace q115 := eq_true q115) | (go_at_call 40; (with_reducible refine (spec_l5Find.calls k1 _ _ y110 ((rd_T31 l0 x3_1).f0) ((rd_T31 l0 x3_1).f1) t116 _ ?side1 ?side2 A9.out).mono ?_); (case side1 => repeat (first | exact (Kd.C_below HR113.out HB.out) | (with_reducible first | refine zj ?_ _ | refine zk ?_ _ | refine zl ?_))); (case side2 => exact HC113.out); rintro e w' ⟨rfl, ⟨nd, rfl⟩⟩; (try first | exact ⟨rfl, _, World.drewN_drewN _ _ _⟩ | exact ⟨rfl, _, Eq.trans (World.drewN_drewN _ _ _) (congrArg (World.drewN _) (Nat.add_assoc _ _ _))⟩)))))
         go_ret
         exact ⟨by first | rfl | (simp [errW_none, errW_some] <;> rfl) | (simp [*, errW_none, errW_some] <;> rfl), by repeat (first | (with_reducible first | exact HB.out | apply zg | apply zh | apply zi) | exact HB.out)⟩
        ·rw [if_neg c10] at H
         have c10b0 : decide (0 ≤ t116) = false := decide_eq_false c10
         clear c10
         have H' := zm H
         clear H
         have p108 : 0 ≤ (x3_1 : Int) := of_decide_eq_true (by first | (with_reducible assumption) | assumption)
         have q108 : x3_1 < (l0.length : Int) := of_decide_eq_true (by first | (with_reducible assumption) | assumption)
         obtain ⟨ad108, e108, hx108_0, hx108_1, hx108_2, hx108_3⟩ := at_T31 HR0.out x3_1 p108 q108
         cases e108
         replace hx108_0 := (HB.out.cell (yF w _ hx108_0)).trans hx108_0
         replace hx108_1 := (HB.out.cell (yF w _ hx108_1)).trans hx108_1
         replace hx108_2 := (HB.out.cell (yF w _ hx108_2)).trans hx108_2
         replace hx108_3 := (HB.out.cell (yF w _ hx108_3)).trans hx108_3
         replace p108 := eq_true p108
         replace q108 := eq_true q108
         iterate 6 (try (first | go_quiet (first | (go_at_call 33; (with_reducible refine (spec_l5Hit.calls ((rd_T31 l0 x3_1).f0) ((rd_T31 l0 x3_1).f1) ((rd_T31 l0 x3_1).f2) ((rd_T31 l0 x3_1).f3) true _ A5.out).mono ?_); rintro e w13 ⟨rfl, hb⟩; have n0_ := zm (zw (by repeat (first | (with_reducible first | exact HB.out | apply zg | apply zh | apply zi) | exact HB.out)) hb); clear HB; have HB := n0_; clear n0_; (try clear hb); (try clear hb2); (try clear hk); (try clear hi); have q14 : (x3_1 : Int) ≤ ((l0.length : Int) : Int) := of_decide_eq_true (by first | (with_reducible assumption) | assumption); obtain ⟨i014, hi014, _, hsz14, _⟩ := info_parts info31; have hroom14 : l0.length ≤ c0 := HC0.out; have hC14 : Kd.C k31 _ (some ad108) l0.length l0 := HR0.out; have hcut14 := cut_to (P := Try.prog) 26 31 .i64 Try.underlying26 hi014 (some ad108) l0.length c0 x3_1 (of_decide_eq_true (by first | (with_reducible assumption) | assumption)) q14 hroom14; have hr14 := Kd.C_take (m := (x3_1 : Int).toNat) hC14 (by omega); have hy14 : y110.length = (x3_1 : Int).toNat := (by rw [Ny110.out, zD]; omega); rw [← Ny110.out] at hr14; rw [← hy14] at hcut14; have HR113 := zm hr14; have HC113 := zm (show y110.length ≤ c0 from by omega); clear hr14 hC14 hroom14 hi014 hsz14; have KY14 := zm hy14; clear hy14; replace q14 := eq_true q14; have p114 : 0 ≤ (x3_1 : Int) := of_decide_eq_true (by first | (with_reducible assumption) | assumption); have q114 : x3_1 < (l0.length : Int) := of_decide_eq_true (by first | (with_reducible assumption) | assumption); obtain ⟨ad114, e114, hx114_0, hx114_1, hx114_2, hx114_3⟩ := at_T31 HR0.out x3_1 p114 q114; obtain rfl : ad108 = ad114 := (by injection e114); replace hx114_0 := (HB.out.cell (yF w _ hx114_0)).trans hx114_0; replace hx114_1 := (HB.out.cell (yF w _ hx114_1)).trans hx114_1; replace hx114_2 := (HB.out.cell (yF w _ hx114_2)).trans hx114_2; replace hx114_3 := (HB.out.cell (yF w _ hx114_3)).trans hx114_3; replace p114 := eq_true p114; replace q114 := eq_true q114; have p115 : 0 ≤ (x3_1 : Int) := of_decide_eq_true (by first | (with_reducible assumption) | assumption); have q115 : x3_1 < (l0.length : Int) := of_decide_eq_true (by first | (with_reducible assumption) | assumption); obtain ⟨ad115, e115, hx115_0, hx115_1, hx115_2, hx115_3⟩ := at_T31 HR0.out x3_1 p115 q115; obtain rfl : ad108 = ad115 := (by injection e115); replace hx115_0 := (HB.out.cell (yF w _ hx115_0)).trans hx115_0; replace hx115_1 := (HB.out.cell (yF w _ hx115_1)).trans hx115_1; replace hx115_2 := (HB.out.cell (yF w _ hx115_2)).trans hx115_2; replace hx115_3 := (HB.out.cell (yF w _ hx115_3)).trans hx115_3; replace p115 := eq_true p115; replace q115 := eq_true q115) | (go_at_call 40; (with_reducible refine (spec_l5Find.calls k1 _ _ y110 ((rd_T31 l0 x3_1).f0) ((rd_T31 l0 x3_1).f1) t116 _ ?side1 ?side2 A9.out).mono ?_); (case side1 => repeat (first | exact (Kd.C_below HR113.out HB.out) | (with_reducible first | refine zj ?_ _ | refine zk ?_ _ | refine zl ?_))); (case side2 => exact HC113.out); rintro e w' ⟨rfl, ⟨nd, rfl⟩⟩; (try first | exact ⟨rfl, _, World.drewN_drewN _ _ _⟩ | exact ⟨rfl, _, Eq.trans (World.drewN_drewN _ _ _) (congrArg (World.drewN _) (Nat.add_assoc _ _ _))⟩))) | go_wp2_with (first | (go_at_call 33; (with_reducible refine (spec_l5Hit.calls ((rd_T31 l0 x3_1).f0) ((rd_T31 l0 x3_1).f1) ((rd_T31 l0 x3_1).f2) ((rd_T31 l0 x3_1).f3) true _ A5.out).mono ?_); rintro e w13 ⟨rfl, hb⟩; have n0_ := zm (zw (by repeat (first | (with_reducible first | exact HB.out | apply zg | apply zh | apply zi) | exact HB.out)) hb); clear HB; have HB := n0_; clear n0_; (try clear hb); (try clear hb2); (try clear hk); (try clear hi); have q14 : (x3_1 : Int) ≤ ((l0.length : Int) : Int) := of_decide_eq_true (by first | (with_reducible assumption) | assumption); obtain ⟨i014, hi014, _, hsz14, _⟩ := info_parts info31; have hroom14 : l0.length ≤ c0 := HC0.out; have hC14 : Kd.C k31 _ (some ad108) l0.length l0 := HR0.out; have hcut14 := cut_to (P := Try.prog) 26 31 .i64 Try.underlying26 hi014 (some ad108) l0.length c0 x3_1 (of_decide_eq_true (by first | (with_reducible assumption) | assumption)) q14 hroom14; have hr14 := Kd.C_take (m := (x3_1 : Int).toNat) hC14 (by omega); have hy14 : y110.length = (x3_1 : Int).toNat := (by rw [Ny110.out, zD]; omega); rw [← Ny110.out] at hr14; rw [← hy14] at hcut14; have HR113 := zm hr14; have HC113 := zm (show y110.length ≤ c0 from by omega); clear hr14 hC14 hroom14 hi014 hsz14; have KY14 := zm hy14; clear hy14; replace q14 := eq_true q14; have p114 : 0 ≤ (x3_1 : Int) := of_decide_eq_true (by first | (with_reducible assumption) | assumption); have q114 : x3_1 < (l0.length : Int) := of_decide_eq_true (by first | (with_reducible assumption) | assumption); obtain ⟨ad114, e114, hx114_0, hx114_1, hx114_2, hx114_3⟩ := at_T31 HR0.out x3_1 p114 q114; obtain rfl : ad108 = ad114 := (by injection e114); replace hx114_0 := (HB.out.cell (yF w _ hx114_0)).trans hx114_0; replace hx114_1 := (HB.out.cell (yF w _ hx114_1)).trans hx114_1; replace hx114_2 := (HB.out.cell (yF w _ hx114_2)).trans hx114_2; replace hx114_3 := (HB.out.cell (yF w _ hx114_3)).trans hx114_3; replace p114 := eq_true p114; replace q114 := eq_true q114; have p115 : 0 ≤ (x3_1 : Int) := of_decide_eq_true (by first | (with_reducible assumption) | assumption); have q115 : x3_1 < (l0.length : Int) := of_decide_eq_true (by first | (with_reducible assumption) | assumption); obtain ⟨ad115, e115, hx115_0, hx115_1, hx115_2, hx115_3⟩ := at_T31 HR0.out x3_1 p115 q115; obtain rfl : ad108 = ad115 := (by injection e115); replace hx115_0 := (HB.out.cell (yF w _ hx115_0)).trans hx115_0; replace hx115_1 := (HB.out.cell (yF w _ hx115_1)).trans hx115_1; replace hx115_2 := (HB.out.cell (yF w _ hx115_2)).trans hx115_2; replace hx115_3 := (HB.out.cell (yF w _ hx115_3)).trans hx115_3; replace p115 := eq_true p115; replace q115 := eq_true q115) | (go_at_call 40; (with_reducible refine (spec_l5Find.calls k1 _ _ y110 ((rd_T31 l0 x3_1).f0) ((rd_T31 l0 x3_1).f1) t116 _ ?side1 ?side2 A9.out).mono ?_); (case side1 => repeat (first | exact (Kd.C_below HR113.out HB.out) | (with_reducible first | refine zj ?_ _ | refine zk ?_ _ | refine zl ?_))); (case side2 => exact HC113.out); rintro e w' ⟨rfl, ⟨nd, rfl⟩⟩; (try first | exact ⟨rfl, _, World.drewN_drewN _ _ _⟩ | exact ⟨rfl, _, Eq.trans (World.drewN_drewN _ _ _) (congrArg (World.drewN _) (Nat.add_assoc _ _ _))⟩)))))
         go_roundg k1
         case measure => have := HK1.out; omega
         case rel => exact ⟨(wrap64 (x3_1 + 1)), (by first | rfl | (simp; done) | (simp [*]; done)), H', ⟨by have := HK1.out; omega⟩, ⟨by repeat (first | (with_reducible first | exact HB.out | apply zg | apply zh | apply zi) | exact HB.out)⟩⟩
       ·rw [if_neg c8] at H
        exact absurd H (by simp)
      ·replace c6 := Bool.eq_false_iff.mpr c6
       subst c6
       rw [if_neg (show ¬ (false = true) by decide)] at H
       obtain rfl := Option.some.inj H
       have p108 : 0 ≤ (x3_1 : Int) := of_decide_eq_true (by first | (with_reducible assumption) | assumption)
       have q108 : x3_1 < (l0.length : Int) := of_decide_eq_true (by first | (with_reducible assumption) | assumption)
       obtain ⟨ad108, e108, hx108_0, hx108_1, hx108_2, hx108_3⟩ := at_T31 HR0.out x3_1 p108 q108
       cases e108
       replace hx108_0 := (HB.out.cell (yF w _ hx108_0)).trans hx108_0
       replace hx108_1 := (HB.out.cell (yF w _ hx108_1)).trans hx108_1
       replace hx108_2 := (HB.out.cell (yF w _ hx108_2)).trans hx108_2
       replace hx108_3 := (HB.out.cell (yF w _ hx108_3)).trans hx108_3
       replace p108 := eq_true p108
       replace q108 := eq_true q108
       iterate 6 (try (first | go_quiet (first | (go_at_call 33; (with_reducible refine (spec_l5Hit.calls ((rd_T31 l0 x3_1).f0) ((rd_T31 l0 x3_1).f1) ((rd_T31 l0 x3_1).f2) ((rd_T31 l0 x3_1).f3) false _ A5.out).mono ?_); rintro e w15 ⟨rfl, hb⟩; have n0_ := zm (zw (by repeat (first | (with_reducible first | exact HB.out | apply zg | apply zh | apply zi) | exact HB.out)) hb); clear HB; have HB := n0_; clear n0_; (try clear hb); (try clear hb2); (try clear hk); (try clear hi))) | go_wp2_with (first | (go_at_call 33; (with_reducible refine (spec_l5Hit.calls ((rd_T31 l0 x3_1).f0) ((rd_T31 l0 x3_1).f1) ((rd_T31 l0 x3_1).f2) ((rd_T31 l0 x3_1).f3) false _ A5.out).mono ?_); rintro e w15 ⟨rfl, hb⟩; have n0_ := zm (zw (by repeat (first | (with_reducible first | exact HB.out | apply zg | apply zh | apply zi) | exact HB.out)) hb); clear HB; have HB := n0_; clear n0_; (try clear hb); (try clear hb2); (try clear hk); (try clear hi)))))
       go_ret
       exact ⟨by first | rfl | (simp [errW_none, errW_some] <;> rfl) | (simp [*, errW_none, errW_some] <;> rfl), by repeat (first | (with_reducible first | exact HB.out | apply zg | apply zh | apply zi) | exact HB.out)⟩
     ·rw [if_neg c4] at H
      exact absurd H (by simp)
    ·rw [if_neg c3] at H
     have c3b0 : decide (x3_1 < (l0.length : Int)) = false := decide_eq_false c3
     clear c3
     obtain rfl := Option.some.inj H
     go_wp2
     repeat (go_quiet (fail); try go_wp2)
     go_ret
     exact ⟨by first | rfl | (simp [errW_none, errW_some] <;> rfl) | (simp [*, errW_none, errW_some] <;> rfl), by repeat (first | (with_reducible first | exact HB.out | apply zg | apply zh | apply zi) | exact HB.out)⟩

/-! ### spec_l5Fill: function 34 -/
mutual
def spec_l5Fill.j0 : Nat → List (S31) → Int → Bool → Int → Int → Int → Int → Option ((List (S31)))
  | 0, _, _, _, _, _, _, _ => none
  | k + 1, x0, x5, x20, x118000, x118001, x118002, x118003 => if x20 = true then (spec_l5Fill.j1 k x0 0 x118000 x118001 x118002 x118003) else (spec_l5Fill.j1 k x0 x5 x118000 x118001 x118002 x118003)
def spec_l5Fill.j1 : Nat → List (S31) → Int → Int → Int → Int → Int → Option ((List (S31)))
  | 0, _, _, _, _, _, _ => none
  | k + 1, x0, x5, x118000, x118001, x118002, x118003 => spec_l5Fill.l0 k x0 x5 (([] : List (S31))) 0 x118000 x118001 x118002 x118003
def spec_l5Fill.l0 : Nat → List (S31) → Int → List (S31) → Int → Int → Int → Int → Int → Option ((List (S31)))
  | 0, _, _, _, _, _, _, _, _ => none
  | k + 1, x0, x5, x6, x7, x118000, x118001, x118002, x118003 => if x7 < (x0.length : Int) then (if x7 = x5 then (spec_l5Fill.l0 k x0 x5 x6 (wrap64 (x7 + 1)) x118000 x118001 x118002 x118003) else (if 0 ≤ x7 then (if x6.length < 4398046511104 then (spec_l5Fill.l0 k x0 x5 (x6 ++ [(⟨(rd_T31 x0 x7).f0, (rd_T31 x0 x7).f1, (rd_T31 x0 x7).f2, (rd_T31 x0 x7).f3⟩ : S31)]) (wrap64 (x7 + 1)) x118000 x118001 x118002 x118003) else (none)) else (none))) else (if x6.length < 4398046511104 then (some (x6 ++ [(⟨x118000, x118001, x118002, x118003⟩ : S31)])) else (none))
end
def spec_l5Fill.f (k : Nat) (l0 : List (S31)) (a1_0 : Int) (a1_1 : Int) (a1_2 : Int) (a1_3 : Int) : Option ((List (S31))) := (spec_l5Find.f k l0 a1_0 a1_1).bind fun t118 => (if t118 < 0 then (spec_l5Fill.j0 k l0 t118 (decide ((l0.length : Int) ≥ 12)) a1_0 a1_1 a1_2 a1_3) else (spec_l5Fill.j0 k l0 t118 false a1_0 a1_1 a1_2 a1_3))
theorem spec_l5Fill.mono_l : ∀ k, (∀ y0 y1 y2 y3 y4 y5 y6, LeO (spec_l5Fill.j0 k y0 y1 y2 y3 y4 y5 y6) (spec_l5Fill.j0 (k + 1) y0 y1 y2 y3 y4 y5 y6)) ∧ (∀ y0 y1 y2 y3 y4 y5, LeO (spec_l5Fill.j1 k y0 y1 y2 y3 y4 y5) (spec_l5Fill.j1 (k + 1) y0 y1 y2 y3 y4 y5)) ∧ (∀ y0 y1 y2 y3 y4 y5 y6 y7, LeO (spec_l5Fill.l0 k y0 y1 y2 y3 y4 y5 y6 y7) (spec_l5Fill.l0 (k + 1) y0 y1 y2 y3 y4 y5 y6 y7))
  | 0 => ⟨fun _ _ _ _ _ _ _ r h => by simp [spec_l5Fill.j0] at h, fun _ _ _ _ _ _ r h => by simp [spec_l5Fill.j1] at h, fun _ _ _ _ _ _ _ _ r h => by simp [spec_l5Fill.l0] at h⟩
  | k + 1 => by
    obtain ⟨ih0, ih1, ih2⟩ := spec_l5Fill.mono_l k
    refine ⟨?_, ?_, ?_⟩
    · intro y0 y1 y2 y3 y4 y5 y6
      unfold spec_l5Fill.j0
      repeat' first
      | (with_reducible exact ih0 _ _ _ _ _ _ _)
      | (with_reducible exact ih1 _ _ _ _ _ _)
      | (with_reducible exact ih2 _ _ _ _ _ _ _ _)
      | (with_reducible exact spec_l5Find.mono _ _ _ _)
      | (with_reducible exact LeO.refl _)
      | (with_reducible exact LeO.none _)
      | (with_reducible refine LeO.ite ?_ ?_)
      | (with_reducible refine LeO.bind ?_ (fun _ => ?_))
      | exact ih0 _ _ _ _ _ _ _
      | exact ih1 _ _ _ _ _ _
      | exact ih2 _ _ _ _ _ _ _ _
      | exact spec_l5Find.mono _ _ _ _
      | exact LeO.none _
      | refine LeO.ite ?_ ?_
      | refine LeO.bind ?_ (fun _ => ?_)
    · intro y0 y1 y2 y3 y4 y5
      unfold spec_l5Fill.j1
      repeat' first
      | (with_reducible exact ih0 _ _ _ _ _ _ _)
      | (with_reducible exact ih1 _ _ _ _ _ _)
      | (with_reducible exact ih2 _ _ _ _ _ _ _ _)
      | (with_reducible exact spec_l5Find.mono _ _ _ _)
      | (with_reducible exact LeO.refl _)
      | (with_reducible exact LeO.none _)
      | (with_reducible refine LeO.ite ?_ ?_)
      | (with_reducible refine LeO.bind ?_ (fun _ => ?_))
      | exact ih0 _ _ _ _ _ _ _
      | exact ih1 _ _ _ _ _ _
      | exact ih2 _ _ _ _ _ _ _ _
      | exact spec_l5Find.mono _ _ _ _
      | exact LeO.none _
      | refine LeO.ite ?_ ?_
      | refine LeO.bind ?_ (fun _ => ?_)
    · intro y0 y1 y2 y3 y4 y5 y6 y7
      unfold spec_l5Fill.l0
      repeat' first
      | (with_reducible exact ih0 _ _ _ _ _ _ _)
      | (with_reducible exact ih1 _ _ _ _ _ _)
      | (with_reducible exact ih2 _ _ _ _ _ _ _ _)
      | (with_reducible exact spec_l5Find.mono _ _ _ _)
      | (with_reducible exact LeO.refl _)
      | (with_reducible exact LeO.none _)
      | (with_reducible refine LeO.ite ?_ ?_)
      | (with_reducible refine LeO.bind ?_ (fun _ => ?_))
      | exact ih0 _ _ _ _ _ _ _
      | exact ih1 _ _ _ _ _ _
      | exact ih2 _ _ _ _ _ _ _ _
      | exact spec_l5Find.mono _ _ _ _
      | exact LeO.none _
      | refine LeO.ite ?_ ?_
      | refine LeO.bind ?_ (fun _ => ?_)
theorem spec_l5Fill.mono : ∀ a0 a1 a2 a3 a4 k, LeO (spec_l5Fill.f k a0 a1 a2 a3 a4) (spec_l5Fill.f (k + 1) a0 a1 a2 a3 a4) := by
  intro a0 a1 a2 a3 a4 k
  obtain ⟨ih0, ih1, ih2⟩ := spec_l5Fill.mono_l k
  unfold spec_l5Fill.f
  repeat' first
      | (with_reducible exact ih0 _ _ _ _ _ _ _)
      | (with_reducible exact ih1 _ _ _ _ _ _)
      | (with_reducible exact ih2 _ _ _ _ _ _ _ _)
      | (with_reducible exact spec_l5Find.mono _ _ _ _)
      | (with_reducible exact LeO.refl _)
      | (with_reducible exact LeO.none _)
      | (with_reducible refine LeO.ite ?_ ?_)
      | (with_reducible refine LeO.bind ?_ (fun _ => ?_))
      | exact ih0 _ _ _ _ _ _ _
      | exact ih1 _ _ _ _ _ _
      | exact ih2 _ _ _ _ _ _ _ _
      | exact spec_l5Find.mono _ _ _ _
      | exact LeO.none _
      | refine LeO.ite ?_ ?_
      | refine LeO.bind ?_ (fun _ => ?_)
set_option maxHeartbeats 8000000 in
set_option maxRecDepth 100000 in
theorem spec_l5Fill.calls (k : Nat) (A0 : Option Addr) (c0 : Nat) (l0 : List (S31)) (a1_0 : Int) (a1_1 : Int) (a1_2 : Int) (a1_3 : Int) (r : List (S31)) (w : World) (hr0 : Kd.C k31 w A0 l0.length l0) (hc0 : l0.length ≤ c0) (h : spec_l5Fill.f k l0 a1_0 a1_1 a1_2 a1_3 = some r) :
  Calls Try.prog 34 #[.slice A0 l0.length c0, .agg #[.int .i64 a1_0, .int .i64 a1_1, .int .i64 a1_2, .int .i64 a1_3]] w fun e w' => ∃ v0_ : Value, e = .returned (v0_) ∧ Kd.R k31 31 w' w.heap.size (fun _ => True) v0_ r ∧ Below w.heap.size w w' := by
 have hu31 := Try.underlying31
 have HR0 := zm hr0
 have HC0 := zm hc0
 clear hr0 hc0
 have HB := zm (Below.refl w.heap.size w)
 have H : ((spec_l5Find.f k l0 a1_0 a1_1).bind fun t118 => (if t118 < 0 then (spec_l5Fill.j0 k l0 t118 (decide ((l0.length : Int) ≥ 12)) a1_0 a1_1 a1_2 a1_3) else (spec_l5Fill.j0 k l0 t118 false a1_0 a1_1 a1_2 a1_3))) = some r := h
 clear h
 replace H := yH.mp H
 obtain ⟨t118, A30, H⟩ := H
 try dsimp only at H
 have A3 := zm A30
 clear A30
 have HC4 := zm H
 clear H
 go_enter Try.func34, Try.ntmps34
 go_upto_region 2 with (first | ((with_reducible refine gate_dst (N := 3) rfl ?_); (try (refine gate_guard (by rfl) ?_; dsimp only)); refine box_event ?hg (N := 3) ?hd (cs := #[.int .i64 a1_0, .int .i64 a1_1, .int .i64 a1_2, .int .i64 a1_3]) (t := 31) ?hr ?_; (case hd => rfl); (case hg => rfl); (case hr => first | (go_simp; done) | (go_simp; rfl)); intro gb117 hg w5 hbox hb; have n0_ := zm (zw (by repeat (first | (with_reducible first | exact HB.out | apply zg | apply zh | apply zi) | exact HB.out)) hb); have n1_ := zm (hbox); have n2_ := zm ((by rw [hg]; exact (zx (by repeat (first | (with_reducible first | exact HB.out | apply zg | apply zh | apply zi) | exact HB.out))) : w.heap.size ≤ gb117)); have n3_ := zm ((by rw [hg]; exact (zx (by repeat (first | (with_reducible first | exact HB.out | apply zg | apply zh | apply zi) | exact HB.out))) : w.heap.size ≤ gb117)); clear HB; have HB := n0_; have BK117 := n1_; have GW117 := n2_; have GE117 := n3_; clear n0_ n1_ n2_ n3_; clear hb hbox hg; have hcz6_0 : w5.cell? ⟨gb117, 0, none⟩ = some (.int .i64 a1_0) := (yG BK117.out 0).trans rfl; have hcz6_1 : w5.cell? ⟨gb117, 1, none⟩ = some (.int .i64 a1_1) := (yG BK117.out 1).trans rfl; have hcz6_2 : w5.cell? ⟨gb117, 2, none⟩ = some (.int .i64 a1_2) := (yG BK117.out 2).trans rfl; have hcz6_3 : w5.cell? ⟨gb117, 3, none⟩ = some (.int .i64 a1_3) := (yG BK117.out 3).trans rfl; have hfz6_0 := zH BK117.out 0; have hfz6_1 := zH BK117.out 1; have hfz6_2 := zH BK117.out 2; have hfz6_3 := zH BK117.out 3) | ((with_reducible refine gate_callee (f := 40) rfl ?_); refine goesL_ (some 13) rfl rfl Try.func40 (by kernel_rfl) rfl #[.slice A0 l0.length c0, .int .i64 a1_0, .int .i64 a1_1] rfl (by (try simp only [zA, zB, zC]); first | done | rfl | (simp only [zE, zD]; rfl)) ?_; (with_reducible refine (spec_l5Find.calls k _ _ l0 a1_0 a1_1 t118 _ ?side1 ?side2 A3.out).mono ?_); (case side1 => repeat (first | exact (Kd.C_below HR0.out HB.out) | (with_reducible first | refine zj ?_ _ | refine zk ?_ _ | refine zl ?_))); (case side2 => exact HC0.out); rintro e w' ⟨rfl, ⟨nd, rfl⟩⟩; refine ⟨_, rfl, ?_⟩))
 (try simp only [Act.put, yA, yB, yC])
 go_cut [20] (fun v20 wc => ∃ (kq : Nat) (x20_3 : Bool), v20 = .bool x20_3 ∧ Aside0 (spec_l5Fill.j0 kq l0 t118 x20_3 a1_0 a1_1 a1_2 a1_3 = some r) ∧ Aside0 (kq ≤ k) ∧ Aside0 (wc.heap[gb117]? = some (.cells #[.int .i64 a1_0, .int .i64 a1_1, .int .i64 a1_2, .int .i64 a1_3] 31 (0, 0))) ∧ Aside0 (Below w.heap.size w wc))
 case first =>
  have H := HC4.out
  clear HC4
  by_cases c7 : t118 < 0
  ·rw [if_pos c7] at H
   have c7b0 : decide (t118 < 0) = true := decide_eq_true c7
   clear c7
   (first | rw [c7b0] | (simp only [i64_w, i32_w]; rw [c7b0]) | skip)
   have H' := zm H
   clear H
   go_wp2
   go_meet
   case rel => exact ⟨_, (decide ((l0.length : Int) ≥ 12)), (by first | rfl | (simp; done) | (simp [*]; done)), H', ⟨by first | omega | exact Nat.le_refl _⟩, ⟨by (with_reducible repeat (first | refine zd ?_ _ | refine ze ?_ | refine zf ?_ _)); exact BK117.out⟩, ⟨by repeat (first | (with_reducible first | exact HB.out | apply zg | apply zh | apply zi | refine zy ?_ GE117.out) | exact HB.out)⟩⟩
  ·rw [if_neg c7] at H
   have c7b0 : decide (t118 < 0) = false := decide_eq_false c7
   clear c7
   (first | rw [c7b0] | (simp only [i64_w, i32_w]; rw [c7b0]) | skip)
   have H' := zm H
   clear H
   go_wp2
   go_meet
   case rel => exact ⟨_, (false), (by first | rfl | (simp; done) | (simp [*]; done)), H', ⟨by first | omega | exact Nat.le_refl _⟩, ⟨by (with_reducible repeat (first | refine zd ?_ _ | refine ze ?_ | refine zf ?_ _)); exact BK117.out⟩, ⟨by repeat (first | (with_reducible first | exact HB.out | apply zg | apply zh | apply zi | refine zy ?_ GE117.out) | exact HB.out)⟩⟩
 case rest =>
  clear HC4
  try clear p2
  try clear c3
  try clear c4
  try clear c7
  try clear c7b0
  try clear hcz6_0
  try clear hcz6_1
  try clear hcz6_2
  try clear hcz6_3
  try clear hfz6_0
  try clear hfz6_1
  try clear hfz6_2
  try clear hfz6_3
  obtain ⟨kq, x20_3, rfl, HA, HJ3, BK117, HB⟩ := hcut
  cases kq with
  | zero => exact absurd HA.out (by simp [spec_l5Fill.j0])
  | succ kj3 =>
   have H := HA.out
   clear HA
   simp only [spec_l5Fill.j0] at H
   have HC8 := zm H
   clear H
   go_upto_if 20 with (fail)
   go_cut [5] (fun v5 wc => ∃ (kq : Nat) (x5_7 : Int), v5 = .int .i64 x5_7 ∧ Aside0 (spec_l5Fill.j1 kq l0 x5_7 a1_0 a1_1 a1_2 a1_3 = some r) ∧ Aside0 (kq ≤ kj3) ∧ Aside0 (wc.heap[gb117]? = some (.cells #[.int .i64 a1_0, .int .i64 a1_1, .int .i64 a1_2, .int .i64 a1_3] 31 (0, 0))) ∧ Aside0 (Below w.heap.size w wc))
   case first =>
    have H := HC8.out
    clear HC8
    by_cases c9 : x20_3 = true
    ·subst c9
     rw [if_pos rfl] at H
     have H' := zm H
     clear H
     go_wp2
     go_meet
     case rel => exact ⟨_, (0), (by first | rfl | (simp; done) | (simp [*]; done)), H', ⟨by have := HJ3.out; first | omega | exact Nat.le_refl _⟩, ⟨by (with_reducible repeat (first | refine zd ?_ _ | refine ze ?_ | refine zf ?_ _)); exact BK117.out⟩, ⟨by repeat (first | (with_reducible first | exact HB.out | apply zg | apply zh | apply zi | refine zy ?_ GE117.out) | exact HB.out)⟩⟩
    ·replace c9 := Bool.eq_false_iff.mpr c9
     subst c9
     rw [if_neg (show ¬ (false = true) by decide)] at H
     have H' := zm H
     clear H
     go_wp2
     go_meet
     case rel => exact ⟨_, (t118), (by first | rfl | (simp; done) | (simp [*]; done)), H', ⟨by have := HJ3.out; first | omega | exact Nat.le_refl _⟩, ⟨by (with_reducible repeat (first | refine zd ?_ _ | refine ze ?_ | refine zf ?_ _)); exact BK117.out⟩, ⟨by repeat (first | (with_reducible first | exact HB.out | apply zg | apply zh | apply zi | refine zy ?_ GE117.out) | exact HB.out)⟩⟩
   case rest =>
    clear HC8
    try clear p2
    try clear c3
    try clear c4
    try clear c7
    try clear c7b0
    try clear c9
    try clear hcz6_0
    try clear hcz6_1
    try clear hcz6_2
    try clear hcz6_3
    try clear hfz6_0
    try clear hfz6_1
    try clear hfz6_2
    try clear hfz6_3
    try clear p2
    obtain ⟨kq, x5_7, rfl, HA, HJ7, BK117, HB⟩ := hcut
    cases kq with
    | zero => exact absurd HA.out (by simp [spec_l5Fill.j1])
    | succ kj7 =>
     have H := HA.out
     clear HA
     simp only [spec_l5Fill.j1] at H
     obtain ⟨y119, hy119⟩ : ∃ y_ : List (S31), y_ = (([] : List (S31))) := ⟨_, rfl⟩
     replace H : (spec_l5Fill.l0 kj7 l0 x5_7 y119 0 a1_0 a1_1 a1_2 a1_3) = some r := by first | (rw [hy119]; with_reducible exact H) | (have H2_ := (Option.bind_some _ _).symm.trans H; rw [hy119]; with_reducible exact H2_) | (have H2_ := (Option.bind_some _ _).symm.trans H; with_reducible exact H2_) | with_reducible exact H | (rw [hy119]; exact H) | exact H
     have Ny119 := zm hy119
     clear hy119
     have H' := zm H
     clear H
     go_wp2_with (first | ((with_reducible refine gate_dst (N := 21) rfl ?_); (try (refine gate_guard (by rfl) ?_; dsimp only)); refine Kd.R_lit k31 _ 31 ?hg (N := 21) ?hd (xs := ([] : List (S31))) (inner := []) (ok := fun _ => True) (okp := fun _ => True) ?hr ?hp (fun _ hk => hk) trivial (Below.refl _ _) (Nat.le_refl _) (by simp) ?_; (case hd => rfl); (case hg => rfl); (case hr => first | (go_simp; done) | (go_simp; rfl)); (case hp => exact (Reps.none _ _)); intro v120 w10 ho11 hb hg_ hnew_; clear hg_ hnew_; (first | rw [← Ny119.out] at ho11 | (simp only [Int.reduceToNat] at ho11; rw [← Ny119.out] at ho11)); have n0_ := zm (zz (Kd.R_newB ho11 (g := gb117) (o := .cells #[.int .i64 a1_0, .int .i64 a1_1, .int .i64 a1_2, .int .i64 a1_3] 31 (0, 0)) (by (with_reducible repeat (first | refine zd ?_ _ | refine ze ?_ | refine zf ?_ _)); exact BK117.out)) (zx (by repeat (first | (with_reducible first | exact HB.out | apply zg | apply zh | apply zi | refine zy ?_ GE117.out) | exact HB.out)))); have n1_ := zm (zu (g := gb117) (o := .cells #[.int .i64 a1_0, .int .i64 a1_1, .int .i64 a1_2, .int .i64 a1_3] 31 (0, 0)) (by (with_reducible repeat (first | refine zd ?_ _ | refine ze ?_ | refine zf ?_ _)); exact BK117.out) hb); have n2_ := zm (zw (by repeat (first | (with_reducible first | exact HB.out | apply zg | apply zh | apply zi | refine zy ?_ GE117.out) | exact HB.out)) hb); clear BK117; clear HB; have HO121 := n0_; have BK117 := n1_; have HB := n2_; clear n0_ n1_ n2_; clear hb ho11))
     go_loopg [6, 7] kj7 (fun kq v6 v7 w' => ∃ (x6_3 : List (S31)) (x7_3 : Int), v7 = .int .i64 x7_3 ∧ Aside0 (spec_l5Fill.l0 kq l0 x5_7 x6_3 x7_3 a1_0 a1_1 a1_2 a1_3 = some r) ∧ Aside0 (kq ≤ kj7) ∧ Aside0 (Kd.R k31 31 w' w.heap.size (fun k_ => k_ ≠ gb117) v6 x6_3) ∧ Aside0 (w'.heap[gb117]? = some (.cells #[.int .i64 a1_0, .int .i64 a1_1, .int .i64 a1_2, .int .i64 a1_3] 31 (0, 0))) ∧ Aside0 (Below w.heap.size w w'))
     case atStart => exact ⟨(y119), (0), (by first | rfl | (simp; done) | (simp [*]; done)), H', ⟨Nat.le_refl _⟩, ⟨by (with_reducible repeat (first | apply za | apply zb | apply zc)); exact zr HO121.out (fun _ hk => hk.2)⟩, ⟨by (with_reducible repeat (first | refine zd ?_ _ | refine ze ?_ | refine zf ?_ _)); exact BK117.out⟩, ⟨by repeat (first | (with_reducible first | exact HB.out | apply zg | apply zh | apply zi | refine zy ?_ GE117.out) | exact HB.out)⟩⟩
     case round =>
      clear H'
      try clear p2
      try clear c3
      try clear c4
      try clear c7
      try clear c7b0
      try clear c9
      try clear hcz6_0
      try clear hcz6_1
      try clear hcz6_2
      try clear hcz6_3
      try clear hfz6_0
      try clear hfz6_1
      try clear hfz6_2
      try clear hfz6_3
      try clear p2
      obtain ⟨x6_3, x7_3, rfl, HA, HK3, HO_6, BK117, HB⟩ := hrel
      cases gk with
      | zero => exact absurd HA.out (by simp [spec_l5Fill.l0])
      | succ k3 =>
       have H := HA.out
       clear HA
       simp only [spec_l5Fill.l0] at H
       by_cases c12 : x7_3 < (l0.length : Int)
       ·rw [if_pos c12] at H
        have c12b0 : decide (x7_3 < (l0.length : Int)) = true := decide_eq_true c12
        clear c12
        by_cases c13 : x7_3 = x5_7
        ·rw [if_pos c13] at H
         have c13b0 : (x7_3 == x5_7) = true := beq_iff_eq.mpr c13
         have c13b1 : (x7_3 != x5_7) = false := bne_eq_false_iff_eq.mpr c13
         clear c13
         have H' := zm H
         clear H
         go_wp2
         go_roundg k3
         case measure => have := HJ3.out; have := HJ7.out; have := HK3.out; omega
         case rel => exact ⟨(x6_3), (wrap64 (x7_3 + 1)), (by first | rfl | (simp; done) | (simp [*]; done)), H', ⟨by have := HJ3.out; have := HJ7.out; have := HK3.out; omega⟩, ⟨by (with_reducible repeat (first | apply za | apply zb | apply zc)); exact HO_6.out⟩, ⟨by (with_reducible repeat (first | refine zd ?_ _ | refine ze ?_ | refine zf ?_ _)); exact BK117.out⟩, ⟨by repeat (first | (with_reducible first | exact HB.out | apply zg | apply zh | apply zi | refine zy ?_ GE117.out) | exact HB.out)⟩⟩
        ·rw [if_neg c13] at H
         have c13b0 : (x7_3 == x5_7) = false := beq_eq_false_iff_ne.mpr c13
         have c13b1 : (x7_3 != x5_7) = true := bne_iff_ne.mpr c13
         by_cases c14 : 0 ≤ x7_3
         ·rw [if_pos c14] at H
          have c14b0 : decide (0 ≤ x7_3) = true := decide_eq_true c14
          clear c14
          by_cases c15 : x6_3.length < 4398046511104
          ·rw [if_pos c15] at H
           have LMc15 := zm c15
           clear c15
           obtain ⟨y123, hy123⟩ : ∃ y_ : List (S31), y_ = (x6_3 ++ [(⟨(rd_T31 l0 x7_3).f0, (rd_T31 l0 x7_3).f1, (rd_T31 l0 x7_3).f2, (rd_T31 l0 x7_3).f3⟩ : S31)]) := ⟨_, rfl⟩
           replace H : (spec_l5Fill.l0 k3 l0 x5_7 y123 (wrap64 (x7_3 + 1)) a1_0 a1_1 a1_2 a1_3) = some r := by first | (rw [hy123]; with_reducible exact H) | (have H2_ := (Option.bind_some _ _).symm.trans H; rw [hy123]; with_reducible exact H2_) | (have H2_ := (Option.bind_some _ _).symm.trans H; with_reducible exact H2_) | with_reducible exact H | (rw [hy123]; exact H) | exact H
           have Ny123 := zm hy123
           clear hy123
           have H' := zm H
           clear H
           have p122 : 0 ≤ (x7_3 : Int) := of_decide_eq_true (by first | (with_reducible assumption) | assumption)
           have q122 : x7_3 < (l0.length : Int) := of_decide_eq_true (by first | (with_reducible assumption) | assumption)
           obtain ⟨ad122, e122, hx122_0, hx122_1, hx122_2, hx122_3⟩ := at_T31 HR0.out x7_3 p122 q122
           cases e122
           replace hx122_0 := (HB.out.cell (yF w _ hx122_0)).trans hx122_0
           replace hx122_1 := (HB.out.cell (yF w _ hx122_1)).trans hx122_1
           replace hx122_2 := (HB.out.cell (yF w _ hx122_2)).trans hx122_2
           replace hx122_3 := (HB.out.cell (yF w _ hx122_3)).trans hx122_3
           replace p122 := eq_true p122
           replace q122 := eq_true q122
           go_wp2_with (first | ((with_reducible refine gate_builtin (b := .append) (xs := #[.tmp 31, .tmp 36]) rfl ?_); (try (refine gate_guard (by rfl) ?_; dsimp only)); at_builtin; refine Kd.R_append k31 (w0 := w) w.heap.size rfl (.tmp 31) (.tmp 36) 26 31 (.agg #[(.int .i64 0), (.int .i64 0), (.int .i64 0), (.int .i64 0)]) 32 rfl Try.underlying26 info31 rfl (by decide) (by omega) u6 x6_3 (⟨(rd_T31 l0 x7_3).f0, (rd_T31 l0 x7_3).f1, (rd_T31 l0 x7_3).f2, (rd_T31 l0 x7_3).f3⟩ : S31) [.int .i64 ((rd_T31 l0 x7_3).f0), .int .i64 ((rd_T31 l0 x7_3).f1), .int .i64 ((rd_T31 l0 x7_3).f2), .int .i64 ((rd_T31 l0 x7_3).f3)] (fun k_ => k_ ≠ gb117) (fun _ => False) rfl rfl ?aP (fun _ hk => hk.elim) ?aF ?aO ?aB ?aS ?aL ?_; (case aP => exact k31_mkM _ _ _ (⟨(rd_T31 l0 x7_3).f0, (rd_T31 l0 x7_3).f1, (rd_T31 l0 x7_3).f2, (rd_T31 l0 x7_3).f3⟩ : S31)); (case aB => exact (by repeat (first | (with_reducible first | exact HB.out | apply zg | apply zh | apply zi | refine zy ?_ GE117.out) | exact HB.out))); (case aF => exact (fun k_ hk => Kd.freshB (g := gb117) (o := .cells #[.int .i64 a1_0, .int .i64 a1_1, .int .i64 a1_2, .int .i64 a1_3] 31 (0, 0)) (by (with_reducible repeat (first | refine zd ?_ _ | refine ze ?_ | refine zf ?_ _)); exact BK117.out) k_ hk)); (case aO => exact (by (with_reducible repeat (first | apply za | apply zb | apply zc)); exact HO_6.out)); (case aS => exact (zx (by repeat (first | (with_reducible first | exact HB.out | apply zg | apply zh | apply zi | refine zy ?_ GE117.out) | exact HB.out)))); (case aL => have := LMc15.out; omega); intro v124 w16 ho hb hg hat; rw [← Ny123.out] at ho; have n0_ := zm (blk_grown (g := gb117) (o := .cells #[.int .i64 a1_0, .int .i64 a1_1, .int .i64 a1_2, .int .i64 a1_3] 31 (0, 0)) (by (with_reducible repeat (first | refine zd ?_ _ | refine ze ?_ | refine zf ?_ _)); exact BK117.out) hg (Kd.R_away HO_6.out (fun _ hk => hk))); have n1_ := zm (hb); have n2_ := zm (ho); clear BK117; clear HB; clear HO_6; have BK117 := n0_; have HB := n1_; have HO125 := n2_; clear n0_ n1_ n2_; clear ho hb hg hat))
           go_roundg k3
           case measure => have := HJ3.out; have := HJ7.out; have := HK3.out; omega
           case rel => exact ⟨(y123), (wrap64 (x7_3 + 1)), (by first | rfl | (simp; done) | (simp [*]; done)), H', ⟨by have := HJ3.out; have := HJ7.out; have := HK3.out; omega⟩, ⟨by (with_reducible repeat (first | apply za | apply zb | apply zc)); exact HO125.out⟩, ⟨by (with_reducible repeat (first | refine zd ?_ _ | refine ze ?_ | refine zf ?_ _)); exact BK117.out⟩, ⟨by repeat (first | (with_reducible first | exact HB.out | apply zg | apply zh | apply zi | refine zy ?_ GE117.out) | exact HB.out)⟩⟩
          ·rw [if_neg c15] at H
           exact absurd H (by simp)
         ·rw [if_neg c14] at H
          exact absurd H (by simp)
       ·rw [if_neg c12] at H
        have c12b0 : decide (x7_3 < (l0.length : Int)) = false := decide_eq_false c12
        clear c12
        by_cases c17 : x6_3.length < 4398046511104
        ·rw [if_pos c17] at H
         have LMc17 := zm c17
         clear c17
         obtain ⟨y126, hy126⟩ : ∃ y_ : List (S31), y_ = (x6_3 ++ [(⟨a1_0, a1_1, a1_2, a1_3⟩ : S31)]) := ⟨_, rfl⟩
         replace H : (some y126) = some r := by first | (rw [hy126]; with_reducible exact H) | (have H2_ := (Option.bind_some _ _).symm.trans H; rw [hy126]; with_reducible exact H2_) | (have H2_ := (Option.bind_some _ _).symm.trans H; with_reducible exact H2_) | with_reducible exact H | (rw [hy126]; exact H) | exact H
         have Ny126 := zm hy126
         clear hy126
         obtain rfl := Option.some.inj H
         have hcz18_0 : wr.cell? ⟨gb117, 0, none⟩ = some (.int .i64 a1_0) := (yG BK117.out 0).trans rfl
         have hcz18_1 : wr.cell? ⟨gb117, 1, none⟩ = some (.int .i64 a1_1) := (yG BK117.out 1).trans rfl
         have hcz18_2 : wr.cell? ⟨gb117, 2, none⟩ = some (.int .i64 a1_2) := (yG BK117.out 2).trans rfl
         have hcz18_3 : wr.cell? ⟨gb117, 3, none⟩ = some (.int .i64 a1_3) := (yG BK117.out 3).trans rfl
         have hfz18_0 := zH BK117.out 0
         have hfz18_1 := zH BK117.out 1
         have hfz18_2 := zH BK117.out 2
         have hfz18_3 := zH BK117.out 3
         go_wp2_with (first | ((with_reducible refine gate_builtin (b := .append) (xs := #[.tmp 38, .tmp 40]) rfl ?_); (try (refine gate_guard (by rfl) ?_; dsimp only)); at_builtin; refine Kd.R_append k31 (w0 := w) w.heap.size rfl (.tmp 38) (.tmp 40) 26 31 (.agg #[(.int .i64 0), (.int .i64 0), (.int .i64 0), (.int .i64 0)]) 32 rfl Try.underlying26 info31 rfl (by decide) (by omega) u6 x6_3 (⟨a1_0, a1_1, a1_2, a1_3⟩ : S31) [.int .i64 a1_0, .int .i64 a1_1, .int .i64 a1_2, .int .i64 a1_3] (fun k_ => k_ ≠ gb117) (fun _ => False) rfl rfl ?aP (fun _ hk => hk.elim) ?aF ?aO ?aB ?aS ?aL ?_; (case aP => exact k31_mkM _ _ _ (⟨a1_0, a1_1, a1_2, a1_3⟩ : S31)); (case aB => exact (by repeat (first | (with_reducible first | exact HB.out | apply zg | apply zh | apply zi | refine zy ?_ GE117.out) | exact HB.out))); (case aF => exact (fun k_ hk => Kd.freshB (g := gb117) (o := .cells #[.int .i64 a1_0, .int .i64 a1_1, .int .i64 a1_2, .int .i64 a1_3] 31 (0, 0)) (by (with_reducible repeat (first | refine zd ?_ _ | refine ze ?_ | refine zf ?_ _)); exact BK117.out) k_ hk)); (case aO => exact (by (with_reducible repeat (first | apply za | apply zb | apply zc)); exact HO_6.out)); (case aS => exact (zx (by repeat (first | (with_reducible first | exact HB.out | apply zg | apply zh | apply zi | refine zy ?_ GE117.out) | exact HB.out)))); (case aL => have := LMc17.out; omega); intro v127 w19 ho hb hg hat; rw [← Ny126.out] at ho; have n0_ := zm (blk_grown (g := gb117) (o := .cells #[.int .i64 a1_0, .int .i64 a1_1, .int .i64 a1_2, .int .i64 a1_3] 31 (0, 0)) (by (with_reducible repeat (first | refine zd ?_ _ | refine ze ?_ | refine zf ?_ _)); exact BK117.out) hg (Kd.R_away HO_6.out (fun _ hk => hk))); have n1_ := zm (hb); have n2_ := zm (ho); clear BK117; clear HB; clear HO_6; have BK117 := n0_; have HB := n1_; have HO128 := n2_; clear n0_ n1_ n2_; clear ho hb hg hat))
         go_ret
         exact ⟨_, by first | rfl | (simp [errW_none, errW_some] <;> rfl) | (simp [*, errW_none, errW_some] <;> rfl), by (with_reducible repeat (first | apply za | apply zb | apply zc)); exact zr HO128.out (fun _ hk => trivial), by repeat (first | (with_reducible first | exact HB.out | apply zg | apply zh | apply zi | refine zy ?_ GE117.out) | exact HB.out)⟩
        ·rw [if_neg c17] at H
         exact absurd H (by simp)

/-! ### spec_FillCache: function 10 -/
def spec_FillCache.f (k : Nat) (l0 : List (S31)) (a1_0 : Int) (a1_1 : Int) (a1_2 : Int) (a1_3 : Int) : Option (Int × Int × Bool × (List (S31))) := (spec_CacheFault.f k l0).bind fun t131 => (if t131 = 0 then ((spec_l5Hit.f a1_0 a1_1 a1_2 a1_3).bind fun t132 => (if t132 = true then ((spec_l5Fill.f k l0 a1_0 a1_1 a1_2 a1_3).bind fun t133 => (some (0, 0, false, t133))) else (some (3, 0, false, ([] : List (S31)))))) else (some (t131, 0, false, ([] : List (S31)))))
theorem spec_FillCache.mono : ∀ a0 a1 a2 a3 a4 k, LeO (spec_FillCache.f k a0 a1 a2 a3 a4) (spec_FillCache.f (k + 1) a0 a1 a2 a3 a4) := by
  intro a0 a1 a2 a3 a4 k
  unfold spec_FillCache.f
  repeat' first
      | (with_reducible exact spec_CacheFault.mono _ _)
      | (with_reducible exact spec_l5Fill.mono _ _ _ _ _ _)
      | (with_reducible exact LeO.refl _)
      | (with_reducible exact LeO.none _)
      | (with_reducible refine LeO.ite ?_ ?_)
      | (with_reducible refine LeO.bind ?_ (fun _ => ?_))
      | exact spec_CacheFault.mono _ _
      | exact spec_l5Fill.mono _ _ _ _ _ _
      | exact LeO.none _
      | refine LeO.ite ?_ ?_
      | refine LeO.bind ?_ (fun _ => ?_)
set_option maxHeartbeats 8000000 in
set_option maxRecDepth 100000 in
theorem spec_FillCache.calls (k : Nat) (A0 : Option Addr) (c0 : Nat) (l0 : List (S31)) (a1_0 : Int) (a1_1 : Int) (a1_2 : Int) (a1_3 : Int) (r1 : Int) (r2 : Int) (r3 : Bool) (r4 : List (S31)) (w : World) (hr0 : Kd.C k31 w A0 l0.length l0) (hc0 : l0.length ≤ c0) (h : spec_FillCache.f k l0 a1_0 a1_1 a1_2 a1_3 = some (r1, r2, r3, r4)) :
  Calls Try.prog 10 #[.slice A0 l0.length c0, .agg #[.int .i64 a1_0, .int .i64 a1_1, .int .i64 a1_2, .int .i64 a1_3]] w fun e w' => ∃ v3_ : Value, e = .returned (.agg #[.int .i64 r1, .int .i64 r2, .bool r3, v3_]) ∧ Kd.R k31 31 w' w.heap.size (fun _ => True) v3_ r4 ∧ Below w.heap.size w w' := by
 have hu31 := Try.underlying31
 have hu28 := Try.underlying28
 have HR0 := zm hr0
 have HC0 := zm hc0
 clear hr0 hc0
 have HB := zm (Below.refl w.heap.size w)
 have H : ((spec_CacheFault.f k l0).bind fun t131 => (if t131 = 0 then ((spec_l5Hit.f a1_0 a1_1 a1_2 a1_3).bind fun t132 => (if t132 = true then ((spec_l5Fill.f k l0 a1_0 a1_1 a1_2 a1_3).bind fun t133 => (some (0, 0, false, t133))) else (some (3, 0, false, ([] : List (S31)))))) else (some (t131, 0, false, ([] : List (S31)))))) = some (r1, r2, r3, r4) := h
 clear h
 replace H := yH.mp H
 obtain ⟨t131, A30, H⟩ := H
 replace H : (if t131 = 0 then ((spec_l5Hit.f a1_0 a1_1 a1_2 a1_3).bind fun t132 => (if t132 = true then ((spec_l5Fill.f k l0 a1_0 a1_1 a1_2 a1_3).bind fun t133 => (some (0, 0, false, t133))) else (some (3, 0, false, ([] : List (S31)))))) else (some (t131, 0, false, ([] : List (S31))))) = some (r1, r2, r3, r4) := H
 have A3 := zm A30
 clear A30
 by_cases c4 : t131 = 0
 ·rw [if_pos c4] at H
  have c4b0 : (t131 == 0) = true := beq_iff_eq.mpr c4
  have c4b1 : (t131 != 0) = false := bne_eq_false_iff_eq.mpr c4
  clear c4
  replace H := yH.mp H
  obtain ⟨t132, A50, H⟩ := H
  replace H : (if t132 = true then ((spec_l5Fill.f k l0 a1_0 a1_1 a1_2 a1_3).bind fun t133 => (some (0, 0, false, t133))) else (some (3, 0, false, ([] : List (S31))))) = some (r1, r2, r3, r4) := H
  have A5 := zm A50
  clear A50
  by_cases c6 : t132 = true
  ·subst c6
   rw [if_pos rfl] at H
   replace H := yH.mp H
   obtain ⟨t133, A70, H⟩ := H
   replace H : (some (0, 0, false, t133)) = some (r1, r2, r3, r4) := H
   have A7 := zm A70
   clear A70
   simp only [Option.some.injEq, Prod.mk.injEq] at H
   obtain ⟨rfl, rfl, rfl, rfl⟩ := H
   go_enter Try.func10, Try.ntmps10
   go_wp2_with (first | ((with_reducible refine gate_dst (N := 3) rfl ?_); refine box_event ?hg (N := 3) ?hd (cs := #[.int .i64 a1_0, .int .i64 a1_1, .int .i64 a1_2, .int .i64 a1_3]) (t := 31) ?hr ?_; (case hd => rfl); (case hg => rfl); (case hr => first | (go_simp; done) | (go_simp; rfl)); intro gb129 hg w8 hbox hb; have n0_ := zm (zw (by repeat (first | (with_reducible first | exact HB.out | apply zg | apply zh | apply zi) | exact HB.out)) hb); have n1_ := zm (hbox); have n2_ := zm ((by rw [hg]; exact (zx (by repeat (first | (with_reducible first | exact HB.out | apply zg | apply zh | apply zi) | exact HB.out))) : w.heap.size ≤ gb129)); have n3_ := zm ((by rw [hg]; exact (zx (by repeat (first | (with_reducible first | exact HB.out | apply zg | apply zh | apply zi) | exact HB.out))) : w.heap.size ≤ gb129)); clear HB; have HB := n0_; have BK129 := n1_; have GW129 := n2_; have GE129 := n3_; clear n0_ n1_ n2_ n3_; clear hb hbox hg) | ((with_reducible refine gate_dst (N := 4) rfl ?_); refine box_event ?hg (N := 4) ?hd (cs := #[.int .i64 0, .int .i64 0, .bool false, .slice none 0 0]) (t := 28) ?hr ?_; (case hd => rfl); (case hg => rfl); (case hr => first | (go_simp; done) | (go_simp; rfl)); intro gb130 hg w9 hbox hb; have n0_ := zm (zu (g := gb129) (o := .cells #[.int .i64 a1_0, .int .i64 a1_1, .int .i64 a1_2, .int .i64 a1_3] 31 (0, 0)) (by (with_reducible repeat (first | refine zd ?_ _ | refine ze ?_ | refine zf ?_ _)); exact BK129.out) hb); have n1_ := zm (zw (by repeat (first | (with_reducible first | exact HB.out | apply zg | apply zh | apply zi | refine zy ?_ GE129.out) | exact HB.out)) hb); have n2_ := zm (hbox); have n3_ := zm ((by rw [hg]; exact (zx (by repeat (first | (with_reducible first | exact HB.out | apply zg | apply zh | apply zi | refine zy ?_ GE129.out) | exact HB.out))) : w.heap.size ≤ gb130)); have n4_ := zm ((by rw [hg]; exact (zx (by repeat (first | (with_reducible first | exact HB.out | apply zg | apply zh | apply zi | refine zy ?_ GE129.out) | exact HB.out))) : w.heap.size ≤ gb130)); have n5_ := zm ((by rw [hg]; exact Nat.ne_of_lt (zv (g := gb129) (o := .cells #[.int .i64 a1_0, .int .i64 a1_1, .int .i64 a1_2, .int .i64 a1_3] 31 (0, 0)) (by (with_reducible repeat (first | refine zd ?_ _ | refine ze ?_ | refine zf ?_ _)); exact BK129.out)) : gb129 ≠ gb130)); have n6_ := zm ((by rw [hg]; exact Nat.ne_of_gt (zv (g := gb129) (o := .cells #[.int .i64 a1_0, .int .i64 a1_1, .int .i64 a1_2, .int .i64 a1_3] 31 (0, 0)) (by (with_reducible repeat (first | refine zd ?_ _ | refine ze ?_ | refine zf ?_ _)); exact BK129.out)) : gb130 ≠ gb129)); clear BK129; clear HB; have BK129 := n0_; have HB := n1_; have BK130 := n2_; have GW130 := n3_; have GE130 := n4_; have NB129_130 := n5_; have NB130_129 := n6_; clear n0_ n1_ n2_ n3_ n4_ n5_ n6_; clear hb hbox hg) | ((with_reducible refine gate_callee (f := 19) rfl ?_); refine goesL_ (some 7) rfl rfl Try.func19 (by kernel_rfl) rfl #[.slice A0 l0.length c0] rfl (by (try simp only [zA, zB, zC]); first | done | rfl | (simp only [zE, zD]; rfl)) ?_; (with_reducible refine (spec_CacheFault.calls k _ _ l0 t131 _ ?side1 ?side2 A3.out).mono ?_); (case side1 => repeat (first | exact (Kd.C_below HR0.out HB.out) | (with_reducible first | refine zj ?_ _ | refine zk ?_ _ | refine zl ?_))); (case side2 => exact HC0.out); rintro e w10 ⟨rfl, hb⟩; refine ⟨_, rfl, ?_⟩; have n0_ := zm (zu (g := gb129) (o := .cells #[.int .i64 a1_0, .int .i64 a1_1, .int .i64 a1_2, .int .i64 a1_3] 31 (0, 0)) (by (with_reducible repeat (first | refine zd ?_ _ | refine ze ?_ | refine zf ?_ _)); exact BK129.out) hb); have n1_ := zm (zu (g := gb130) (o := .cells #[.int .i64 0, .int .i64 0, .bool false, .slice none 0 0] 28 (0, 0)) (by (with_reducible repeat (first | refine zd ?_ _ | refine ze ?_ | refine zf ?_ _)); exact BK130.out) hb); have n2_ := zm (zw (by repeat (first | (with_reducible first | exact HB.out | apply zg | apply zh | apply zi | refine zy ?_ GE129.out | refine zy ?_ GE130.out) | exact HB.out)) hb); clear BK129; clear BK130; clear HB; have BK129 := n0_; have BK130 := n1_; have HB := n2_; clear n0_ n1_ n2_; (try clear hb); (try clear hb2); (try clear hk); (try clear hi); have hnb11 := NB129_130.out; have hnc11 := NB130_129.out; have hcz12_0 : w10.cell? ⟨gb129, 0, none⟩ = some (.int .i64 a1_0) := (yG BK129.out 0).trans rfl; have hcz12_1 : w10.cell? ⟨gb129, 1, none⟩ = some (.int .i64 a1_1) := (yG BK129.out 1).trans rfl; have hcz12_2 : w10.cell? ⟨gb129, 2, none⟩ = some (.int .i64 a1_2) := (yG BK129.out 2).trans rfl; have hcz12_3 : w10.cell? ⟨gb129, 3, none⟩ = some (.int .i64 a1_3) := (yG BK129.out 3).trans rfl; have hfz12_0 := zH BK129.out 0; have hfz12_1 := zH BK129.out 1; have hfz12_2 := zH BK129.out 2; have hfz12_3 := zH BK129.out 3) | ((with_reducible refine gate_callee (f := 33) rfl ?_); refine goesL_ (some 13) rfl rfl Try.func33 (by kernel_rfl) rfl #[.agg #[.int .i64 a1_0, .int .i64 a1_1, .int .i64 a1_2, .int .i64 a1_3]] rfl (by (try simp only [zA, zB, zC]); first | done | rfl | (simp only [zE, zD]; rfl)) ?_; (with_reducible refine (spec_l5Hit.calls a1_0 a1_1 a1_2 a1_3 true _ A5.out).mono ?_); rintro e w13 ⟨rfl, hb⟩; refine ⟨_, rfl, ?_⟩; have n0_ := zm (zu (g := gb129) (o := .cells #[.int .i64 a1_0, .int .i64 a1_1, .int .i64 a1_2, .int .i64 a1_3] 31 (0, 0)) (by (with_reducible repeat (first | refine zd ?_ _ | refine ze ?_ | refine zf ?_ _)); exact BK129.out) hb); have n1_ := zm (zu (g := gb130) (o := .cells #[.int .i64 0, .int .i64 0, .bool false, .slice none 0 0] 28 (0, 0)) (by (with_reducible repeat (first | refine zd ?_ _ | refine ze ?_ | refine zf ?_ _)); exact BK130.out) hb); have n2_ := zm (zw (by repeat (first | (with_reducible first | exact HB.out | apply zg | apply zh | apply zi | refine zy ?_ GE129.out | refine zy ?_ GE130.out) | exact HB.out)) hb); clear BK129; clear BK130; clear HB; have BK129 := n0_; have BK130 := n1_; have HB := n2_; clear n0_ n1_ n2_; (try clear hb); (try clear hb2); (try clear hk); (try clear hi); have hcz14_0 : w13.cell? ⟨gb129, 0, none⟩ = some (.int .i64 a1_0) := (yG BK129.out 0).trans rfl; have hcz14_1 : w13.cell? ⟨gb129, 1, none⟩ = some (.int .i64 a1_1) := (yG BK129.out 1).trans rfl; have hcz14_2 : w13.cell? ⟨gb129, 2, none⟩ = some (.int .i64 a1_2) := (yG BK129.out 2).trans rfl; have hcz14_3 : w13.cell? ⟨gb129, 3, none⟩ = some (.int .i64 a1_3) := (yG BK129.out 3).trans rfl; have hfz14_0 := zH BK129.out 0; have hfz14_1 := zH BK129.out 1; have hfz14_2 := zH BK129.out 2; have hfz14_3 := zH BK129.out 3) | ((with_reducible refine gate_callee (f := 34) rfl ?_); refine goesL_ (some 18) rfl rfl Try.func34 (by kernel_rfl) rfl #[.slice A0 l0.length c0, .agg #[.int .i64 a1_0, .int .i64 a1_1, .int .i64 a1_2, .int .i64 a1_3]] rfl (by (try simp only [zA, zB, zC]); first | done | rfl | (simp only [zE, zD]; rfl)) ?_; (with_reducible refine (spec_l5Fill.calls k _ _ l0 a1_0 a1_1 a1_2 a1_3 t133 _ ?side1 ?side2 A7.out).mono ?_); (case side1 => repeat (first | exact (Kd.C_below HR0.out HB.out) | (with_reducible first | refine zj ?_ _ | refine zk ?_ _ | refine zl ?_))); (case side2 => exact HC0.out); rintro e w15 ⟨v134, rfl, ho0, hb⟩; refine ⟨_, rfl, ?_⟩; have n0_ := zm (zz (Kd.R_newB ho0 (g := gb129) (o := .cells #[.int .i64 a1_0, .int .i64 a1_1, .int .i64 a1_2, .int .i64 a1_3] 31 (0, 0)) (by (with_reducible repeat (first | refine zd ?_ _ | refine ze ?_ | refine zf ?_ _)); exact BK129.out)) (zx (by repeat (first | (with_reducible first | exact HB.out | apply zg | apply zh | apply zi | refine zy ?_ GE129.out | refine zy ?_ GE130.out) | exact HB.out)))); have n1_ := zm (zu (g := gb129) (o := .cells #[.int .i64 a1_0, .int .i64 a1_1, .int .i64 a1_2, .int .i64 a1_3] 31 (0, 0)) (by (with_reducible repeat (first | refine zd ?_ _ | refine ze ?_ | refine zf ?_ _)); exact BK129.out) hb); have n2_ := zm (zu (g := gb130) (o := .cells #[.int .i64 0, .int .i64 0, .bool false, .slice none 0 0] 28 (0, 0)) (by (with_reducible repeat (first | refine zd ?_ _ | refine ze ?_ | refine zf ?_ _)); exact BK130.out) hb); have n3_ := zm (zw (by repeat (first | (with_reducible first | exact HB.out | apply zg | apply zh | apply zi | refine zy ?_ GE129.out | refine zy ?_ GE130.out) | exact HB.out)) hb); clear BK129; clear BK130; clear HB; have HO135 := n0_; have BK129 := n1_; have BK130 := n2_; have HB := n3_; clear n0_ n1_ n2_ n3_; (try clear hb); (try clear hb2); (try clear hk); (try clear hi); (try clear ho0); obtain ⟨Ao16, co16, eo16⟩ := Kd.R_slice HO135.out; subst eo16; have hcz17_0 : w15.cell? ⟨gb130, 0, none⟩ = some (.int .i64 0) := (yG BK130.out 0).trans rfl; have hcz17_1 : w15.cell? ⟨gb130, 1, none⟩ = some (.int .i64 0) := (yG BK130.out 1).trans rfl; have hcz17_2 : w15.cell? ⟨gb130, 2, none⟩ = some (.bool false) := (yG BK130.out 2).trans rfl; have hcz17_3 : w15.cell? ⟨gb130, 3, none⟩ = some (.slice none 0 0) := (yG BK130.out 3).trans rfl; have hfz17_0 := zH BK130.out 0; have hfz17_1 := zH BK130.out 1; have hfz17_2 := zH BK130.out 2; have hfz17_3 := zH BK130.out 3))
   refine bodyPost_ret (results_cell_row rfl _ _ gb130 28 #[.int .i64 0, .int .i64 0, .bool false, .slice Ao16 t133.length co16] (0, 0) _ rfl (by (with_reducible repeat (first | refine zd ?_ _ | refine ze ?_ | refine zf ?_ _)); refine blk_put (cs := #[.int .i64 0, .int .i64 0, .bool false, .slice none 0 0]) ?_ 3 _ rfl; (with_reducible repeat (first | refine zd ?_ _ | refine ze ?_ | refine zf ?_ _)); refine blk_put (cs := #[.int .i64 0, .int .i64 0, .bool false, .slice none 0 0]) ?_ 2 _ rfl; (with_reducible repeat (first | refine zd ?_ _ | refine ze ?_ | refine zf ?_ _)); refine blk_put (cs := #[.int .i64 0, .int .i64 0, .bool false, .slice none 0 0]) ?_ 1 _ rfl; (with_reducible repeat (first | refine zd ?_ _ | refine ze ?_ | refine zf ?_ _)); refine blk_put (cs := #[.int .i64 0, .int .i64 0, .bool false, .slice none 0 0]) ?_ 0 _ rfl; (with_reducible repeat (first | refine zd ?_ _ | refine ze ?_ | refine zf ?_ _)); exact BK130.out) Try.underlying28 rfl (by kernel_rfl)) rfl ?_
   exact ⟨_, by first | rfl | (simp [errW_none, errW_some] <;> rfl) | (simp [*, errW_none, errW_some] <;> rfl), by (with_reducible repeat (first | apply za | apply zb | apply zc)); exact zr (zn (p := ⟨gb130, 3, none⟩) (zn (p := ⟨gb130, 2, none⟩) (zn (p := ⟨gb130, 1, none⟩) (zn (p := ⟨gb130, 0, none⟩) (zq HO135.out BK130.out (by decide)) (fun _ hk => hk.2) (.int .i64 0)) (fun _ hk => hk.2) (.int .i64 0)) (fun _ hk => hk.2) (.bool false)) (fun _ hk => hk.2) (.slice Ao16 t133.length co16)) (fun _ hk => trivial), by repeat (first | (with_reducible first | exact HB.out | apply zg | apply zh | apply zi | refine zy ?_ GE129.out | refine zy ?_ GE130.out) | exact HB.out)⟩
  ·replace c6 := Bool.eq_false_iff.mpr c6
   subst c6
   rw [if_neg (show ¬ (false = true) by decide)] at H
   simp only [Option.some.injEq, Prod.mk.injEq] at H
   obtain ⟨rfl, rfl, rfl, rfl⟩ := H
   go_enter Try.func10, Try.ntmps10
   go_wp2_with (first | ((with_reducible refine gate_dst (N := 3) rfl ?_); refine box_event ?hg (N := 3) ?hd (cs := #[.int .i64 a1_0, .int .i64 a1_1, .int .i64 a1_2, .int .i64 a1_3]) (t := 31) ?hr ?_; (case hd => rfl); (case hg => rfl); (case hr => first | (go_simp; done) | (go_simp; rfl)); intro gb129 hg w18 hbox hb; have n0_ := zm (zw (by repeat (first | (with_reducible first | exact HB.out | apply zg | apply zh | apply zi) | exact HB.out)) hb); have n1_ := zm (hbox); have n2_ := zm ((by rw [hg]; exact (zx (by repeat (first | (with_reducible first | exact HB.out | apply zg | apply zh | apply zi) | exact HB.out))) : w.heap.size ≤ gb129)); have n3_ := zm ((by rw [hg]; exact (zx (by repeat (first | (with_reducible first | exact HB.out | apply zg | apply zh | apply zi) | exact HB.out))) : w.heap.size ≤ gb129)); clear HB; have HB := n0_; have BK129 := n1_; have GW129 := n2_; have GE129 := n3_; clear n0_ n1_ n2_ n3_; clear hb hbox hg) | ((with_reducible refine gate_dst (N := 4) rfl ?_); refine box_event ?hg (N := 4) ?hd (cs := #[.int .i64 0, .int .i64 0, .bool false, .slice none 0 0]) (t := 28) ?hr ?_; (case hd => rfl); (case hg => rfl); (case hr => first | (go_simp; done) | (go_simp; rfl)); intro gb130 hg w19 hbox hb; have n0_ := zm (zu (g := gb129) (o := .cells #[.int .i64 a1_0, .int .i64 a1_1, .int .i64 a1_2, .int .i64 a1_3] 31 (0, 0)) (by (with_reducible repeat (first | refine zd ?_ _ | refine ze ?_ | refine zf ?_ _)); exact BK129.out) hb); have n1_ := zm (zw (by repeat (first | (with_reducible first | exact HB.out | apply zg | apply zh | apply zi | refine zy ?_ GE129.out) | exact HB.out)) hb); have n2_ := zm (hbox); have n3_ := zm ((by rw [hg]; exact (zx (by repeat (first | (with_reducible first | exact HB.out | apply zg | apply zh | apply zi | refine zy ?_ GE129.out) | exact HB.out))) : w.heap.size ≤ gb130)); have n4_ := zm ((by rw [hg]; exact (zx (by repeat (first | (with_reducible first | exact HB.out | apply zg | apply zh | apply zi | refine zy ?_ GE129.out) | exact HB.out))) : w.heap.size ≤ gb130)); have n5_ := zm ((by rw [hg]; exact Nat.ne_of_lt (zv (g := gb129) (o := .cells #[.int .i64 a1_0, .int .i64 a1_1, .int .i64 a1_2, .int .i64 a1_3] 31 (0, 0)) (by (with_reducible repeat (first | refine zd ?_ _ | refine ze ?_ | refine zf ?_ _)); exact BK129.out)) : gb129 ≠ gb130)); have n6_ := zm ((by rw [hg]; exact Nat.ne_of_gt (zv (g := gb129) (o := .cells #[.int .i64 a1_0, .int .i64 a1_1, .int .i64 a1_2, .int .i64 a1_3] 31 (0, 0)) (by (with_reducible repeat (first | refine zd ?_ _ | refine ze ?_ | refine zf ?_ _)); exact BK129.out)) : gb130 ≠ gb129)); clear BK129; clear HB; have BK129 := n0_; have HB := n1_; have BK130 := n2_; have GW130 := n3_; have GE130 := n4_; have NB129_130 := n5_; have NB130_129 := n6_; clear n0_ n1_ n2_ n3_ n4_ n5_ n6_; clear hb hbox hg) | ((with_reducible refine gate_callee (f := 19) rfl ?_); refine goesL_ (some 7) rfl rfl Try.func19 (by kernel_rfl) rfl #[.slice A0 l0.length c0] rfl (by (try simp only [zA, zB, zC]); first | done | rfl | (simp only [zE, zD]; rfl)) ?_; (with_reducible refine (spec_CacheFault.calls k _ _ l0 t131 _ ?side1 ?side2 A3.out).mono ?_); (case side1 => repeat (first | exact (Kd.C_below HR0.out HB.out) | (with_reducible first | refine zj ?_ _ | refine zk ?_ _ | refine zl ?_))); (case side2 => exact HC0.out); rintro e w20 ⟨rfl, hb⟩; refine ⟨_, rfl, ?_⟩; have n0_ := zm (zu (g := gb129) (o := .cells #[.int .i64 a1_0, .int .i64 a1_1, .int .i64 a1_2, .int .i64 a1_3] 31 (0, 0)) (by (with_reducible repeat (first | refine zd ?_ _ | refine ze ?_ | refine zf ?_ _)); exact BK129.out) hb); have n1_ := zm (zu (g := gb130) (o := .cells #[.int .i64 0, .int .i64 0, .bool false, .slice none 0 0] 28 (0, 0)) (by (with_reducible repeat (first | refine zd ?_ _ | refine ze ?_ | refine zf ?_ _)); exact BK130.out) hb); have n2_ := zm (zw (by repeat (first | (with_reducible first | exact HB.out | apply zg | apply zh | apply zi | refine zy ?_ GE129.out | refine zy ?_ GE130.out) | exact HB.out)) hb); clear BK129; clear BK130; clear HB; have BK129 := n0_; have BK130 := n1_; have HB := n2_; clear n0_ n1_ n2_; (try clear hb); (try clear hb2); (try clear hk); (try clear hi); have hnb21 := NB129_130.out; have hnc21 := NB130_129.out; have hcz22_0 : w20.cell? ⟨gb129, 0, none⟩ = some (.int .i64 a1_0) := (yG BK129.out 0).trans rfl; have hcz22_1 : w20.cell? ⟨gb129, 1, none⟩ = some (.int .i64 a1_1) := (yG BK129.out 1).trans rfl; have hcz22_2 : w20.cell? ⟨gb129, 2, none⟩ = some (.int .i64 a1_2) := (yG BK129.out 2).trans rfl; have hcz22_3 : w20.cell? ⟨gb129, 3, none⟩ = some (.int .i64 a1_3) := (yG BK129.out 3).trans rfl; have hfz22_0 := zH BK129.out 0; have hfz22_1 := zH BK129.out 1; have hfz22_2 := zH BK129.out 2; have hfz22_3 := zH BK129.out 3) | ((with_reducible refine gate_callee (f := 33) rfl ?_); refine goesL_ (some 13) rfl rfl Try.func33 (by kernel_rfl) rfl #[.agg #[.int .i64 a1_0, .int .i64 a1_1, .int .i64 a1_2, .int .i64 a1_3]] rfl (by (try simp only [zA, zB, zC]); first | done | rfl | (simp only [zE, zD]; rfl)) ?_; (with_reducible refine (spec_l5Hit.calls a1_0 a1_1 a1_2 a1_3 false _ A5.out).mono ?_); rintro e w23 ⟨rfl, hb⟩; refine ⟨_, rfl, ?_⟩; have n0_ := zm (zu (g := gb129) (o := .cells #[.int .i64 a1_0, .int .i64 a1_1, .int .i64 a1_2, .int .i64 a1_3] 31 (0, 0)) (by (with_reducible repeat (first | refine zd ?_ _ | refine ze ?_ | refine zf ?_ _)); exact BK129.out) hb); have n1_ := zm (zu (g := gb130) (o := .cells #[.int .i64 0, .int .i64 0, .bool false, .slice none 0 0] 28 (0, 0)) (by (with_reducible repeat (first | refine zd ?_ _ | refine ze ?_ | refine zf ?_ _)); exact BK130.out) hb); have n2_ := zm (zw (by repeat (first | (with_reducible first | exact HB.out | apply zg | apply zh | apply zi | refine zy ?_ GE129.out | refine zy ?_ GE130.out) | exact HB.out)) hb); clear BK129; clear BK130; clear HB; have BK129 := n0_; have BK130 := n1_; have HB := n2_; clear n0_ n1_ n2_; (try clear hb); (try clear hb2); (try clear hk); (try clear hi); have hcz24_0 : w23.cell? ⟨gb130, 0, none⟩ = some (.int .i64 0) := (yG BK130.out 0).trans rfl; have hcz24_1 : w23.cell? ⟨gb130, 1, none⟩ = some (.int .i64 0) := (yG BK130.out 1).trans rfl; have hcz24_2 : w23.cell? ⟨gb130, 2, none⟩ = some (.bool false) := (yG BK130.out 2).trans rfl; have hcz24_3 : w23.cell? ⟨gb130, 3, none⟩ = some (.slice none 0 0) := (yG BK130.out 3).trans rfl; have hfz24_0 := zH BK130.out 0; have hfz24_1 := zH BK130.out 1; have hfz24_2 := zH BK130.out 2; have hfz24_3 := zH BK130.out 3))
   refine bodyPost_ret (results_cell_row rfl _ _ gb130 28 #[.int .i64 3, .int .i64 0, .bool false, .slice none 0 0] (0, 0) _ rfl (by (with_reducible repeat (first | refine zd ?_ _ | refine ze ?_ | refine zf ?_ _)); refine blk_put (cs := #[.int .i64 3, .int .i64 0, .bool false, .slice none 0 0]) ?_ 3 _ rfl; (with_reducible repeat (first | refine zd ?_ _ | refine ze ?_ | refine zf ?_ _)); refine blk_put (cs := #[.int .i64 3, .int .i64 0, .bool false, .slice none 0 0]) ?_ 2 _ rfl; (with_reducible repeat (first | refine zd ?_ _ | refine ze ?_ | refine zf ?_ _)); refine blk_put (cs := #[.int .i64 3, .int .i64 0, .bool false, .slice none 0 0]) ?_ 1 _ rfl; (with_reducible repeat (first | refine zd ?_ _ | refine ze ?_ | refine zf ?_ _)); refine blk_put (cs := #[.int .i64 0, .int .i64 0, .bool false, .slice none 0 0]) ?_ 0 _ rfl; (with_reducible repeat (first | refine zd ?_ _ | refine ze ?_ | refine zf ?_ _)); exact BK130.out) Try.underlying28 rfl (by kernel_rfl)) rfl ?_
   exact ⟨_, by first | rfl | (simp [errW_none, errW_some] <;> rfl) | (simp [*, errW_none, errW_some] <;> rfl), by first | exact Kd.R_nil _ _ _ _ _ | exact Kd.N_nil _ _ _ _ _ | exact Kd.V_nil _ _ _ _ _ | exact Kd.Q_nil _ _ _ _ _ | exact Kd.S_nil _ _ _ _ _, by repeat (first | (with_reducible first | exact HB.out | apply zg | apply zh | apply zi | refine zy ?_ GE129.out | refine zy ?_ GE130.out) | exact HB.out)⟩
 ·rw [if_neg c4] at H
  have c4b0 : (t131 == 0) = false := beq_eq_false_iff_ne.mpr c4
  have c4b1 : (t131 != 0) = true := bne_iff_ne.mpr c4
  simp only [Option.some.injEq, Prod.mk.injEq] at H
  obtain ⟨rfl, rfl, rfl, rfl⟩ := H
  go_enter Try.func10, Try.ntmps10
  go_wp2_with (first | ((with_reducible refine gate_dst (N := 3) rfl ?_); refine box_event ?hg (N := 3) ?hd (cs := #[.int .i64 a1_0, .int .i64 a1_1, .int .i64 a1_2, .int .i64 a1_3]) (t := 31) ?hr ?_; (case hd => rfl); (case hg => rfl); (case hr => first | (go_simp; done) | (go_simp; rfl)); intro gb129 hg w25 hbox hb; have n0_ := zm (zw (by repeat (first | (with_reducible first | exact HB.out | apply zg | apply zh | apply zi) | exact HB.out)) hb); have n1_ := zm (hbox); have n2_ := zm ((by rw [hg]; exact (zx (by repeat (first | (with_reducible first | exact HB.out | apply zg | apply zh | apply zi) | exact HB.out))) : w.heap.size ≤ gb129)); have n3_ := zm ((by rw [hg]; exact (zx (by repeat (first | (with_reducible first | exact HB.out | apply zg | apply zh | apply zi) | exact HB.out))) : w.heap.size ≤ gb129)); clear HB; have HB := n0_; have BK129 := n1_; have GW129 := n2_; have GE129 := n3_; clear n0_ n1_ n2_ n3_; clear hb hbox hg) | ((with_reducible refine gate_dst (N := 4) rfl ?_); refine box_event ?hg (N := 4) ?hd (cs := #[.int .i64 0, .int .i64 0, .bool false, .slice none 0 0]) (t := 28) ?hr ?_; (case hd => rfl); (case hg => rfl); (case hr => first | (go_simp; done) | (go_simp; rfl)); intro gb130 hg w26 hbox hb; have n0_ := zm (zu (g := gb129) (o := .cells #[.int .i64 a1_0, .int .i64 a1_1, .int .i64 a1_2, .int .i64 a1_3] 31 (0, 0)) (by (with_reducible repeat (first | refine zd ?_ _ | refine ze ?_ | refine zf ?_ _)); exact BK129.out) hb); have n1_ := zm (zw (by repeat (first | (with_reducible first | exact HB.out | apply zg | apply zh | apply zi | refine zy ?_ GE129.out) | exact HB.out)) hb); have n2_ := zm (hbox); have n3_ := zm ((by rw [hg]; exact (zx (by repeat (first | (with_reducible first | exact HB.out | apply zg | apply zh | apply zi | refine zy ?_ GE129.out) | exact HB.out))) : w.heap.size ≤ gb130)); have n4_ := zm ((by rw [hg]; exact (zx (by repeat (first | (with_reducible first | exact HB.out | apply zg | apply zh | apply zi | refine zy ?_ GE129.out) | exact HB.out))) : w.heap.size ≤ gb130)); have n5_ := zm ((by rw [hg]; exact Nat.ne_of_lt (zv (g := gb129) (o := .cells #[.int .i64 a1_0, .int .i64 a1_1, .int .i64 a1_2, .int .i64 a1_3] 31 (0, 0)) (by (with_reducible repeat (first | refine zd ?_ _ | refine ze ?_ | refine zf ?_ _)); exact BK129.out)) : gb129 ≠ gb130)); have n6_ := zm ((by rw [hg]; exact Nat.ne_of_gt (zv (g := gb129) (o := .cells #[.int .i64 a1_0, .int .i64 a1_1, .int .i64 a1_2, .int .i64 a1_3] 31 (0, 0)) (by (with_reducible repeat (first | refine zd ?_ _ | refine ze ?_ | refine zf ?_ _)); exact BK129.out)) : gb130 ≠ gb129)); clear BK129; clear HB; have BK129 := n0_; have HB := n1_; have BK130 := n2_; have GW130 := n3_; have GE130 := n4_; have NB129_130 := n5_; have NB130_129 := n6_; clear n0_ n1_ n2_ n3_ n4_ n5_ n6_; clear hb hbox hg) | ((with_reducible refine gate_callee (f := 19) rfl ?_); refine goesL_ (some 7) rfl rfl Try.func19 (by kernel_rfl) rfl #[.slice A0 l0.length c0] rfl (by (try simp only [zA, zB, zC]); first | done | rfl | (simp only [zE, zD]; rfl)) ?_; (with_reducible refine (spec_CacheFault.calls k _ _ l0 t131 _ ?side1 ?side2 A3.out).mono ?_); (case side1 => repeat (first | exact (Kd.C_below HR0.out HB.out) | (with_reducible first | refine zj ?_ _ | refine zk ?_ _ | refine zl ?_))); (case side2 => exact HC0.out); rintro e w27 ⟨rfl, hb⟩; refine ⟨_, rfl, ?_⟩; have n0_ := zm (zu (g := gb129) (o := .cells #[.int .i64 a1_0, .int .i64 a1_1, .int .i64 a1_2, .int .i64 a1_3] 31 (0, 0)) (by (with_reducible repeat (first | refine zd ?_ _ | refine ze ?_ | refine zf ?_ _)); exact BK129.out) hb); have n1_ := zm (zu (g := gb130) (o := .cells #[.int .i64 0, .int .i64 0, .bool false, .slice none 0 0] 28 (0, 0)) (by (with_reducible repeat (first | refine zd ?_ _ | refine ze ?_ | refine zf ?_ _)); exact BK130.out) hb); have n2_ := zm (zw (by repeat (first | (with_reducible first | exact HB.out | apply zg | apply zh | apply zi | refine zy ?_ GE129.out | refine zy ?_ GE130.out) | exact HB.out)) hb); clear BK129; clear BK130; clear HB; have BK129 := n0_; have BK130 := n1_; have HB := n2_; clear n0_ n1_ n2_; (try clear hb); (try clear hb2); (try clear hk); (try clear hi); have hnb28 := NB130_129.out; have hnc28 := NB129_130.out; have hcz29_0 : w27.cell? ⟨gb130, 0, none⟩ = some (.int .i64 0) := (yG BK130.out 0).trans rfl; have hcz29_1 : w27.cell? ⟨gb130, 1, none⟩ = some (.int .i64 0) := (yG BK130.out 1).trans rfl; have hcz29_2 : w27.cell? ⟨gb130, 2, none⟩ = some (.bool false) := (yG BK130.out 2).trans rfl; have hcz29_3 : w27.cell? ⟨gb130, 3, none⟩ = some (.slice none 0 0) := (yG BK130.out 3).trans rfl; have hfz29_0 := zH BK130.out 0; have hfz29_1 := zH BK130.out 1; have hfz29_2 := zH BK130.out 2; have hfz29_3 := zH BK130.out 3))
  refine bodyPost_ret (results_cell_row rfl _ _ gb130 28 #[.int .i64 t131, .int .i64 0, .bool false, .slice none 0 0] (0, 0) _ rfl (by (with_reducible repeat (first | refine zd ?_ _ | refine ze ?_ | refine zf ?_ _)); refine blk_put (cs := #[.int .i64 t131, .int .i64 0, .bool false, .slice none 0 0]) ?_ 3 _ rfl; (with_reducible repeat (first | refine zd ?_ _ | refine ze ?_ | refine zf ?_ _)); refine blk_put (cs := #[.int .i64 t131, .int .i64 0, .bool false, .slice none 0 0]) ?_ 2 _ rfl; (with_reducible repeat (first | refine zd ?_ _ | refine ze ?_ | refine zf ?_ _)); refine blk_put (cs := #[.int .i64 t131, .int .i64 0, .bool false, .slice none 0 0]) ?_ 1 _ rfl; (with_reducible repeat (first | refine zd ?_ _ | refine ze ?_ | refine zf ?_ _)); refine blk_put (cs := #[.int .i64 0, .int .i64 0, .bool false, .slice none 0 0]) ?_ 0 _ rfl; (with_reducible repeat (first | refine zd ?_ _ | refine ze ?_ | refine zf ?_ _)); exact BK130.out) Try.underlying28 rfl (by kernel_rfl)) rfl ?_
  exact ⟨_, by first | rfl | (simp [errW_none, errW_some] <;> rfl) | (simp [*, errW_none, errW_some] <;> rfl), by first | exact Kd.R_nil _ _ _ _ _ | exact Kd.N_nil _ _ _ _ _ | exact Kd.V_nil _ _ _ _ _ | exact Kd.Q_nil _ _ _ _ _ | exact Kd.S_nil _ _ _ _ _, by repeat (first | (with_reducible first | exact HB.out | apply zg | apply zh | apply zi | refine zy ?_ GE129.out | refine zy ?_ GE130.out) | exact HB.out)⟩

/-! ### impl_within: function 43 -/
def impl_within.f (a0 : Int) (a1 : Int) (a2 : Int) : Option (Bool) := if a0 ≥ a1 then (some (decide (a0 ≤ a2))) else (some false)
set_option maxHeartbeats 8000000 in
set_option maxRecDepth 100000 in
theorem impl_within.calls (a0 : Int) (a1 : Int) (a2 : Int) (r : Bool) (w : World) (h : impl_within.f a0 a1 a2 = some r) :
  Calls Try.prog 43 #[.int .i64 a0, .int .i64 a1, .int .i64 a2] w fun e w' => e = .returned (.bool r) ∧ Drawn0 w w' := by
 have H : (if a0 ≥ a1 then (some (decide (a0 ≤ a2))) else (some false)) = some r := h
 clear h
 by_cases c4 : a0 ≥ a1
 ·rw [if_pos c4] at H
  have c4b0 : decide (a1 ≤ a0) = true := decide_eq_true c4
  clear c4
  obtain rfl := Option.some.inj H
  go_enter Try.func43, Try.ntmps43
  go_wp2
  go_ret
  exact ⟨by first | rfl | (simp; done) | (simp [*]; done), by repeat (first | exact Drawn0.refl _ | apply Drawn0.step)⟩
 ·rw [if_neg c4] at H
  have c4b0 : decide (a1 ≤ a0) = false := decide_eq_false c4
  clear c4
  obtain rfl := Option.some.inj H
  go_enter Try.func43, Try.ntmps43
  go_wp2
  go_ret
  exact ⟨by first | rfl | (simp; done) | (simp [*]; done), by repeat (first | exact Drawn0.refl _ | apply Drawn0.step)⟩

end Go.Proofs.Ytoojkiihbpnfdaa.PFnFills
