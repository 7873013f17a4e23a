-- The Go functions of FnCodes as Lean functions, each with its proof. Written by the session's own program (wip/gen/hp.py), which drives the kit's print.py.
import Derived.Test.YtpppnnmippngdaaDoorPFnCodesx0
import Derived.Test.YtpppnnmippngdaaDoorPFnCodesx3
namespace Go.Proofs.YtpppnnmippngdaaDoor.PFnCodes
open Go.RowKit Go.Proofs.YtpppnnmippngdaaDoorW.PrintWords Go.Proofs.YtpppnnmippngdaaDoorW.PrintLast Go.Proofs.YtpppnnmippngdaaDoorW.PrintMore
attribute [local go_sem] max2_int min2_int max_two min_two max_three min_three max_four min_four   -- for this text's walks alone
set_option linter.unusedVariables false
set_option linter.unusedSimpArgs false

/-! ### spec_InsFault: function 16 -/
def spec_InsFault.j0 : Nat → Bool → Int → Int → Int → Int → Option (Int)
  | 0, _, _, _, _, _ => none
  | k + 1, x27, x108000, x108001, x108002, x108003 => if x27 = true then (some 3) else ((spec_l2Bare.f k x108000).bind fun bt112 => (if bt112.1 = true then (if x108001 = 0 then (if bt112.2.1 = true then (if x108002 = 0 then (if bt112.2.2 = true then (if x108003 = 0 then (if x108000 ≤ 11 then (if x108003 > 15 then (some 1) else (if x108000 = 21 then (if x108003 > 10 then (some 1) else (some 0)) else (if x108000 = 22 then (if x108003 > 10 then (some 1) else (some 0)) else (some 0)))) else (if x108000 = 21 then (if x108003 > 10 then (some 1) else (some 0)) else (if x108000 = 22 then (if x108003 > 10 then (some 1) else (some 0)) else (some 0)))) else (some 1)) else (if x108000 ≤ 11 then (if x108003 > 15 then (some 1) else (if x108000 = 21 then (if x108003 > 10 then (some 1) else (some 0)) else (if x108000 = 22 then (if x108003 > 10 then (some 1) else (some 0)) else (some 0)))) else (if x108000 = 21 then (if x108003 > 10 then (some 1) else (some 0)) else (if x108000 = 22 then (if x108003 > 10 then (some 1) else (some 0)) else (some 0))))) else (some 1)) else (if bt112.2.2 = true then (if x108003 = 0 then (if x108000 ≤ 11 then (if x108003 > 15 then (some 1) else (if x108000 = 21 then (if x108003 > 10 then (some 1) else (some 0)) else (if x108000 = 22 then (if x108003 > 10 then (some 1) else (some 0)) else (some 0)))) else (if x108000 = 21 then (if x108003 > 10 then (some 1) else (some 0)) else (if x108000 = 22 then (if x108003 > 10 then (some 1) else (some 0)) else (some 0)))) else (some 1)) else (if x108000 ≤ 11 then (if x108003 > 15 then (some 1) else (if x108000 = 21 then (if x108003 > 10 then (some 1) else (some 0)) else (if x108000 = 22 then (if x108003 > 10 then (some 1) else (some 0)) else (some 0)))) else (if x108000 = 21 then (if x108003 > 10 then (some 1) else (some 0)) else (if x108000 = 22 then (if x108003 > 10 then (some 1) else (some 0)) else (some 0)))))) else (some 1)) else (if bt112.2.1 = true then (if x108002 = 0 then (if bt112.2.2 = true then (if x108003 = 0 then (if x108000 ≤ 11 then (if x108003 > 15 then (some 1) else (if x108000 = 21 then (if x108003 > 10 then (some 1) else (some 0)) else (if x108000 = 22 then (if x108003 > 10 then (some 1) else (some 0)) else (some 0)))) else (if x108000 = 21 then (if x108003 > 10 then (some 1) else (some 0)) else (if x108000 = 22 then (if x108003 > 10 then (some 1) else (some 0)) else (some 0)))) else (some 1)) else (if x108000 ≤ 11 then (if x108003 > 15 then (some 1) else (if x108000 = 21 then (if x108003 > 10 then (some 1) else (some 0)) else (if x108000 = 22 then (if x108003 > 10 then (some 1) else (some 0)) else (some 0)))) else (if x108000 = 21 then (if x108003 > 10 then (some 1) else (some 0)) else (if x108000 = 22 then (if x108003 > 10 then (some 1) else (some 0)) else (some 0))))) else (some 1)) else (if bt112.2.2 = true then (if x108003 = 0 then (if x108000 ≤ 11 then (if x108003 > 15 then (some 1) else (if x108000 = 21 then (if x108003 > 10 then (some 1) else (some 0)) else (if x108000 = 22 then (if x108003 > 10 then (some 1) else (some 0)) else (some 0)))) else (if x108000 = 21 then (if x108003 > 10 then (some 1) else (some 0)) else (if x108000 = 22 then (if x108003 > 10 then (some 1) else (some 0)) else (some 0)))) else (some 1)) else (if x108000 ≤ 11 then (if x108003 > 15 then (some 1) else (if x108000 = 21 then (if x108003 > 10 then (some 1) else (some 0)) else (if x108000 = 22 then (if x108003 > 10 then (some 1) else (some 0)) else (some 0)))) else (if x108000 = 21 then (if x108003 > 10 then (some 1) else (some 0)) else (if x108000 = 22 then (if x108003 > 10 then (some 1) else (some 0)) else (some 0))))))))
def spec_InsFault.f (k : Nat) (a0_0 : Int) (a0_1 : Int) (a0_2 : Int) (a0_3 : Int) : Option (Int) := (spec_l1In.f a0_0 1 26).bind fun t108 => (if t108 = true then ((spec_l1In.f a0_1 0 15).bind fun t109 => (if t109 = true then ((spec_l1In.f a0_2 0 15).bind fun t110 => (if t110 = true then ((spec_l1In.f a0_3 0 65535).bind fun t111 => (spec_InsFault.j0 k (!t111) a0_0 a0_1 a0_2 a0_3)) else (spec_InsFault.j0 k true a0_0 a0_1 a0_2 a0_3))) else (spec_InsFault.j0 k true a0_0 a0_1 a0_2 a0_3))) else (spec_InsFault.j0 k true a0_0 a0_1 a0_2 a0_3))
theorem spec_InsFault.mono_l : ∀ k, (∀ y0 y1 y2 y3 y4, LeO (spec_InsFault.j0 k y0 y1 y2 y3 y4) (spec_InsFault.j0 (k + 1) y0 y1 y2 y3 y4))
  | 0 => fun _ _ _ _ _ r h => by simp [spec_InsFault.j0] at h
  | k + 1 => by
    have ih0 := spec_InsFault.mono_l k
    · intro y0 y1 y2 y3 y4
      unfold spec_InsFault.j0
      repeat' first
      | (with_reducible exact ih0 _ _ _ _ _)
      | (with_reducible exact spec_l2Bare.mono _ _)
      | (with_reducible exact LeO.refl _)
      | (with_reducible exact LeO.none _)
      | (with_reducible refine LeO.ite ?_ ?_)
      | (with_reducible refine LeO.bind ?_ (fun _ => ?_))
      | exact ih0 _ _ _ _ _
      | exact spec_l2Bare.mono _ _
      | exact LeO.none _
      | refine LeO.ite ?_ ?_
      | refine LeO.bind ?_ (fun _ => ?_)
theorem spec_InsFault.mono : ∀ a0 a1 a2 a3 k, LeO (spec_InsFault.f k a0 a1 a2 a3) (spec_InsFault.f (k + 1) a0 a1 a2 a3) := by
  intro a0 a1 a2 a3 k
  have ih0 := spec_InsFault.mono_l k
  unfold spec_InsFault.f
  repeat' first
      | (with_reducible exact ih0 _ _ _ _ _)
      | (with_reducible exact spec_l2Bare.mono _ _)
      | (with_reducible exact LeO.refl _)
      | (with_reducible exact LeO.none _)
      | (with_reducible refine LeO.ite ?_ ?_)
      | (with_reducible refine LeO.bind ?_ (fun _ => ?_))
      | exact ih0 _ _ _ _ _
      | exact spec_l2Bare.mono _ _
      | exact LeO.none _
      | refine LeO.ite ?_ ?_
      | refine LeO.bind ?_ (fun _ => ?_)
set_option maxHeartbeats 8000000 in
set_option maxRecDepth 100000 in
theorem spec_InsFault.calls (k : Nat) (a0_0 : Int) (a0_1 : Int) (a0_2 : Int) (a0_3 : Int) (r : Int) (w : World) (h : spec_InsFault.f k a0_0 a0_1 a0_2 a0_3 = some r) :
    Calls Tryd.prog 16 #[.agg #[.int .i64 a0_0, .int .i64 a0_1, .int .i64 a0_2, .int .i64 a0_3]] w fun e w' => e = .returned (.int .i64 r) ∧ Below w.heap.size w w' := by
  have hu27 := Tryd.underlying27
  have HB := Aside0.mk (Below.refl w.heap.size w)
  have H : ((spec_l1In.f a0_0 1 26).bind fun t108 => (if t108 = true then ((spec_l1In.f a0_1 0 15).bind fun t109 => (if t109 = true then ((spec_l1In.f a0_2 0 15).bind fun t110 => (if t110 = true then ((spec_l1In.f a0_3 0 65535).bind fun t111 => (spec_InsFault.j0 k (!t111) a0_0 a0_1 a0_2 a0_3)) else (spec_InsFault.j0 k true a0_0 a0_1 a0_2 a0_3))) else (spec_InsFault.j0 k true a0_0 a0_1 a0_2 a0_3))) else (spec_InsFault.j0 k true a0_0 a0_1 a0_2 a0_3))) = some r := h
  clear h
  have HC2 := Aside0.mk H
  clear H
  go_enter Tryd.func16, Tryd.ntmps16
  go_upto_region 1 with (first | ((with_reducible refine gate_dst (N := 1) rfl ?_); refine box_event ?hg (N := 1) ?hd (cs := #[.int .i64 a0_0, .int .i64 a0_1, .int .i64 a0_2, .int .i64 a0_3]) (t := 27) ?hr ?_; (case hd => rfl); (case hg => rfl); (case hr => first | (go_simp; done) | (go_simp; rfl)); intro gb107 hg w3 hbox hb; have n0_ := Aside0.mk (below_step (by repeat (first | (with_reducible first | exact HB.out | apply below_alloc | apply pw_below_drewN | apply below_drew1) | exact HB.out)) hb); have n1_ := Aside0.mk (hbox); have n2_ := Aside0.mk ((by rw [hg]; exact (below_size (by repeat (first | (with_reducible first | exact HB.out | apply below_alloc | apply pw_below_drewN | apply below_drew1) | exact HB.out))) : w.heap.size ≤ gb107)); have n3_ := Aside0.mk ((by rw [hg]; exact (below_size (by repeat (first | (with_reducible first | exact HB.out | apply below_alloc | apply pw_below_drewN | apply below_drew1) | exact HB.out))) : w.heap.size ≤ gb107)); clear HB; have HB := n0_; have BK107 := n1_; have GW107 := n2_; have GE107 := n3_; clear n0_ n1_ n2_ n3_; clear hb hbox hg))
  (try simp only [Act.put, List.setIfInBounds_toArray, List.set_cons_zero, List.set_cons_succ])
  go_cut [27] (fun v27 wc => ∃ (kq : Nat) (x27_1 : Bool), v27 = .bool x27_1 ∧ Aside0 (spec_InsFault.j0 kq x27_1 a0_0 a0_1 a0_2 a0_3 = some r) ∧ Aside0 (kq ≤ k) ∧ Aside0 (wc.heap[gb107]? = some (.cells #[.int .i64 a0_0, .int .i64 a0_1, .int .i64 a0_2, .int .i64 a0_3] 27 (0, 0))) ∧ Aside0 (Below w.heap.size w wc))
  case first =>
    have H := HC2.out
    clear HC2
    replace H := Option.bind_eq_some_iff.mp H
    obtain ⟨t108, A40, H⟩ := H
    replace H : (if t108 = true then ((spec_l1In.f a0_1 0 15).bind fun t109 => (if t109 = true then ((spec_l1In.f a0_2 0 15).bind fun t110 => (if t110 = true then ((spec_l1In.f a0_3 0 65535).bind fun t111 => (spec_InsFault.j0 k (!t111) a0_0 a0_1 a0_2 a0_3)) else (spec_InsFault.j0 k true a0_0 a0_1 a0_2 a0_3))) else (spec_InsFault.j0 k true a0_0 a0_1 a0_2 a0_3))) else (spec_InsFault.j0 k true a0_0 a0_1 a0_2 a0_3)) = some r := H
    have A4 := Aside0.mk A40
    clear A40
    by_cases c5 : t108 = true
    · subst c5
      have H1 : ((spec_l1In.f a0_1 0 15).bind fun t109 => (if t109 = true then ((spec_l1In.f a0_2 0 15).bind fun t110 => (if t110 = true then ((spec_l1In.f a0_3 0 65535).bind fun t111 => (spec_InsFault.j0 k (!t111) a0_0 a0_1 a0_2 a0_3)) else (spec_InsFault.j0 k true a0_0 a0_1 a0_2 a0_3))) else (spec_InsFault.j0 k true a0_0 a0_1 a0_2 a0_3))) = some r := by rw [if_pos rfl] at H; exact H
      clear H
      have H := H1
      clear H1
      replace H := Option.bind_eq_some_iff.mp H
      obtain ⟨t109, A60, H⟩ := H
      replace H : (if t109 = true then ((spec_l1In.f a0_2 0 15).bind fun t110 => (if t110 = true then ((spec_l1In.f a0_3 0 65535).bind fun t111 => (spec_InsFault.j0 k (!t111) a0_0 a0_1 a0_2 a0_3)) else (spec_InsFault.j0 k true a0_0 a0_1 a0_2 a0_3))) else (spec_InsFault.j0 k true a0_0 a0_1 a0_2 a0_3)) = some r := H
      have A6 := Aside0.mk A60
      clear A60
      by_cases c7 : t109 = true
      · subst c7
        have H1 : ((spec_l1In.f a0_2 0 15).bind fun t110 => (if t110 = true then ((spec_l1In.f a0_3 0 65535).bind fun t111 => (spec_InsFault.j0 k (!t111) a0_0 a0_1 a0_2 a0_3)) else (spec_InsFault.j0 k true a0_0 a0_1 a0_2 a0_3))) = some r := by rw [if_pos rfl] at H; exact H
        clear H
        have H := H1
        clear H1
        replace H := Option.bind_eq_some_iff.mp H
        obtain ⟨t110, A80, H⟩ := H
        replace H : (if t110 = true then ((spec_l1In.f a0_3 0 65535).bind fun t111 => (spec_InsFault.j0 k (!t111) a0_0 a0_1 a0_2 a0_3)) else (spec_InsFault.j0 k true a0_0 a0_1 a0_2 a0_3)) = some r := H
        have A8 := Aside0.mk A80
        clear A80
        by_cases c9 : t110 = true
        · subst c9
          have H1 : ((spec_l1In.f a0_3 0 65535).bind fun t111 => (spec_InsFault.j0 k (!t111) a0_0 a0_1 a0_2 a0_3)) = some r := by rw [if_pos rfl] at H; exact H
          clear H
          have H := H1
          clear H1
          replace H := Option.bind_eq_some_iff.mp H
          obtain ⟨t111, A100, H⟩ := H
          replace H : (spec_InsFault.j0 k (!t111) a0_0 a0_1 a0_2 a0_3) = some r := H
          have A10 := Aside0.mk A100
          clear A100
          have H' := Aside0.mk H
          clear H
          have hcz11_0 : w3.cell? ⟨gb107, 0, none⟩ = some (.int .i64 a0_0) := (blk_cell BK107.out 0).trans rfl
          have hcz11_1 : w3.cell? ⟨gb107, 1, none⟩ = some (.int .i64 a0_1) := (blk_cell BK107.out 1).trans rfl
          have hcz11_2 : w3.cell? ⟨gb107, 2, none⟩ = some (.int .i64 a0_2) := (blk_cell BK107.out 2).trans rfl
          have hcz11_3 : w3.cell? ⟨gb107, 3, none⟩ = some (.int .i64 a0_3) := (blk_cell BK107.out 3).trans rfl
          have hfz11_0 := blk_frozen BK107.out 0
          have hfz11_1 := blk_frozen BK107.out 1
          have hfz11_2 := blk_frozen BK107.out 2
          have hfz11_3 := blk_frozen BK107.out 3
          go_wp2_with (first | ((with_reducible refine gate_callee (f := 34) rfl ?_); refine goesL_ (some 8) rfl rfl Tryd.func34 (by kernel_rfl) rfl #[.int .i64 a0_0, .int .i64 1, .int .i64 26] rfl (by (try simp only [List.map_toArray, List.map_cons, List.map_nil]); first | done | rfl | (simp only [List.length_drop, List.length_take]; rfl)) ?_; (with_reducible refine (spec_l1In.calls a0_0 1 26 true _ A4.out).mono ?_); rintro e w' ⟨rfl, ⟨nd, rfl⟩⟩; refine ⟨_, rfl, ?_⟩) | (go_at_call 34; (with_reducible refine (spec_l1In.calls a0_1 0 15 true _ A6.out).mono ?_); rintro e w' ⟨rfl, ⟨nd, rfl⟩⟩) | (go_at_call 34; (with_reducible refine (spec_l1In.calls a0_2 0 15 true _ A8.out).mono ?_); rintro e w' ⟨rfl, ⟨nd, rfl⟩⟩) | (go_at_call 34; (with_reducible refine (spec_l1In.calls a0_3 0 65535 t111 _ A10.out).mono ?_); rintro e w' ⟨rfl, ⟨nd, rfl⟩⟩))
          go_meet
          case rel => exact ⟨_, (!t111), (by first | rfl | (simp; done) | (simp [*]; done)), H', ⟨by first | omega | exact Nat.le_refl _⟩, ⟨by (with_reducible repeat (first | refine blk_drewN ?_ _ | refine blk_drew ?_ | refine blk_alloc ?_ _)); exact BK107.out⟩, ⟨by repeat (first | (with_reducible first | exact HB.out | apply below_alloc | apply pw_below_drewN | apply below_drew1 | refine below_set ?_ GE107.out) | exact HB.out)⟩⟩
        · replace c9 := Bool.eq_false_iff.mpr c9
          subst c9
          have H1 : (spec_InsFault.j0 k true a0_0 a0_1 a0_2 a0_3) = some r := by rw [if_neg (show ¬ (false = true) by decide)] at H; exact H
          clear H
          have H := H1
          clear H1
          have H' := Aside0.mk H
          clear H
          have hcz12_0 : w3.cell? ⟨gb107, 0, none⟩ = some (.int .i64 a0_0) := (blk_cell BK107.out 0).trans rfl
          have hcz12_1 : w3.cell? ⟨gb107, 1, none⟩ = some (.int .i64 a0_1) := (blk_cell BK107.out 1).trans rfl
          have hcz12_2 : w3.cell? ⟨gb107, 2, none⟩ = some (.int .i64 a0_2) := (blk_cell BK107.out 2).trans rfl
          have hcz12_3 : w3.cell? ⟨gb107, 3, none⟩ = some (.int .i64 a0_3) := (blk_cell BK107.out 3).trans rfl
          have hfz12_0 := blk_frozen BK107.out 0
          have hfz12_1 := blk_frozen BK107.out 1
          have hfz12_2 := blk_frozen BK107.out 2
          have hfz12_3 := blk_frozen BK107.out 3
          go_wp2_with (first | ((with_reducible refine gate_callee (f := 34) rfl ?_); refine goesL_ (some 8) rfl rfl Tryd.func34 (by kernel_rfl) rfl #[.int .i64 a0_0, .int .i64 1, .int .i64 26] rfl (by (try simp only [List.map_toArray, List.map_cons, List.map_nil]); first | done | rfl | (simp only [List.length_drop, List.length_take]; rfl)) ?_; (with_reducible refine (spec_l1In.calls a0_0 1 26 true _ A4.out).mono ?_); rintro e w' ⟨rfl, ⟨nd, rfl⟩⟩; refine ⟨_, rfl, ?_⟩) | (go_at_call 34; (with_reducible refine (spec_l1In.calls a0_1 0 15 true _ A6.out).mono ?_); rintro e w' ⟨rfl, ⟨nd, rfl⟩⟩) | (go_at_call 34; (with_reducible refine (spec_l1In.calls a0_2 0 15 false _ A8.out).mono ?_); rintro e w' ⟨rfl, ⟨nd, rfl⟩⟩))
          go_meet
          case rel => exact ⟨_, (true), (by first | rfl | (simp; done) | (simp [*]; done)), H', ⟨by first | omega | exact Nat.le_refl _⟩, ⟨by (with_reducible repeat (first | refine blk_drewN ?_ _ | refine blk_drew ?_ | refine blk_alloc ?_ _)); exact BK107.out⟩, ⟨by repeat (first | (with_reducible first | exact HB.out | apply below_alloc | apply pw_below_drewN | apply below_drew1 | refine below_set ?_ GE107.out) | exact HB.out)⟩⟩
      · replace c7 := Bool.eq_false_iff.mpr c7
        subst c7
        have H1 : (spec_InsFault.j0 k true a0_0 a0_1 a0_2 a0_3) = some r := by rw [if_neg (show ¬ (false = true) by decide)] at H; exact H
        clear H
        have H := H1
        clear H1
        have H' := Aside0.mk H
        clear H
        have hcz13_0 : w3.cell? ⟨gb107, 0, none⟩ = some (.int .i64 a0_0) := (blk_cell BK107.out 0).trans rfl
        have hcz13_1 : w3.cell? ⟨gb107, 1, none⟩ = some (.int .i64 a0_1) := (blk_cell BK107.out 1).trans rfl
        have hcz13_2 : w3.cell? ⟨gb107, 2, none⟩ = some (.int .i64 a0_2) := (blk_cell BK107.out 2).trans rfl
        have hcz13_3 : w3.cell? ⟨gb107, 3, none⟩ = some (.int .i64 a0_3) := (blk_cell BK107.out 3).trans rfl
        have hfz13_0 := blk_frozen BK107.out 0
        have hfz13_1 := blk_frozen BK107.out 1
        have hfz13_2 := blk_frozen BK107.out 2
        have hfz13_3 := blk_frozen BK107.out 3
        go_wp2_with (first | ((with_reducible refine gate_callee (f := 34) rfl ?_); refine goesL_ (some 8) rfl rfl Tryd.func34 (by kernel_rfl) rfl #[.int .i64 a0_0, .int .i64 1, .int .i64 26] rfl (by (try simp only [List.map_toArray, List.map_cons, List.map_nil]); first | done | rfl | (simp only [List.length_drop, List.length_take]; rfl)) ?_; (with_reducible refine (spec_l1In.calls a0_0 1 26 true _ A4.out).mono ?_); rintro e w' ⟨rfl, ⟨nd, rfl⟩⟩; refine ⟨_, rfl, ?_⟩) | (go_at_call 34; (with_reducible refine (spec_l1In.calls a0_1 0 15 false _ A6.out).mono ?_); rintro e w' ⟨rfl, ⟨nd, rfl⟩⟩))
        go_meet
        case rel => exact ⟨_, (true), (by first | rfl | (simp; done) | (simp [*]; done)), H', ⟨by first | omega | exact Nat.le_refl _⟩, ⟨by (with_reducible repeat (first | refine blk_drewN ?_ _ | refine blk_drew ?_ | refine blk_alloc ?_ _)); exact BK107.out⟩, ⟨by repeat (first | (with_reducible first | exact HB.out | apply below_alloc | apply pw_below_drewN | apply below_drew1 | refine below_set ?_ GE107.out) | exact HB.out)⟩⟩
    · replace c5 := Bool.eq_false_iff.mpr c5
      subst c5
      have H1 : (spec_InsFault.j0 k true a0_0 a0_1 a0_2 a0_3) = some r := by rw [if_neg (show ¬ (false = true) by decide)] at H; exact H
      clear H
      have H := H1
      clear H1
      have H' := Aside0.mk H
      clear H
      have hcz14_0 : w3.cell? ⟨gb107, 0, none⟩ = some (.int .i64 a0_0) := (blk_cell BK107.out 0).trans rfl
      have hcz14_1 : w3.cell? ⟨gb107, 1, none⟩ = some (.int .i64 a0_1) := (blk_cell BK107.out 1).trans rfl
      have hcz14_2 : w3.cell? ⟨gb107, 2, none⟩ = some (.int .i64 a0_2) := (blk_cell BK107.out 2).trans rfl
      have hcz14_3 : w3.cell? ⟨gb107, 3, none⟩ = some (.int .i64 a0_3) := (blk_cell BK107.out 3).trans rfl
      have hfz14_0 := blk_frozen BK107.out 0
      have hfz14_1 := blk_frozen BK107.out 1
      have hfz14_2 := blk_frozen BK107.out 2
      have hfz14_3 := blk_frozen BK107.out 3
      go_wp2_with (first | ((with_reducible refine gate_callee (f := 34) rfl ?_); refine goesL_ (some 8) rfl rfl Tryd.func34 (by kernel_rfl) rfl #[.int .i64 a0_0, .int .i64 1, .int .i64 26] rfl (by (try simp only [List.map_toArray, List.map_cons, List.map_nil]); first | done | rfl | (simp only [List.length_drop, List.length_take]; rfl)) ?_; (with_reducible refine (spec_l1In.calls a0_0 1 26 false _ A4.out).mono ?_); rintro e w' ⟨rfl, ⟨nd, rfl⟩⟩; refine ⟨_, rfl, ?_⟩))
      go_meet
      case rel => exact ⟨_, (true), (by first | rfl | (simp; done) | (simp [*]; done)), H', ⟨by first | omega | exact Nat.le_refl _⟩, ⟨by (with_reducible repeat (first | refine blk_drewN ?_ _ | refine blk_drew ?_ | refine blk_alloc ?_ _)); exact BK107.out⟩, ⟨by repeat (first | (with_reducible first | exact HB.out | apply below_alloc | apply pw_below_drewN | apply below_drew1 | refine below_set ?_ GE107.out) | exact HB.out)⟩⟩
  case rest =>
    clear HC2
    try clear c1
    try clear p2
    try clear c3
    try clear c5
    try clear c7
    try clear c9
    try clear hcz11_0
    try clear hcz11_1
    try clear hcz11_2
    try clear hcz11_3
    try clear hcz12_0
    try clear hcz12_1
    try clear hcz12_2
    try clear hcz12_3
    try clear hcz13_0
    try clear hcz13_1
    try clear hcz13_2
    try clear hcz13_3
    try clear hcz14_0
    try clear hcz14_1
    try clear hcz14_2
    try clear hcz14_3
    try clear hfz11_0
    try clear hfz11_1
    try clear hfz11_2
    try clear hfz11_3
    try clear hfz12_0
    try clear hfz12_1
    try clear hfz12_2
    try clear hfz12_3
    try clear hfz13_0
    try clear hfz13_1
    try clear hfz13_2
    try clear hfz13_3
    try clear hfz14_0
    try clear hfz14_1
    try clear hfz14_2
    try clear hfz14_3
    obtain ⟨kq, x27_1, rfl, HA, HJ1, BK107, HB⟩ := hcut
    cases kq with
    | zero => exact absurd HA.out (by simp [spec_InsFault.j0])
    | succ kj1 =>
      have H := HA.out
      clear HA
      simp only [spec_InsFault.j0] at H
      by_cases c15 : x27_1 = true
      · subst c15
        have H1 : (some 3) = some r := by rw [if_pos rfl] at H; exact H
        clear H
        have H := H1
        clear H1
        obtain rfl := Option.some.inj H
        go_wp2
        go_ret
        exact ⟨by first | rfl | (simp [errW_none, errW_some] <;> rfl) | (simp [*, errW_none, errW_some] <;> rfl), by repeat (first | (with_reducible first | exact HB.out | apply below_alloc | apply pw_below_drewN | apply below_drew1 | refine below_set ?_ GE107.out) | exact HB.out)⟩
      · replace c15 := Bool.eq_false_iff.mpr c15
        subst c15
        have H1 : ((spec_l2Bare.f kj1 a0_0).bind fun bt112 => (if bt112.1 = true then (if a0_1 = 0 then (if bt112.2.1 = true then (if a0_2 = 0 then (if bt112.2.2 = true then (if a0_3 = 0 then (if a0_0 ≤ 11 then (if a0_3 > 15 then (some 1) else (if a0_0 = 21 then (if a0_3 > 10 then (some 1) else (some 0)) else (if a0_0 = 22 then (if a0_3 > 10 then (some 1) else (some 0)) else (some 0)))) else (if a0_0 = 21 then (if a0_3 > 10 then (some 1) else (some 0)) else (if a0_0 = 22 then (if a0_3 > 10 then (some 1) else (some 0)) else (some 0)))) else (some 1)) else (if a0_0 ≤ 11 then (if a0_3 > 15 then (some 1) else (if a0_0 = 21 then (if a0_3 > 10 then (some 1) else (some 0)) else (if a0_0 = 22 then (if a0_3 > 10 then (some 1) else (some 0)) else (some 0)))) else (if a0_0 = 21 then (if a0_3 > 10 then (some 1) else (some 0)) else (if a0_0 = 22 then (if a0_3 > 10 then (some 1) else (some 0)) else (some 0))))) else (some 1)) else (if bt112.2.2 = true then (if a0_3 = 0 then (if a0_0 ≤ 11 then (if a0_3 > 15 then (some 1) else (if a0_0 = 21 then (if a0_3 > 10 then (some 1) else (some 0)) else (if a0_0 = 22 then (if a0_3 > 10 then (some 1) else (some 0)) else (some 0)))) else (if a0_0 = 21 then (if a0_3 > 10 then (some 1) else (some 0)) else (if a0_0 = 22 then (if a0_3 > 10 then (some 1) else (some 0)) else (some 0)))) else (some 1)) else (if a0_0 ≤ 11 then (if a0_3 > 15 then (some 1) else (if a0_0 = 21 then (if a0_3 > 10 then (some 1) else (some 0)) else (if a0_0 = 22 then (if a0_3 > 10 then (some 1) else (some 0)) else (some 0)))) else (if a0_0 = 21 then (if a0_3 > 10 then (some 1) else (some 0)) else (if a0_0 = 22 then (if a0_3 > 10 then (some 1) else (some 0)) else (some 0)))))) else (some 1)) else (if bt112.2.1 = true then (if a0_2 = 0 then (if bt112.2.2 = true then (if a0_3 = 0 then (if a0_0 ≤ 11 then (if a0_3 > 15 then (some 1) else (if a0_0 = 21 then (if a0_3 > 10 then (some 1) else (some 0)) else (if a0_0 = 22 then (if a0_3 > 10 then (some 1) else (some 0)) else (some 0)))) else (if a0_0 = 21 then (if a0_3 > 10 then (some 1) else (some 0)) else (if a0_0 = 22 then (if a0_3 > 10 then (some 1) else (some 0)) else (some 0)))) else (some 1)) else (if a0_0 ≤ 11 then (if a0_3 > 15 then (some 1) else (if a0_0 = 21 then (if a0_3 > 10 then (some 1) else (some 0)) else (if a0_0 = 22 then (if a0_3 > 10 then (some 1) else (some 0)) else (some 0)))) else (if a0_0 = 21 then (if a0_3 > 10 then (some 1) else (some 0)) else (if a0_0 = 22 then (if a0_3 > 10 then (some 1) else (some 0)) else (some 0))))) else (some 1)) else (if bt112.2.2 = true then (if a0_3 = 0 then (if a0_0 ≤ 11 then (if a0_3 > 15 then (some 1) else (if a0_0 = 21 then (if a0_3 > 10 then (some 1) else (some 0)) else (if a0_0 = 22 then (if a0_3 > 10 then (some 1) else (some 0)) else (some 0)))) else (if a0_0 = 21 then (if a0_3 > 10 then (some 1) else (some 0)) else (if a0_0 = 22 then (if a0_3 > 10 then (some 1) else (some 0)) else (some 0)))) else (some 1)) else (if a0_0 ≤ 11 then (if a0_3 > 15 then (some 1) else (if a0_0 = 21 then (if a0_3 > 10 then (some 1) else (some 0)) else (if a0_0 = 22 then (if a0_3 > 10 then (some 1) else (some 0)) else (some 0)))) else (if a0_0 = 21 then (if a0_3 > 10 then (some 1) else (some 0)) else (if a0_0 = 22 then (if a0_3 > 10 then (some 1) else (some 0)) else (some 0)))))))) = some r := by rw [if_neg (show ¬ (false = true) by decide)] at H; exact H
        clear H
        have H := H1
        clear H1
        replace H := Option.bind_eq_some_iff.mp H
        obtain ⟨⟨t112, t113, t114⟩, A160, H⟩ := H
        replace H : (if t112 = true then (if a0_1 = 0 then (if t113 = true then (if a0_2 = 0 then (if t114 = true then (if a0_3 = 0 then (if a0_0 ≤ 11 then (if a0_3 > 15 then (some 1) else (if a0_0 = 21 then (if a0_3 > 10 then (some 1) else (some 0)) else (if a0_0 = 22 then (if a0_3 > 10 then (some 1) else (some 0)) else (some 0)))) else (if a0_0 = 21 then (if a0_3 > 10 then (some 1) else (some 0)) else (if a0_0 = 22 then (if a0_3 > 10 then (some 1) else (some 0)) else (some 0)))) else (some 1)) else (if a0_0 ≤ 11 then (if a0_3 > 15 then (some 1) else (if a0_0 = 21 then (if a0_3 > 10 then (some 1) else (some 0)) else (if a0_0 = 22 then (if a0_3 > 10 then (some 1) else (some 0)) else (some 0)))) else (if a0_0 = 21 then (if a0_3 > 10 then (some 1) else (some 0)) else (if a0_0 = 22 then (if a0_3 > 10 then (some 1) else (some 0)) else (some 0))))) else (some 1)) else (if t114 = true then (if a0_3 = 0 then (if a0_0 ≤ 11 then (if a0_3 > 15 then (some 1) else (if a0_0 = 21 then (if a0_3 > 10 then (some 1) else (some 0)) else (if a0_0 = 22 then (if a0_3 > 10 then (some 1) else (some 0)) else (some 0)))) else (if a0_0 = 21 then (if a0_3 > 10 then (some 1) else (some 0)) else (if a0_0 = 22 then (if a0_3 > 10 then (some 1) else (some 0)) else (some 0)))) else (some 1)) else (if a0_0 ≤ 11 then (if a0_3 > 15 then (some 1) else (if a0_0 = 21 then (if a0_3 > 10 then (some 1) else (some 0)) else (if a0_0 = 22 then (if a0_3 > 10 then (some 1) else (some 0)) else (some 0)))) else (if a0_0 = 21 then (if a0_3 > 10 then (some 1) else (some 0)) else (if a0_0 = 22 then (if a0_3 > 10 then (some 1) else (some 0)) else (some 0)))))) else (some 1)) else (if t113 = true then (if a0_2 = 0 then (if t114 = true then (if a0_3 = 0 then (if a0_0 ≤ 11 then (if a0_3 > 15 then (some 1) else (if a0_0 = 21 then (if a0_3 > 10 then (some 1) else (some 0)) else (if a0_0 = 22 then (if a0_3 > 10 then (some 1) else (some 0)) else (some 0)))) else (if a0_0 = 21 then (if a0_3 > 10 then (some 1) else (some 0)) else (if a0_0 = 22 then (if a0_3 > 10 then (some 1) else (some 0)) else (some 0)))) else (some 1)) else (if a0_0 ≤ 11 then (if a0_3 > 15 then (some 1) else (if a0_0 = 21 then (if a0_3 > 10 then (some 1) else (some 0)) else (if a0_0 = 22 then (if a0_3 > 10 then (some 1) else (some 0)) else (some 0)))) else (if a0_0 = 21 then (if a0_3 > 10 then (some 1) else (some 0)) else (if a0_0 = 22 then (if a0_3 > 10 then (some 1) else (some 0)) else (some 0))))) else (some 1)) else (if t114 = true then (if a0_3 = 0 then (if a0_0 ≤ 11 then (if a0_3 > 15 then (some 1) else (if a0_0 = 21 then (if a0_3 > 10 then (some 1) else (some 0)) else (if a0_0 = 22 then (if a0_3 > 10 then (some 1) else (some 0)) else (some 0)))) else (if a0_0 = 21 then (if a0_3 > 10 then (some 1) else (some 0)) else (if a0_0 = 22 then (if a0_3 > 10 then (some 1) else (some 0)) else (some 0)))) else (some 1)) else (if a0_0 ≤ 11 then (if a0_3 > 15 then (some 1) else (if a0_0 = 21 then (if a0_3 > 10 then (some 1) else (some 0)) else (if a0_0 = 22 then (if a0_3 > 10 then (some 1) else (some 0)) else (some 0)))) else (if a0_0 = 21 then (if a0_3 > 10 then (some 1) else (some 0)) else (if a0_0 = 22 then (if a0_3 > 10 then (some 1) else (some 0)) else (some 0))))))) = some r := H
        have A16 := Aside0.mk A160
        clear A160
        by_cases c17 : t112 = true
        · subst c17
          have H1 : (if a0_1 = 0 then (if t113 = true then (if a0_2 = 0 then (if t114 = true then (if a0_3 = 0 then (if a0_0 ≤ 11 then (if a0_3 > 15 then (some 1) else (if a0_0 = 21 then (if a0_3 > 10 then (some 1) else (some 0)) else (if a0_0 = 22 then (if a0_3 > 10 then (some 1) else (some 0)) else (some 0)))) else (if a0_0 = 21 then (if a0_3 > 10 then (some 1) else (some 0)) else (if a0_0 = 22 then (if a0_3 > 10 then (some 1) else (some 0)) else (some 0)))) else (some 1)) else (if a0_0 ≤ 11 then (if a0_3 > 15 then (some 1) else (if a0_0 = 21 then (if a0_3 > 10 then (some 1) else (some 0)) else (if a0_0 = 22 then (if a0_3 > 10 then (some 1) else (some 0)) else (some 0)))) else (if a0_0 = 21 then (if a0_3 > 10 then (some 1) else (some 0)) else (if a0_0 = 22 then (if a0_3 > 10 then (some 1) else (some 0)) else (some 0))))) else (some 1)) else (if t114 = true then (if a0_3 = 0 then (if a0_0 ≤ 11 then (if a0_3 > 15 then (some 1) else (if a0_0 = 21 then (if a0_3 > 10 then (some 1) else (some 0)) else (if a0_0 = 22 then (if a0_3 > 10 then (some 1) else (some 0)) else (some 0)))) else (if a0_0 = 21 then (if a0_3 > 10 then (some 1) else (some 0)) else (if a0_0 = 22 then (if a0_3 > 10 then (some 1) else (some 0)) else (some 0)))) else (some 1)) else (if a0_0 ≤ 11 then (if a0_3 > 15 then (some 1) else (if a0_0 = 21 then (if a0_3 > 10 then (some 1) else (some 0)) else (if a0_0 = 22 then (if a0_3 > 10 then (some 1) else (some 0)) else (some 0)))) else (if a0_0 = 21 then (if a0_3 > 10 then (some 1) else (some 0)) else (if a0_0 = 22 then (if a0_3 > 10 then (some 1) else (some 0)) else (some 0)))))) else (some 1)) = some r := by rw [if_pos rfl] at H; exact H
          clear H
          have H := H1
          clear H1
          by_cases c18 : a0_1 = 0
          · rw [if_pos c18] at H
            have c18b0 : (a0_1 == 0) = true := beq_iff_eq.mpr c18
            have c18b1 : (a0_1 != 0) = false := bne_eq_false_iff_eq.mpr c18
            clear c18
            by_cases c19 : t113 = true
            · subst c19
              have H1 : (if a0_2 = 0 then (if t114 = true then (if a0_3 = 0 then (if a0_0 ≤ 11 then (if a0_3 > 15 then (some 1) else (if a0_0 = 21 then (if a0_3 > 10 then (some 1) else (some 0)) else (if a0_0 = 22 then (if a0_3 > 10 then (some 1) else (some 0)) else (some 0)))) else (if a0_0 = 21 then (if a0_3 > 10 then (some 1) else (some 0)) else (if a0_0 = 22 then (if a0_3 > 10 then (some 1) else (some 0)) else (some 0)))) else (some 1)) else (if a0_0 ≤ 11 then (if a0_3 > 15 then (some 1) else (if a0_0 = 21 then (if a0_3 > 10 then (some 1) else (some 0)) else (if a0_0 = 22 then (if a0_3 > 10 then (some 1) else (some 0)) else (some 0)))) else (if a0_0 = 21 then (if a0_3 > 10 then (some 1) else (some 0)) else (if a0_0 = 22 then (if a0_3 > 10 then (some 1) else (some 0)) else (some 0))))) else (some 1)) = some r := by rw [if_pos rfl] at H; exact H
              clear H
              have H := H1
              clear H1
              by_cases c20 : a0_2 = 0
              · rw [if_pos c20] at H
                have c20b0 : (a0_2 == 0) = true := beq_iff_eq.mpr c20
                have c20b1 : (a0_2 != 0) = false := bne_eq_false_iff_eq.mpr c20
                clear c20
                by_cases c21 : t114 = true
                · subst c21
                  have H1 : (if a0_3 = 0 then (if a0_0 ≤ 11 then (if a0_3 > 15 then (some 1) else (if a0_0 = 21 then (if a0_3 > 10 then (some 1) else (some 0)) else (if a0_0 = 22 then (if a0_3 > 10 then (some 1) else (some 0)) else (some 0)))) else (if a0_0 = 21 then (if a0_3 > 10 then (some 1) else (some 0)) else (if a0_0 = 22 then (if a0_3 > 10 then (some 1) else (some 0)) else (some 0)))) else (some 1)) = some r := by rw [if_pos rfl] at H; exact H
                  clear H
                  have H := H1
                  clear H1
                  by_cases c22 : a0_3 = 0
                  · rw [if_pos c22] at H
                    have c22b0 : (a0_3 == 0) = true := beq_iff_eq.mpr c22
                    have c22b1 : (a0_3 != 0) = false := bne_eq_false_iff_eq.mpr c22
                    clear c22
                    by_cases c23 : a0_0 ≤ 11
                    · rw [if_pos c23] at H
                      have c23b0 : decide (a0_0 ≤ 11) = true := decide_eq_true c23
                      clear c23
                      by_cases c24 : a0_3 > 15
                      · rw [if_pos c24] at H
                        have c24b0 : decide (15 < a0_3) = true := decide_eq_true c24
                        clear c24
                        obtain rfl := Option.some.inj H
                        have hcz25_0 : wc.cell? ⟨gb107, 0, none⟩ = some (.int .i64 a0_0) := (blk_cell BK107.out 0).trans rfl
                        have hcz25_1 : wc.cell? ⟨gb107, 1, none⟩ = some (.int .i64 a0_1) := (blk_cell BK107.out 1).trans rfl
                        have hcz25_2 : wc.cell? ⟨gb107, 2, none⟩ = some (.int .i64 a0_2) := (blk_cell BK107.out 2).trans rfl
                        have hcz25_3 : wc.cell? ⟨gb107, 3, none⟩ = some (.int .i64 a0_3) := (blk_cell BK107.out 3).trans rfl
                        have hfz25_0 := blk_frozen BK107.out 0
                        have hfz25_1 := blk_frozen BK107.out 1
                        have hfz25_2 := blk_frozen BK107.out 2
                        have hfz25_3 := blk_frozen BK107.out 3
                        go_wp2_with (first | ((with_reducible refine gate_callee (f := 21) rfl ?_); refine goesL_ (some 31) rfl rfl Tryd.func21 (by kernel_rfl) rfl #[.int .i64 a0_0] rfl (by (try simp only [List.map_toArray, List.map_cons, List.map_nil]); first | done | rfl | (simp only [List.length_drop, List.length_take]; rfl)) ?_; (with_reducible refine (spec_l2Bare.calls kj1 a0_0 true true true _ A16.out).mono ?_); rintro e w' ⟨rfl, ⟨nd, rfl⟩⟩; refine ⟨_, rfl, ?_⟩))
                        go_ret
                        exact ⟨by first | rfl | (simp [errW_none, errW_some] <;> rfl) | (simp [*, errW_none, errW_some] <;> rfl), by repeat (first | (with_reducible first | exact HB.out | apply below_alloc | apply pw_below_drewN | apply below_drew1 | refine below_set ?_ GE107.out) | exact HB.out)⟩
                      · rw [if_neg c24] at H
                        have c24b0 : decide (15 < a0_3) = false := decide_eq_false c24
                        clear c24
                        by_cases c26 : a0_0 = 21
                        · rw [if_pos c26] at H
                          have c26b0 : (a0_0 == 21) = true := beq_iff_eq.mpr c26
                          have c26b1 : (a0_0 != 21) = false := bne_eq_false_iff_eq.mpr c26
                          clear c26
                          by_cases c27 : a0_3 > 10
                          · rw [if_pos c27] at H
                            have c27b0 : decide (10 < a0_3) = true := decide_eq_true c27
                            clear c27
                            obtain rfl := Option.some.inj H
                            have hcz28_0 : wc.cell? ⟨gb107, 0, none⟩ = some (.int .i64 a0_0) := (blk_cell BK107.out 0).trans rfl
                            have hcz28_1 : wc.cell? ⟨gb107, 1, none⟩ = some (.int .i64 a0_1) := (blk_cell BK107.out 1).trans rfl
                            have hcz28_2 : wc.cell? ⟨gb107, 2, none⟩ = some (.int .i64 a0_2) := (blk_cell BK107.out 2).trans rfl
                            have hcz28_3 : wc.cell? ⟨gb107, 3, none⟩ = some (.int .i64 a0_3) := (blk_cell BK107.out 3).trans rfl
                            have hfz28_0 := blk_frozen BK107.out 0
                            have hfz28_1 := blk_frozen BK107.out 1
                            have hfz28_2 := blk_frozen BK107.out 2
                            have hfz28_3 := blk_frozen BK107.out 3
                            go_wp2_with (first | ((with_reducible refine gate_callee (f := 21) rfl ?_); refine goesL_ (some 31) rfl rfl Tryd.func21 (by kernel_rfl) rfl #[.int .i64 a0_0] rfl (by (try simp only [List.map_toArray, List.map_cons, List.map_nil]); first | done | rfl | (simp only [List.length_drop, List.length_take]; rfl)) ?_; (with_reducible refine (spec_l2Bare.calls kj1 a0_0 true true true _ A16.out).mono ?_); rintro e w' ⟨rfl, ⟨nd, rfl⟩⟩; refine ⟨_, rfl, ?_⟩))
                            go_ret
                            exact ⟨by first | rfl | (simp [errW_none, errW_some] <;> rfl) | (simp [*, errW_none, errW_some] <;> rfl), by repeat (first | (with_reducible first | exact HB.out | apply below_alloc | apply pw_below_drewN | apply below_drew1 | refine below_set ?_ GE107.out) | exact HB.out)⟩
                          · rw [if_neg c27] at H
                            have c27b0 : decide (10 < a0_3) = false := decide_eq_false c27
                            clear c27
                            obtain rfl := Option.some.inj H
                            have hcz29_0 : wc.cell? ⟨gb107, 0, none⟩ = some (.int .i64 a0_0) := (blk_cell BK107.out 0).trans rfl
                            have hcz29_1 : wc.cell? ⟨gb107, 1, none⟩ = some (.int .i64 a0_1) := (blk_cell BK107.out 1).trans rfl
                            have hcz29_2 : wc.cell? ⟨gb107, 2, none⟩ = some (.int .i64 a0_2) := (blk_cell BK107.out 2).trans rfl
                            have hcz29_3 : wc.cell? ⟨gb107, 3, none⟩ = some (.int .i64 a0_3) := (blk_cell BK107.out 3).trans rfl
                            have hfz29_0 := blk_frozen BK107.out 0
                            have hfz29_1 := blk_frozen BK107.out 1
                            have hfz29_2 := blk_frozen BK107.out 2
                            have hfz29_3 := blk_frozen BK107.out 3
                            go_wp2_with (first | ((with_reducible refine gate_callee (f := 21) rfl ?_); refine goesL_ (some 31) rfl rfl Tryd.func21 (by kernel_rfl) rfl #[.int .i64 a0_0] rfl (by (try simp only [List.map_toArray, List.map_cons, List.map_nil]); first | done | rfl | (simp only [List.length_drop, List.length_take]; rfl)) ?_; (with_reducible refine (spec_l2Bare.calls kj1 a0_0 true true true _ A16.out).mono ?_); rintro e w' ⟨rfl, ⟨nd, rfl⟩⟩; refine ⟨_, rfl, ?_⟩))
                            go_ret
                            exact ⟨by first | rfl | (simp [errW_none, errW_some] <;> rfl) | (simp [*, errW_none, errW_some] <;> rfl), by repeat (first | (with_reducible first | exact HB.out | apply below_alloc | apply pw_below_drewN | apply below_drew1 | refine below_set ?_ GE107.out) | exact HB.out)⟩
                        · rw [if_neg c26] at H
                          have c26b0 : (a0_0 == 21) = false := beq_eq_false_iff_ne.mpr c26
                          have c26b1 : (a0_0 != 21) = true := bne_iff_ne.mpr c26
                          by_cases c30 : a0_0 = 22
                          · rw [if_pos c30] at H
                            have c30b0 : (a0_0 == 22) = true := beq_iff_eq.mpr c30
                            have c30b1 : (a0_0 != 22) = false := bne_eq_false_iff_eq.mpr c30
                            clear c30
                            by_cases c31 : a0_3 > 10
                            · rw [if_pos c31] at H
                              have c31b0 : decide (10 < a0_3) = true := decide_eq_true c31
                              clear c31
                              obtain rfl := Option.some.inj H
                              have hcz32_0 : wc.cell? ⟨gb107, 0, none⟩ = some (.int .i64 a0_0) := (blk_cell BK107.out 0).trans rfl
                              have hcz32_1 : wc.cell? ⟨gb107, 1, none⟩ = some (.int .i64 a0_1) := (blk_cell BK107.out 1).trans rfl
                              have hcz32_2 : wc.cell? ⟨gb107, 2, none⟩ = some (.int .i64 a0_2) := (blk_cell BK107.out 2).trans rfl
                              have hcz32_3 : wc.cell? ⟨gb107, 3, none⟩ = some (.int .i64 a0_3) := (blk_cell BK107.out 3).trans rfl
                              have hfz32_0 := blk_frozen BK107.out 0
                              have hfz32_1 := blk_frozen BK107.out 1
                              have hfz32_2 := blk_frozen BK107.out 2
                              have hfz32_3 := blk_frozen BK107.out 3
                              go_wp2_with (first | ((with_reducible refine gate_callee (f := 21) rfl ?_); refine goesL_ (some 31) rfl rfl Tryd.func21 (by kernel_rfl) rfl #[.int .i64 a0_0] rfl (by (try simp only [List.map_toArray, List.map_cons, List.map_nil]); first | done | rfl | (simp only [List.length_drop, List.length_take]; rfl)) ?_; (with_reducible refine (spec_l2Bare.calls kj1 a0_0 true true true _ A16.out).mono ?_); rintro e w' ⟨rfl, ⟨nd, rfl⟩⟩; refine ⟨_, rfl, ?_⟩))
                              go_ret
                              exact ⟨by first | rfl | (simp [errW_none, errW_some] <;> rfl) | (simp [*, errW_none, errW_some] <;> rfl), by repeat (first | (with_reducible first | exact HB.out | apply below_alloc | apply pw_below_drewN | apply below_drew1 | refine below_set ?_ GE107.out) | exact HB.out)⟩
                            · rw [if_neg c31] at H
                              have c31b0 : decide (10 < a0_3) = false := decide_eq_false c31
                              clear c31
                              obtain rfl := Option.some.inj H
                              have hcz33_0 : wc.cell? ⟨gb107, 0, none⟩ = some (.int .i64 a0_0) := (blk_cell BK107.out 0).trans rfl
                              have hcz33_1 : wc.cell? ⟨gb107, 1, none⟩ = some (.int .i64 a0_1) := (blk_cell BK107.out 1).trans rfl
                              have hcz33_2 : wc.cell? ⟨gb107, 2, none⟩ = some (.int .i64 a0_2) := (blk_cell BK107.out 2).trans rfl
                              have hcz33_3 : wc.cell? ⟨gb107, 3, none⟩ = some (.int .i64 a0_3) := (blk_cell BK107.out 3).trans rfl
                              have hfz33_0 := blk_frozen BK107.out 0
                              have hfz33_1 := blk_frozen BK107.out 1
                              have hfz33_2 := blk_frozen BK107.out 2
                              have hfz33_3 := blk_frozen BK107.out 3
                              go_wp2_with (first | ((with_reducible refine gate_callee (f := 21) rfl ?_); refine goesL_ (some 31) rfl rfl Tryd.func21 (by kernel_rfl) rfl #[.int .i64 a0_0] rfl (by (try simp only [List.map_toArray, List.map_cons, List.map_nil]); first | done | rfl | (simp only [List.length_drop, List.length_take]; rfl)) ?_; (with_reducible refine (spec_l2Bare.calls kj1 a0_0 true true true _ A16.out).mono ?_); rintro e w' ⟨rfl, ⟨nd, rfl⟩⟩; refine ⟨_, rfl, ?_⟩))
                              go_ret
                              exact ⟨by first | rfl | (simp [errW_none, errW_some] <;> rfl) | (simp [*, errW_none, errW_some] <;> rfl), by repeat (first | (with_reducible first | exact HB.out | apply below_alloc | apply pw_below_drewN | apply below_drew1 | refine below_set ?_ GE107.out) | exact HB.out)⟩
                          · rw [if_neg c30] at H
                            have c30b0 : (a0_0 == 22) = false := beq_eq_false_iff_ne.mpr c30
                            have c30b1 : (a0_0 != 22) = true := bne_iff_ne.mpr c30
                            obtain rfl := Option.some.inj H
                            have hcz34_0 : wc.cell? ⟨gb107, 0, none⟩ = some (.int .i64 a0_0) := (blk_cell BK107.out 0).trans rfl
                            have hcz34_1 : wc.cell? ⟨gb107, 1, none⟩ = some (.int .i64 a0_1) := (blk_cell BK107.out 1).trans rfl
                            have hcz34_2 : wc.cell? ⟨gb107, 2, none⟩ = some (.int .i64 a0_2) := (blk_cell BK107.out 2).trans rfl
                            have hcz34_3 : wc.cell? ⟨gb107, 3, none⟩ = some (.int .i64 a0_3) := (blk_cell BK107.out 3).trans rfl
                            have hfz34_0 := blk_frozen BK107.out 0
                            have hfz34_1 := blk_frozen BK107.out 1
                            have hfz34_2 := blk_frozen BK107.out 2
                            have hfz34_3 := blk_frozen BK107.out 3
                            go_wp2_with (first | ((with_reducible refine gate_callee (f := 21) rfl ?_); refine goesL_ (some 31) rfl rfl Tryd.func21 (by kernel_rfl) rfl #[.int .i64 a0_0] rfl (by (try simp only [List.map_toArray, List.map_cons, List.map_nil]); first | done | rfl | (simp only [List.length_drop, List.length_take]; rfl)) ?_; (with_reducible refine (spec_l2Bare.calls kj1 a0_0 true true true _ A16.out).mono ?_); rintro e w' ⟨rfl, ⟨nd, rfl⟩⟩; refine ⟨_, rfl, ?_⟩))
                            go_ret
                            exact ⟨by first | rfl | (simp [errW_none, errW_some] <;> rfl) | (simp [*, errW_none, errW_some] <;> rfl), by repeat (first | (with_reducible first | exact HB.out | apply below_alloc | apply pw_below_drewN | apply below_drew1 | refine below_set ?_ GE107.out) | exact HB.out)⟩
                    · rw [if_neg c23] at H
                      have c23b0 : decide (a0_0 ≤ 11) = false := decide_eq_false c23
                      clear c23
                      by_cases c35 : a0_0 = 21
                      · rw [if_pos c35] at H
                        have c35b0 : (a0_0 == 21) = true := beq_iff_eq.mpr c35
                        have c35b1 : (a0_0 != 21) = false := bne_eq_false_iff_eq.mpr c35
                        clear c35
                        by_cases c36 : a0_3 > 10
                        · rw [if_pos c36] at H
                          have c36b0 : decide (10 < a0_3) = true := decide_eq_true c36
                          clear c36
                          obtain rfl := Option.some.inj H
                          have hcz37_0 : wc.cell? ⟨gb107, 0, none⟩ = some (.int .i64 a0_0) := (blk_cell BK107.out 0).trans rfl
                          have hcz37_1 : wc.cell? ⟨gb107, 1, none⟩ = some (.int .i64 a0_1) := (blk_cell BK107.out 1).trans rfl
                          have hcz37_2 : wc.cell? ⟨gb107, 2, none⟩ = some (.int .i64 a0_2) := (blk_cell BK107.out 2).trans rfl
                          have hcz37_3 : wc.cell? ⟨gb107, 3, none⟩ = some (.int .i64 a0_3) := (blk_cell BK107.out 3).trans rfl
                          have hfz37_0 := blk_frozen BK107.out 0
                          have hfz37_1 := blk_frozen BK107.out 1
                          have hfz37_2 := blk_frozen BK107.out 2
                          have hfz37_3 := blk_frozen BK107.out 3
                          go_wp2_with (first | ((with_reducible refine gate_callee (f := 21) rfl ?_); refine goesL_ (some 31) rfl rfl Tryd.func21 (by kernel_rfl) rfl #[.int .i64 a0_0] rfl (by (try simp only [List.map_toArray, List.map_cons, List.map_nil]); first | done | rfl | (simp only [List.length_drop, List.length_take]; rfl)) ?_; (with_reducible refine (spec_l2Bare.calls kj1 a0_0 true true true _ A16.out).mono ?_); rintro e w' ⟨rfl, ⟨nd, rfl⟩⟩; refine ⟨_, rfl, ?_⟩))
                          go_ret
                          exact ⟨by first | rfl | (simp [errW_none, errW_some] <;> rfl) | (simp [*, errW_none, errW_some] <;> rfl), by repeat (first | (with_reducible first | exact HB.out | apply below_alloc | apply pw_below_drewN | apply below_drew1 | refine below_set ?_ GE107.out) | exact HB.out)⟩
                        · rw [if_neg c36] at H
                          have c36b0 : decide (10 < a0_3) = false := decide_eq_false c36
                          clear c36
                          obtain rfl := Option.some.inj H
                          have hcz38_0 : wc.cell? ⟨gb107, 0, none⟩ = some (.int .i64 a0_0) := (blk_cell BK107.out 0).trans rfl
                          have hcz38_1 : wc.cell? ⟨gb107, 1, none⟩ = some (.int .i64 a0_1) := (blk_cell BK107.out 1).trans rfl
                          have hcz38_2 : wc.cell? ⟨gb107, 2, none⟩ = some (.int .i64 a0_2) := (blk_cell BK107.out 2).trans rfl
                          have hcz38_3 : wc.cell? ⟨gb107, 3, none⟩ = some (.int .i64 a0_3) := (blk_cell BK107.out 3).trans rfl
                          have hfz38_0 := blk_frozen BK107.out 0
                          have hfz38_1 := blk_frozen BK107.out 1
                          have hfz38_2 := blk_frozen BK107.out 2
                          have hfz38_3 := blk_frozen BK107.out 3
                          go_wp2_with (first | ((with_reducible refine gate_callee (f := 21) rfl ?_); refine goesL_ (some 31) rfl rfl Tryd.func21 (by kernel_rfl) rfl #[.int .i64 a0_0] rfl (by (try simp only [List.map_toArray, List.map_cons, List.map_nil]); first | done | rfl | (simp only [List.length_drop, List.length_take]; rfl)) ?_; (with_reducible refine (spec_l2Bare.calls kj1 a0_0 true true true _ A16.out).mono ?_); rintro e w' ⟨rfl, ⟨nd, rfl⟩⟩; refine ⟨_, rfl, ?_⟩))
                          go_ret
                          exact ⟨by first | rfl | (simp [errW_none, errW_some] <;> rfl) | (simp [*, errW_none, errW_some] <;> rfl), by repeat (first | (with_reducible first | exact HB.out | apply below_alloc | apply pw_below_drewN | apply below_drew1 | refine below_set ?_ GE107.out) | exact HB.out)⟩
                      · rw [if_neg c35] at H
                        have c35b0 : (a0_0 == 21) = false := beq_eq_false_iff_ne.mpr c35
                        have c35b1 : (a0_0 != 21) = true := bne_iff_ne.mpr c35
                        by_cases c39 : a0_0 = 22
                        · rw [if_pos c39] at H
                          have c39b0 : (a0_0 == 22) = true := beq_iff_eq.mpr c39
                          have c39b1 : (a0_0 != 22) = false := bne_eq_false_iff_eq.mpr c39
                          clear c39
                          by_cases c40 : a0_3 > 10
                          · rw [if_pos c40] at H
                            have c40b0 : decide (10 < a0_3) = true := decide_eq_true c40
                            clear c40
                            obtain rfl := Option.some.inj H
                            have hcz41_0 : wc.cell? ⟨gb107, 0, none⟩ = some (.int .i64 a0_0) := (blk_cell BK107.out 0).trans rfl
                            have hcz41_1 : wc.cell? ⟨gb107, 1, none⟩ = some (.int .i64 a0_1) := (blk_cell BK107.out 1).trans rfl
                            have hcz41_2 : wc.cell? ⟨gb107, 2, none⟩ = some (.int .i64 a0_2) := (blk_cell BK107.out 2).trans rfl
                            have hcz41_3 : wc.cell? ⟨gb107, 3, none⟩ = some (.int .i64 a0_3) := (blk_cell BK107.out 3).trans rfl
                            have hfz41_0 := blk_frozen BK107.out 0
                            have hfz41_1 := blk_frozen BK107.out 1
                            have hfz41_2 := blk_frozen BK107.out 2
                            have hfz41_3 := blk_frozen BK107.out 3
                            go_wp2_with (first | ((with_reducible refine gate_callee (f := 21) rfl ?_); refine goesL_ (some 31) rfl rfl Tryd.func21 (by kernel_rfl) rfl #[.int .i64 a0_0] rfl (by (try simp only [List.map_toArray, List.map_cons, List.map_nil]); first | done | rfl | (simp only [List.length_drop, List.length_take]; rfl)) ?_; (with_reducible refine (spec_l2Bare.calls kj1 a0_0 true true true _ A16.out).mono ?_); rintro e w' ⟨rfl, ⟨nd, rfl⟩⟩; refine ⟨_, rfl, ?_⟩))
                            go_ret
                            exact ⟨by first | rfl | (simp [errW_none, errW_some] <;> rfl) | (simp [*, errW_none, errW_some] <;> rfl), by repeat (first | (with_reducible first | exact HB.out | apply below_alloc | apply pw_below_drewN | apply below_drew1 | refine below_set ?_ GE107.out) | exact HB.out)⟩
                          · rw [if_neg c40] at H
                            have c40b0 : decide (10 < a0_3) = false := decide_eq_false c40
                            clear c40
                            obtain rfl := Option.some.inj H
                            have hcz42_0 : wc.cell? ⟨gb107, 0, none⟩ = some (.int .i64 a0_0) := (blk_cell BK107.out 0).trans rfl
                            have hcz42_1 : wc.cell? ⟨gb107, 1, none⟩ = some (.int .i64 a0_1) := (blk_cell BK107.out 1).trans rfl
                            have hcz42_2 : wc.cell? ⟨gb107, 2, none⟩ = some (.int .i64 a0_2) := (blk_cell BK107.out 2).trans rfl
                            have hcz42_3 : wc.cell? ⟨gb107, 3, none⟩ = some (.int .i64 a0_3) := (blk_cell BK107.out 3).trans rfl
                            have hfz42_0 := blk_frozen BK107.out 0
                            have hfz42_1 := blk_frozen BK107.out 1
                            have hfz42_2 := blk_frozen BK107.out 2
                            have hfz42_3 := blk_frozen BK107.out 3
                            go_wp2_with (first | ((with_reducible refine gate_callee (f := 21) rfl ?_); refine goesL_ (some 31) rfl rfl Tryd.func21 (by kernel_rfl) rfl #[.int .i64 a0_0] rfl (by (try simp only [List.map_toArray, List.map_cons, List.map_nil]); first | done | rfl | (simp only [List.length_drop, List.length_take]; rfl)) ?_; (with_reducible refine (spec_l2Bare.calls kj1 a0_0 true true true _ A16.out).mono ?_); rintro e w' ⟨rfl, ⟨nd, rfl⟩⟩; refine ⟨_, rfl, ?_⟩))
                            go_ret
                            exact ⟨by first | rfl | (simp [errW_none, errW_some] <;> rfl) | (simp [*, errW_none, errW_some] <;> rfl), by repeat (first | (with_reducible first | exact HB.out | apply below_alloc | apply pw_below_drewN | apply below_drew1 | refine below_set ?_ GE107.out) | exact HB.out)⟩
                        · rw [if_neg c39] at H
                          have c39b0 : (a0_0 == 22) = false := beq_eq_false_iff_ne.mpr c39
                          have c39b1 : (a0_0 != 22) = true := bne_iff_ne.mpr c39
                          obtain rfl := Option.some.inj H
                          have hcz43_0 : wc.cell? ⟨gb107, 0, none⟩ = some (.int .i64 a0_0) := (blk_cell BK107.out 0).trans rfl
                          have hcz43_1 : wc.cell? ⟨gb107, 1, none⟩ = some (.int .i64 a0_1) := (blk_cell BK107.out 1).trans rfl
                          have hcz43_2 : wc.cell? ⟨gb107, 2, none⟩ = some (.int .i64 a0_2) := (blk_cell BK107.out 2).trans rfl
                          have hcz43_3 : wc.cell? ⟨gb107, 3, none⟩ = some (.int .i64 a0_3) := (blk_cell BK107.out 3).trans rfl
                          have hfz43_0 := blk_frozen BK107.out 0
                          have hfz43_1 := blk_frozen BK107.out 1
                          have hfz43_2 := blk_frozen BK107.out 2
                          have hfz43_3 := blk_frozen BK107.out 3
                          go_wp2_with (first | ((with_reducible refine gate_callee (f := 21) rfl ?_); refine goesL_ (some 31) rfl rfl Tryd.func21 (by kernel_rfl) rfl #[.int .i64 a0_0] rfl (by (try simp only [List.map_toArray, List.map_cons, List.map_nil]); first | done | rfl | (simp only [List.length_drop, List.length_take]; rfl)) ?_; (with_reducible refine (spec_l2Bare.calls kj1 a0_0 true true true _ A16.out).mono ?_); rintro e w' ⟨rfl, ⟨nd, rfl⟩⟩; refine ⟨_, rfl, ?_⟩))
                          go_ret
                          exact ⟨by first | rfl | (simp [errW_none, errW_some] <;> rfl) | (simp [*, errW_none, errW_some] <;> rfl), by repeat (first | (with_reducible first | exact HB.out | apply below_alloc | apply pw_below_drewN | apply below_drew1 | refine below_set ?_ GE107.out) | exact HB.out)⟩
                  · rw [if_neg c22] at H
                    have c22b0 : (a0_3 == 0) = false := beq_eq_false_iff_ne.mpr c22
                    have c22b1 : (a0_3 != 0) = true := bne_iff_ne.mpr c22
                    obtain rfl := Option.some.inj H
                    have hcz44_0 : wc.cell? ⟨gb107, 0, none⟩ = some (.int .i64 a0_0) := (blk_cell BK107.out 0).trans rfl
                    have hcz44_1 : wc.cell? ⟨gb107, 1, none⟩ = some (.int .i64 a0_1) := (blk_cell BK107.out 1).trans rfl
                    have hcz44_2 : wc.cell? ⟨gb107, 2, none⟩ = some (.int .i64 a0_2) := (blk_cell BK107.out 2).trans rfl
                    have hcz44_3 : wc.cell? ⟨gb107, 3, none⟩ = some (.int .i64 a0_3) := (blk_cell BK107.out 3).trans rfl
                    have hfz44_0 := blk_frozen BK107.out 0
                    have hfz44_1 := blk_frozen BK107.out 1
                    have hfz44_2 := blk_frozen BK107.out 2
                    have hfz44_3 := blk_frozen BK107.out 3
                    go_wp2_with (first | ((with_reducible refine gate_callee (f := 21) rfl ?_); refine goesL_ (some 31) rfl rfl Tryd.func21 (by kernel_rfl) rfl #[.int .i64 a0_0] rfl (by (try simp only [List.map_toArray, List.map_cons, List.map_nil]); first | done | rfl | (simp only [List.length_drop, List.length_take]; rfl)) ?_; (with_reducible refine (spec_l2Bare.calls kj1 a0_0 true true true _ A16.out).mono ?_); rintro e w' ⟨rfl, ⟨nd, rfl⟩⟩; refine ⟨_, rfl, ?_⟩))
                    go_ret
                    exact ⟨by first | rfl | (simp [errW_none, errW_some] <;> rfl) | (simp [*, errW_none, errW_some] <;> rfl), by repeat (first | (with_reducible first | exact HB.out | apply below_alloc | apply pw_below_drewN | apply below_drew1 | refine below_set ?_ GE107.out) | exact HB.out)⟩
                · replace c21 := Bool.eq_false_iff.mpr c21
                  subst c21
                  have H1 : (if a0_0 ≤ 11 then (if a0_3 > 15 then (some 1) else (if a0_0 = 21 then (if a0_3 > 10 then (some 1) else (some 0)) else (if a0_0 = 22 then (if a0_3 > 10 then (some 1) else (some 0)) else (some 0)))) else (if a0_0 = 21 then (if a0_3 > 10 then (some 1) else (some 0)) else (if a0_0 = 22 then (if a0_3 > 10 then (some 1) else (some 0)) else (some 0)))) = some r := by rw [if_neg (show ¬ (false = true) by decide)] at H; exact H
                  clear H
                  have H := H1
                  clear H1
                  by_cases c45 : a0_0 ≤ 11
                  · rw [if_pos c45] at H
                    have c45b0 : decide (a0_0 ≤ 11) = true := decide_eq_true c45
                    clear c45
                    by_cases c46 : a0_3 > 15
                    · rw [if_pos c46] at H
                      have c46b0 : decide (15 < a0_3) = true := decide_eq_true c46
                      clear c46
                      obtain rfl := Option.some.inj H
                      have hcz47_0 : wc.cell? ⟨gb107, 0, none⟩ = some (.int .i64 a0_0) := (blk_cell BK107.out 0).trans rfl
                      have hcz47_1 : wc.cell? ⟨gb107, 1, none⟩ = some (.int .i64 a0_1) := (blk_cell BK107.out 1).trans rfl
                      have hcz47_2 : wc.cell? ⟨gb107, 2, none⟩ = some (.int .i64 a0_2) := (blk_cell BK107.out 2).trans rfl
                      have hcz47_3 : wc.cell? ⟨gb107, 3, none⟩ = some (.int .i64 a0_3) := (blk_cell BK107.out 3).trans rfl
                      have hfz47_0 := blk_frozen BK107.out 0
                      have hfz47_1 := blk_frozen BK107.out 1
                      have hfz47_2 := blk_frozen BK107.out 2
                      have hfz47_3 := blk_frozen BK107.out 3
                      go_wp2_with (first | ((with_reducible refine gate_callee (f := 21) rfl ?_); refine goesL_ (some 31) rfl rfl Tryd.func21 (by kernel_rfl) rfl #[.int .i64 a0_0] rfl (by (try simp only [List.map_toArray, List.map_cons, List.map_nil]); first | done | rfl | (simp only [List.length_drop, List.length_take]; rfl)) ?_; (with_reducible refine (spec_l2Bare.calls kj1 a0_0 true true false _ A16.out).mono ?_); rintro e w' ⟨rfl, ⟨nd, rfl⟩⟩; refine ⟨_, rfl, ?_⟩))
                      go_ret
                      exact ⟨by first | rfl | (simp [errW_none, errW_some] <;> rfl) | (simp [*, errW_none, errW_some] <;> rfl), by repeat (first | (with_reducible first | exact HB.out | apply below_alloc | apply pw_below_drewN | apply below_drew1 | refine below_set ?_ GE107.out) | exact HB.out)⟩
                    · rw [if_neg c46] at H
                      have c46b0 : decide (15 < a0_3) = false := decide_eq_false c46
                      clear c46
                      by_cases c48 : a0_0 = 21
                      · rw [if_pos c48] at H
                        have c48b0 : (a0_0 == 21) = true := beq_iff_eq.mpr c48
                        have c48b1 : (a0_0 != 21) = false := bne_eq_false_iff_eq.mpr c48
                        clear c48
                        by_cases c49 : a0_3 > 10
                        · rw [if_pos c49] at H
                          have c49b0 : decide (10 < a0_3) = true := decide_eq_true c49
                          clear c49
                          obtain rfl := Option.some.inj H
                          have hcz50_0 : wc.cell? ⟨gb107, 0, none⟩ = some (.int .i64 a0_0) := (blk_cell BK107.out 0).trans rfl
                          have hcz50_1 : wc.cell? ⟨gb107, 1, none⟩ = some (.int .i64 a0_1) := (blk_cell BK107.out 1).trans rfl
                          have hcz50_2 : wc.cell? ⟨gb107, 2, none⟩ = some (.int .i64 a0_2) := (blk_cell BK107.out 2).trans rfl
                          have hcz50_3 : wc.cell? ⟨gb107, 3, none⟩ = some (.int .i64 a0_3) := (blk_cell BK107.out 3).trans rfl
                          have hfz50_0 := blk_frozen BK107.out 0
                          have hfz50_1 := blk_frozen BK107.out 1
                          have hfz50_2 := blk_frozen BK107.out 2
                          have hfz50_3 := blk_frozen BK107.out 3
                          go_wp2_with (first | ((with_reducible refine gate_callee (f := 21) rfl ?_); refine goesL_ (some 31) rfl rfl Tryd.func21 (by kernel_rfl) rfl #[.int .i64 a0_0] rfl (by (try simp only [List.map_toArray, List.map_cons, List.map_nil]); first | done | rfl | (simp only [List.length_drop, List.length_take]; rfl)) ?_; (with_reducible refine (spec_l2Bare.calls kj1 a0_0 true true false _ A16.out).mono ?_); rintro e w' ⟨rfl, ⟨nd, rfl⟩⟩; refine ⟨_, rfl, ?_⟩))
                          go_ret
                          exact ⟨by first | rfl | (simp [errW_none, errW_some] <;> rfl) | (simp [*, errW_none, errW_some] <;> rfl), by repeat (first | (with_reducible first | exact HB.out | apply below_alloc | apply pw_below_drewN | apply below_drew1 | refine below_set ?_ GE107.out) | exact HB.out)⟩
                        · rw [if_neg c49] at H
                          have c49b0 : decide (10 < a0_3) = false := decide_eq_false c49
                          clear c49
                          obtain rfl := Option.some.inj H
                          have hcz51_0 : wc.cell? ⟨gb107, 0, none⟩ = some (.int .i64 a0_0) := (blk_cell BK107.out 0).trans rfl
                          have hcz51_1 : wc.cell? ⟨gb107, 1, none⟩ = some (.int .i64 a0_1) := (blk_cell BK107.out 1).trans rfl
                          have hcz51_2 : wc.cell? ⟨gb107, 2, none⟩ = some (.int .i64 a0_2) := (blk_cell BK107.out 2).trans rfl
                          have hcz51_3 : wc.cell? ⟨gb107, 3, none⟩ = some (.int .i64 a0_3) := (blk_cell BK107.out 3).trans rfl
                          have hfz51_0 := blk_frozen BK107.out 0
                          have hfz51_1 := blk_frozen BK107.out 1
                          have hfz51_2 := blk_frozen BK107.out 2
                          have hfz51_3 := blk_frozen BK107.out 3
                          go_wp2_with (first | ((with_reducible refine gate_callee (f := 21) rfl ?_); refine goesL_ (some 31) rfl rfl Tryd.func21 (by kernel_rfl) rfl #[.int .i64 a0_0] rfl (by (try simp only [List.map_toArray, List.map_cons, List.map_nil]); first | done | rfl | (simp only [List.length_drop, List.length_take]; rfl)) ?_; (with_reducible refine (spec_l2Bare.calls kj1 a0_0 true true false _ A16.out).mono ?_); rintro e w' ⟨rfl, ⟨nd, rfl⟩⟩; refine ⟨_, rfl, ?_⟩))
                          go_ret
                          exact ⟨by first | rfl | (simp [errW_none, errW_some] <;> rfl) | (simp [*, errW_none, errW_some] <;> rfl), by repeat (first | (with_reducible first | exact HB.out | apply below_alloc | apply pw_below_drewN | apply below_drew1 | refine below_set ?_ GE107.out) | exact HB.out)⟩
                      · rw [if_neg c48] at H
                        have c48b0 : (a0_0 == 21) = false := beq_eq_false_iff_ne.mpr c48
                        have c48b1 : (a0_0 != 21) = true := bne_iff_ne.mpr c48
                        by_cases c52 : a0_0 = 22
                        · rw [if_pos c52] at H
                          have c52b0 : (a0_0 == 22) = true := beq_iff_eq.mpr c52
                          have c52b1 : (a0_0 != 22) = false := bne_eq_false_iff_eq.mpr c52
                          clear c52
                          by_cases c53 : a0_3 > 10
                          · rw [if_pos c53] at H
                            have c53b0 : decide (10 < a0_3) = true := decide_eq_true c53
                            clear c53
                            obtain rfl := Option.some.inj H
                            have hcz54_0 : wc.cell? ⟨gb107, 0, none⟩ = some (.int .i64 a0_0) := (blk_cell BK107.out 0).trans rfl
                            have hcz54_1 : wc.cell? ⟨gb107, 1, none⟩ = some (.int .i64 a0_1) := (blk_cell BK107.out 1).trans rfl
                            have hcz54_2 : wc.cell? ⟨gb107, 2, none⟩ = some (.int .i64 a0_2) := (blk_cell BK107.out 2).trans rfl
                            have hcz54_3 : wc.cell? ⟨gb107, 3, none⟩ = some (.int .i64 a0_3) := (blk_cell BK107.out 3).trans rfl
                            have hfz54_0 := blk_frozen BK107.out 0
                            have hfz54_1 := blk_frozen BK107.out 1
                            have hfz54_2 := blk_frozen BK107.out 2
                            have hfz54_3 := blk_frozen BK107.out 3
                            go_wp2_with (first | ((with_reducible refine gate_callee (f := 21) rfl ?_); refine goesL_ (some 31) rfl rfl Tryd.func21 (by kernel_rfl) rfl #[.int .i64 a0_0] rfl (by (try simp only [List.map_toArray, List.map_cons, List.map_nil]); first | done | rfl | (simp only [List.length_drop, List.length_take]; rfl)) ?_; (with_reducible refine (spec_l2Bare.calls kj1 a0_0 true true false _ A16.out).mono ?_); rintro e w' ⟨rfl, ⟨nd, rfl⟩⟩; refine ⟨_, rfl, ?_⟩))
                            go_ret
                            exact ⟨by first | rfl | (simp [errW_none, errW_some] <;> rfl) | (simp [*, errW_none, errW_some] <;> rfl), by repeat (first | (with_reducible first | exact HB.out | apply below_alloc | apply pw_below_drewN | apply below_drew1 | refine below_set ?_ GE107.out) | exact HB.out)⟩
                          · rw [if_neg c53] at H
                            have c53b0 : decide (10 < a0_3) = false := decide_eq_false c53
                            clear c53
                            obtain rfl := Option.some.inj H
                            have hcz55_0 : wc.cell? ⟨gb107, 0, none⟩ = some (.int .i64 a0_0) := (blk_cell BK107.out 0).trans rfl
                            have hcz55_1 : wc.cell? ⟨gb107, 1, none⟩ = some (.int .i64 a0_1) := (blk_cell BK107.out 1).trans rfl
                            have hcz55_2 : wc.cell? ⟨gb107, 2, none⟩ = some (.int .i64 a0_2) := (blk_cell BK107.out 2).trans rfl
                            have hcz55_3 : wc.cell? ⟨gb107, 3, none⟩ = some (.int .i64 a0_3) := (blk_cell BK107.out 3).trans rfl
                            have hfz55_0 := blk_frozen BK107.out 0
                            have hfz55_1 := blk_frozen BK107.out 1
                            have hfz55_2 := blk_frozen BK107.out 2
                            have hfz55_3 := blk_frozen BK107.out 3
                            go_wp2_with (first | ((with_reducible refine gate_callee (f := 21) rfl ?_); refine goesL_ (some 31) rfl rfl Tryd.func21 (by kernel_rfl) rfl #[.int .i64 a0_0] rfl (by (try simp only [List.map_toArray, List.map_cons, List.map_nil]); first | done | rfl | (simp only [List.length_drop, List.length_take]; rfl)) ?_; (with_reducible refine (spec_l2Bare.calls kj1 a0_0 true true false _ A16.out).mono ?_); rintro e w' ⟨rfl, ⟨nd, rfl⟩⟩; refine ⟨_, rfl, ?_⟩))
                            go_ret
                            exact ⟨by first | rfl | (simp [errW_none, errW_some] <;> rfl) | (simp [*, errW_none, errW_some] <;> rfl), by repeat (first | (with_reducible first | exact HB.out | apply below_alloc | apply pw_below_drewN | apply below_drew1 | refine below_set ?_ GE107.out) | exact HB.out)⟩
                        · rw [if_neg c52] at H
                          have c52b0 : (a0_0 == 22) = false := beq_eq_false_iff_ne.mpr c52
                          have c52b1 : (a0_0 != 22) = true := bne_iff_ne.mpr c52
                          obtain rfl := Option.some.inj H
                          have hcz56_0 : wc.cell? ⟨gb107, 0, none⟩ = some (.int .i64 a0_0) := (blk_cell BK107.out 0).trans rfl
                          have hcz56_1 : wc.cell? ⟨gb107, 1, none⟩ = some (.int .i64 a0_1) := (blk_cell BK107.out 1).trans rfl
                          have hcz56_2 : wc.cell? ⟨gb107, 2, none⟩ = some (.int .i64 a0_2) := (blk_cell BK107.out 2).trans rfl
                          have hcz56_3 : wc.cell? ⟨gb107, 3, none⟩ = some (.int .i64 a0_3) := (blk_cell BK107.out 3).trans rfl
                          have hfz56_0 := blk_frozen BK107.out 0
                          have hfz56_1 := blk_frozen BK107.out 1
                          have hfz56_2 := blk_frozen BK107.out 2
                          have hfz56_3 := blk_frozen BK107.out 3
                          go_wp2_with (first | ((with_reducible refine gate_callee (f := 21) rfl ?_); refine goesL_ (some 31) rfl rfl Tryd.func21 (by kernel_rfl) rfl #[.int .i64 a0_0] rfl (by (try simp only [List.map_toArray, List.map_cons, List.map_nil]); first | done | rfl | (simp only [List.length_drop, List.length_take]; rfl)) ?_; (with_reducible refine (spec_l2Bare.calls kj1 a0_0 true true false _ A16.out).mono ?_); rintro e w' ⟨rfl, ⟨nd, rfl⟩⟩; refine ⟨_, rfl, ?_⟩))
                          go_ret
                          exact ⟨by first | rfl | (simp [errW_none, errW_some] <;> rfl) | (simp [*, errW_none, errW_some] <;> rfl), by repeat (first | (with_reducible first | exact HB.out | apply below_alloc | apply pw_below_drewN | apply below_drew1 | refine below_set ?_ GE107.out) | exact HB.out)⟩
                  · rw [if_neg c45] at H
                    have c45b0 : decide (a0_0 ≤ 11) = false := decide_eq_false c45
                    clear c45
                    by_cases c57 : a0_0 = 21
                    · rw [if_pos c57] at H
                      have c57b0 : (a0_0 == 21) = true := beq_iff_eq.mpr c57
                      have c57b1 : (a0_0 != 21) = false := bne_eq_false_iff_eq.mpr c57
                      clear c57
                      by_cases c58 : a0_3 > 10
                      · rw [if_pos c58] at H
                        have c58b0 : decide (10 < a0_3) = true := decide_eq_true c58
                        clear c58
                        obtain rfl := Option.some.inj H
                        have hcz59_0 : wc.cell? ⟨gb107, 0, none⟩ = some (.int .i64 a0_0) := (blk_cell BK107.out 0).trans rfl
                        have hcz59_1 : wc.cell? ⟨gb107, 1, none⟩ = some (.int .i64 a0_1) := (blk_cell BK107.out 1).trans rfl
                        have hcz59_2 : wc.cell? ⟨gb107, 2, none⟩ = some (.int .i64 a0_2) := (blk_cell BK107.out 2).trans rfl
                        have hcz59_3 : wc.cell? ⟨gb107, 3, none⟩ = some (.int .i64 a0_3) := (blk_cell BK107.out 3).trans rfl
                        have hfz59_0 := blk_frozen BK107.out 0
                        have hfz59_1 := blk_frozen BK107.out 1
                        have hfz59_2 := blk_frozen BK107.out 2
                        have hfz59_3 := blk_frozen BK107.out 3
                        go_wp2_with (first | ((with_reducible refine gate_callee (f := 21) rfl ?_); refine goesL_ (some 31) rfl rfl Tryd.func21 (by kernel_rfl) rfl #[.int .i64 a0_0] rfl (by (try simp only [List.map_toArray, List.map_cons, List.map_nil]); first | done | rfl | (simp only [List.length_drop, List.length_take]; rfl)) ?_; (with_reducible refine (spec_l2Bare.calls kj1 a0_0 true true false _ A16.out).mono ?_); rintro e w' ⟨rfl, ⟨nd, rfl⟩⟩; refine ⟨_, rfl, ?_⟩))
                        go_ret
                        exact ⟨by first | rfl | (simp [errW_none, errW_some] <;> rfl) | (simp [*, errW_none, errW_some] <;> rfl), by repeat (first | (with_reducible first | exact HB.out | apply below_alloc | apply pw_below_drewN | apply below_drew1 | refine below_set ?_ GE107.out) | exact HB.out)⟩
                      · rw [if_neg c58] at H
                        have c58b0 : decide (10 < a0_3) = false := decide_eq_false c58
                        clear c58
                        obtain rfl := Option.some.inj H
                        have hcz60_0 : wc.cell? ⟨gb107, 0, none⟩ = some (.int .i64 a0_0) := (blk_cell BK107.out 0).trans rfl
                        have hcz60_1 : wc.cell? ⟨gb107, 1, none⟩ = some (.int .i64 a0_1) := (blk_cell BK107.out 1).trans rfl
                        have hcz60_2 : wc.cell? ⟨gb107, 2, none⟩ = some (.int .i64 a0_2) := (blk_cell BK107.out 2).trans rfl
                        have hcz60_3 : wc.cell? ⟨gb107, 3, none⟩ = some (.int .i64 a0_3) := (blk_cell BK107.out 3).trans rfl
                        have hfz60_0 := blk_frozen BK107.out 0
                        have hfz60_1 := blk_frozen BK107.out 1
                        have hfz60_2 := blk_frozen BK107.out 2
                        have hfz60_3 := blk_frozen BK107.out 3
                        go_wp2_with (first | ((with_reducible refine gate_callee (f := 21) rfl ?_); refine goesL_ (some 31) rfl rfl Tryd.func21 (by kernel_rfl) rfl #[.int .i64 a0_0] rfl (by (try simp only [List.map_toArray, List.map_cons, List.map_nil]); first | done | rfl | (simp only [List.length_drop, List.length_take]; rfl)) ?_; (with_reducible refine (spec_l2Bare.calls kj1 a0_0 true true false _ A16.out).mono ?_); rintro e w' ⟨rfl, ⟨nd, rfl⟩⟩; refine ⟨_, rfl, ?_⟩))
                        go_ret
                        exact ⟨by first | rfl | (simp [errW_none, errW_some] <;> rfl) | (simp [*, errW_none, errW_some] <;> rfl), by repeat (first | (with_reducible first | exact HB.out | apply below_alloc | apply pw_below_drewN | apply below_drew1 | refine below_set ?_ GE107.out) | exact HB.out)⟩
                    · rw [if_neg c57] at H
                      have c57b0 : (a0_0 == 21) = false := beq_eq_false_iff_ne.mpr c57
                      have c57b1 : (a0_0 != 21) = true := bne_iff_ne.mpr c57
                      by_cases c61 : a0_0 = 22
                      · rw [if_pos c61] at H
                        have c61b0 : (a0_0 == 22) = true := beq_iff_eq.mpr c61
                        have c61b1 : (a0_0 != 22) = false := bne_eq_false_iff_eq.mpr c61
                        clear c61
                        by_cases c62 : a0_3 > 10
                        · rw [if_pos c62] at H
                          have c62b0 : decide (10 < a0_3) = true := decide_eq_true c62
                          clear c62
                          obtain rfl := Option.some.inj H
                          have hcz63_0 : wc.cell? ⟨gb107, 0, none⟩ = some (.int .i64 a0_0) := (blk_cell BK107.out 0).trans rfl
                          have hcz63_1 : wc.cell? ⟨gb107, 1, none⟩ = some (.int .i64 a0_1) := (blk_cell BK107.out 1).trans rfl
                          have hcz63_2 : wc.cell? ⟨gb107, 2, none⟩ = some (.int .i64 a0_2) := (blk_cell BK107.out 2).trans rfl
                          have hcz63_3 : wc.cell? ⟨gb107, 3, none⟩ = some (.int .i64 a0_3) := (blk_cell BK107.out 3).trans rfl
                          have hfz63_0 := blk_frozen BK107.out 0
                          have hfz63_1 := blk_frozen BK107.out 1
                          have hfz63_2 := blk_frozen BK107.out 2
                          have hfz63_3 := blk_frozen BK107.out 3
                          go_wp2_with (first | ((with_reducible refine gate_callee (f := 21) rfl ?_); refine goesL_ (some 31) rfl rfl Tryd.func21 (by kernel_rfl) rfl #[.int .i64 a0_0] rfl (by (try simp only [List.map_toArray, List.map_cons, List.map_nil]); first | done | rfl | (simp only [List.length_drop, List.length_take]; rfl)) ?_; (with_reducible refine (spec_l2Bare.calls kj1 a0_0 true true false _ A16.out).mono ?_); rintro e w' ⟨rfl, ⟨nd, rfl⟩⟩; refine ⟨_, rfl, ?_⟩))
                          go_ret
                          exact ⟨by first | rfl | (simp [errW_none, errW_some] <;> rfl) | (simp [*, errW_none, errW_some] <;> rfl), by repeat (first | (with_reducible first | exact HB.out | apply below_alloc | apply pw_below_drewN | apply below_drew1 | refine below_set ?_ GE107.out) | exact HB.out)⟩
                        · rw [if_neg c62] at H
                          have c62b0 : decide (10 < a0_3) = false := decide_eq_false c62
                          clear c62
                          obtain rfl := Option.some.inj H
                          have hcz64_0 : wc.cell? ⟨gb107, 0, none⟩ = some (.int .i64 a0_0) := (blk_cell BK107.out 0).trans rfl
                          have hcz64_1 : wc.cell? ⟨gb107, 1, none⟩ = some (.int .i64 a0_1) := (blk_cell BK107.out 1).trans rfl
                          have hcz64_2 : wc.cell? ⟨gb107, 2, none⟩ = some (.int .i64 a0_2) := (blk_cell BK107.out 2).trans rfl
                          have hcz64_3 : wc.cell? ⟨gb107, 3, none⟩ = some (.int .i64 a0_3) := (blk_cell BK107.out 3).trans rfl
                          have hfz64_0 := blk_frozen BK107.out 0
                          have hfz64_1 := blk_frozen BK107.out 1
                          have hfz64_2 := blk_frozen BK107.out 2
                          have hfz64_3 := blk_frozen BK107.out 3
                          go_wp2_with (first | ((with_reducible refine gate_callee (f := 21) rfl ?_); refine goesL_ (some 31) rfl rfl Tryd.func21 (by kernel_rfl) rfl #[.int .i64 a0_0] rfl (by (try simp only [List.map_toArray, List.map_cons, List.map_nil]); first | done | rfl | (simp only [List.length_drop, List.length_take]; rfl)) ?_; (with_reducible refine (spec_l2Bare.calls kj1 a0_0 true true false _ A16.out).mono ?_); rintro e w' ⟨rfl, ⟨nd, rfl⟩⟩; refine ⟨_, rfl, ?_⟩))
                          go_ret
                          exact ⟨by first | rfl | (simp [errW_none, errW_some] <;> rfl) | (simp [*, errW_none, errW_some] <;> rfl), by repeat (first | (with_reducible first | exact HB.out | apply below_alloc | apply pw_below_drewN | apply below_drew1 | refine below_set ?_ GE107.out) | exact HB.out)⟩
                      · rw [if_neg c61] at H
                        have c61b0 : (a0_0 == 22) = false := beq_eq_false_iff_ne.mpr c61
                        have c61b1 : (a0_0 != 22) = true := bne_iff_ne.mpr c61
                        obtain rfl := Option.some.inj H
                        have hcz65_0 : wc.cell? ⟨gb107, 0, none⟩ = some (.int .i64 a0_0) := (blk_cell BK107.out 0).trans rfl
                        have hcz65_1 : wc.cell? ⟨gb107, 1, none⟩ = some (.int .i64 a0_1) := (blk_cell BK107.out 1).trans rfl
                        have hcz65_2 : wc.cell? ⟨gb107, 2, none⟩ = some (.int .i64 a0_2) := (blk_cell BK107.out 2).trans rfl
                        have hcz65_3 : wc.cell? ⟨gb107, 3, none⟩ = some (.int .i64 a0_3) := (blk_cell BK107.out 3).trans rfl
                        have hfz65_0 := blk_frozen BK107.out 0
                        have hfz65_1 := blk_frozen BK107.out 1
                        have hfz65_2 := blk_frozen BK107.out 2
                        have hfz65_3 := blk_frozen BK107.out 3
                        go_wp2_with (first | ((with_reducible refine gate_callee (f := 21) rfl ?_); refine goesL_ (some 31) rfl rfl Tryd.func21 (by kernel_rfl) rfl #[.int .i64 a0_0] rfl (by (try simp only [List.map_toArray, List.map_cons, List.map_nil]); first | done | rfl | (simp only [List.length_drop, List.length_take]; rfl)) ?_; (with_reducible refine (spec_l2Bare.calls kj1 a0_0 true true false _ A16.out).mono ?_); rintro e w' ⟨rfl, ⟨nd, rfl⟩⟩; refine ⟨_, rfl, ?_⟩))
                        go_ret
                        exact ⟨by first | rfl | (simp [errW_none, errW_some] <;> rfl) | (simp [*, errW_none, errW_some] <;> rfl), by repeat (first | (with_reducible first | exact HB.out | apply below_alloc | apply pw_below_drewN | apply below_drew1 | refine below_set ?_ GE107.out) | exact HB.out)⟩
              · rw [if_neg c20] at H
                have c20b0 : (a0_2 == 0) = false := beq_eq_false_iff_ne.mpr c20
                have c20b1 : (a0_2 != 0) = true := bne_iff_ne.mpr c20
                obtain rfl := Option.some.inj H
                have hcz66_0 : wc.cell? ⟨gb107, 0, none⟩ = some (.int .i64 a0_0) := (blk_cell BK107.out 0).trans rfl
                have hcz66_1 : wc.cell? ⟨gb107, 1, none⟩ = some (.int .i64 a0_1) := (blk_cell BK107.out 1).trans rfl
                have hcz66_2 : wc.cell? ⟨gb107, 2, none⟩ = some (.int .i64 a0_2) := (blk_cell BK107.out 2).trans rfl
                have hcz66_3 : wc.cell? ⟨gb107, 3, none⟩ = some (.int .i64 a0_3) := (blk_cell BK107.out 3).trans rfl
                have hfz66_0 := blk_frozen BK107.out 0
                have hfz66_1 := blk_frozen BK107.out 1
                have hfz66_2 := blk_frozen BK107.out 2
                have hfz66_3 := blk_frozen BK107.out 3
                go_wp2_with (first | ((with_reducible refine gate_callee (f := 21) rfl ?_); refine goesL_ (some 31) rfl rfl Tryd.func21 (by kernel_rfl) rfl #[.int .i64 a0_0] rfl (by (try simp only [List.map_toArray, List.map_cons, List.map_nil]); first | done | rfl | (simp only [List.length_drop, List.length_take]; rfl)) ?_; (with_reducible refine (spec_l2Bare.calls kj1 a0_0 true true t114 _ A16.out).mono ?_); rintro e w' ⟨rfl, ⟨nd, rfl⟩⟩; refine ⟨_, rfl, ?_⟩))
                go_ret
                exact ⟨by first | rfl | (simp [errW_none, errW_some] <;> rfl) | (simp [*, errW_none, errW_some] <;> rfl), by repeat (first | (with_reducible first | exact HB.out | apply below_alloc | apply pw_below_drewN | apply below_drew1 | refine below_set ?_ GE107.out) | exact HB.out)⟩
            · replace c19 := Bool.eq_false_iff.mpr c19
              subst c19
              have H1 : (if t114 = true then (if a0_3 = 0 then (if a0_0 ≤ 11 then (if a0_3 > 15 then (some 1) else (if a0_0 = 21 then (if a0_3 > 10 then (some 1) else (some 0)) else (if a0_0 = 22 then (if a0_3 > 10 then (some 1) else (some 0)) else (some 0)))) else (if a0_0 = 21 then (if a0_3 > 10 then (some 1) else (some 0)) else (if a0_0 = 22 then (if a0_3 > 10 then (some 1) else (some 0)) else (some 0)))) else (some 1)) else (if a0_0 ≤ 11 then (if a0_3 > 15 then (some 1) else (if a0_0 = 21 then (if a0_3 > 10 then (some 1) else (some 0)) else (if a0_0 = 22 then (if a0_3 > 10 then (some 1) else (some 0)) else (some 0)))) else (if a0_0 = 21 then (if a0_3 > 10 then (some 1) else (some 0)) else (if a0_0 = 22 then (if a0_3 > 10 then (some 1) else (some 0)) else (some 0))))) = some r := by rw [if_neg (show ¬ (false = true) by decide)] at H; exact H
              clear H
              have H := H1
              clear H1
              by_cases c67 : t114 = true
              · subst c67
                have H1 : (if a0_3 = 0 then (if a0_0 ≤ 11 then (if a0_3 > 15 then (some 1) else (if a0_0 = 21 then (if a0_3 > 10 then (some 1) else (some 0)) else (if a0_0 = 22 then (if a0_3 > 10 then (some 1) else (some 0)) else (some 0)))) else (if a0_0 = 21 then (if a0_3 > 10 then (some 1) else (some 0)) else (if a0_0 = 22 then (if a0_3 > 10 then (some 1) else (some 0)) else (some 0)))) else (some 1)) = some r := by rw [if_pos rfl] at H; exact H
                clear H
                have H := H1
                clear H1
                by_cases c68 : a0_3 = 0
                · rw [if_pos c68] at H
                  have c68b0 : (a0_3 == 0) = true := beq_iff_eq.mpr c68
                  have c68b1 : (a0_3 != 0) = false := bne_eq_false_iff_eq.mpr c68
                  clear c68
                  by_cases c69 : a0_0 ≤ 11
                  · rw [if_pos c69] at H
                    have c69b0 : decide (a0_0 ≤ 11) = true := decide_eq_true c69
                    clear c69
                    by_cases c70 : a0_3 > 15
                    · rw [if_pos c70] at H
                      have c70b0 : decide (15 < a0_3) = true := decide_eq_true c70
                      clear c70
                      obtain rfl := Option.some.inj H
                      have hcz71_0 : wc.cell? ⟨gb107, 0, none⟩ = some (.int .i64 a0_0) := (blk_cell BK107.out 0).trans rfl
                      have hcz71_1 : wc.cell? ⟨gb107, 1, none⟩ = some (.int .i64 a0_1) := (blk_cell BK107.out 1).trans rfl
                      have hcz71_2 : wc.cell? ⟨gb107, 2, none⟩ = some (.int .i64 a0_2) := (blk_cell BK107.out 2).trans rfl
                      have hcz71_3 : wc.cell? ⟨gb107, 3, none⟩ = some (.int .i64 a0_3) := (blk_cell BK107.out 3).trans rfl
                      have hfz71_0 := blk_frozen BK107.out 0
                      have hfz71_1 := blk_frozen BK107.out 1
                      have hfz71_2 := blk_frozen BK107.out 2
                      have hfz71_3 := blk_frozen BK107.out 3
                      go_wp2_with (first | ((with_reducible refine gate_callee (f := 21) rfl ?_); refine goesL_ (some 31) rfl rfl Tryd.func21 (by kernel_rfl) rfl #[.int .i64 a0_0] rfl (by (try simp only [List.map_toArray, List.map_cons, List.map_nil]); first | done | rfl | (simp only [List.length_drop, List.length_take]; rfl)) ?_; (with_reducible refine (spec_l2Bare.calls kj1 a0_0 true false true _ A16.out).mono ?_); rintro e w' ⟨rfl, ⟨nd, rfl⟩⟩; refine ⟨_, rfl, ?_⟩))
                      go_ret
                      exact ⟨by first | rfl | (simp [errW_none, errW_some] <;> rfl) | (simp [*, errW_none, errW_some] <;> rfl), by repeat (first | (with_reducible first | exact HB.out | apply below_alloc | apply pw_below_drewN | apply below_drew1 | refine below_set ?_ GE107.out) | exact HB.out)⟩
                    · rw [if_neg c70] at H
                      have c70b0 : decide (15 < a0_3) = false := decide_eq_false c70
                      clear c70
                      by_cases c72 : a0_0 = 21
                      · rw [if_pos c72] at H
                        have c72b0 : (a0_0 == 21) = true := beq_iff_eq.mpr c72
                        have c72b1 : (a0_0 != 21) = false := bne_eq_false_iff_eq.mpr c72
                        clear c72
                        by_cases c73 : a0_3 > 10
                        · rw [if_pos c73] at H
                          have c73b0 : decide (10 < a0_3) = true := decide_eq_true c73
                          clear c73
                          obtain rfl := Option.some.inj H
                          have hcz74_0 : wc.cell? ⟨gb107, 0, none⟩ = some (.int .i64 a0_0) := (blk_cell BK107.out 0).trans rfl
                          have hcz74_1 : wc.cell? ⟨gb107, 1, none⟩ = some (.int .i64 a0_1) := (blk_cell BK107.out 1).trans rfl
                          have hcz74_2 : wc.cell? ⟨gb107, 2, none⟩ = some (.int .i64 a0_2) := (blk_cell BK107.out 2).trans rfl
                          have hcz74_3 : wc.cell? ⟨gb107, 3, none⟩ = some (.int .i64 a0_3) := (blk_cell BK107.out 3).trans rfl
                          have hfz74_0 := blk_frozen BK107.out 0
                          have hfz74_1 := blk_frozen BK107.out 1
                          have hfz74_2 := blk_frozen BK107.out 2
                          have hfz74_3 := blk_frozen BK107.out 3
                          go_wp2_with (first | ((with_reducible refine gate_callee (f := 21) rfl ?_); refine goesL_ (some 31) rfl rfl Tryd.func21 (by kernel_rfl) rfl #[.int .i64 a0_0] rfl (by (try simp only [List.map_toArray, List.map_cons, List.map_nil]); first | done | rfl | (simp only [List.length_drop, List.length_take]; rfl)) ?_; (with_reducible refine (spec_l2Bare.calls kj1 a0_0 true false true _ A16.out).mono ?_); rintro e w' ⟨rfl, ⟨nd, rfl⟩⟩; refine ⟨_, rfl, ?_⟩))
                          go_ret
                          exact ⟨by first | rfl | (simp [errW_none, errW_some] <;> rfl) | (simp [*, errW_none, errW_some] <;> rfl), by repeat (first | (with_reducible first | exact HB.out | apply below_alloc | apply pw_below_drewN | apply below_drew1 | refine below_set ?_ GE107.out) | exact HB.out)⟩
                        · rw [if_neg c73] at H
                          have c73b0 : decide (10 < a0_3) = false := decide_eq_false c73
                          clear c73
                          obtain rfl := Option.some.inj H
                          have hcz75_0 : wc.cell? ⟨gb107, 0, none⟩ = some (.int .i64 a0_0) := (blk_cell BK107.out 0).trans rfl
                          have hcz75_1 : wc.cell? ⟨gb107, 1, none⟩ = some (.int .i64 a0_1) := (blk_cell BK107.out 1).trans rfl
                          have hcz75_2 : wc.cell? ⟨gb107, 2, none⟩ = some (.int .i64 a0_2) := (blk_cell BK107.out 2).trans rfl
                          have hcz75_3 : wc.cell? ⟨gb107, 3, none⟩ = some (.int .i64 a0_3) := (blk_cell BK107.out 3).trans rfl
                          have hfz75_0 := blk_frozen BK107.out 0
                          have hfz75_1 := blk_frozen BK107.out 1
                          have hfz75_2 := blk_frozen BK107.out 2
                          have hfz75_3 := blk_frozen BK107.out 3
                          go_wp2_with (first | ((with_reducible refine gate_callee (f := 21) rfl ?_); refine goesL_ (some 31) rfl rfl Tryd.func21 (by kernel_rfl) rfl #[.int .i64 a0_0] rfl (by (try simp only [List.map_toArray, List.map_cons, List.map_nil]); first | done | rfl | (simp only [List.length_drop, List.length_take]; rfl)) ?_; (with_reducible refine (spec_l2Bare.calls kj1 a0_0 true false true _ A16.out).mono ?_); rintro e w' ⟨rfl, ⟨nd, rfl⟩⟩; refine ⟨_, rfl, ?_⟩))
                          go_ret
                          exact ⟨by first | rfl | (simp [errW_none, errW_some] <;> rfl) | (simp [*, errW_none, errW_some] <;> rfl), by repeat (first | (with_reducible first | exact HB.out | apply below_alloc | apply pw_below_drewN | apply below_drew1 | refine below_set ?_ GE107.out) | exact HB.out)⟩
                      · rw [if_neg c72] at H
                        have c72b0 : (a0_0 == 21) = false := beq_eq_false_iff_ne.mpr c72
                        have c72b1 : (a0_0 != 21) = true := bne_iff_ne.mpr c72
                        by_cases c76 : a0_0 = 22
                        · rw [if_pos c76] at H
                          have c76b0 : (a0_0 == 22) = true := beq_iff_eq.mpr c76
                          have c76b1 : (a0_0 != 22) = false := bne_eq_false_iff_eq.mpr c76
                          clear c76
                          by_cases c77 : a0_3 > 10
                          · rw [if_pos c77] at H
                            have c77b0 : decide (10 < a0_3) = true := decide_eq_true c77
                            clear c77
                            obtain rfl := Option.some.inj H
                            have hcz78_0 : wc.cell? ⟨gb107, 0, none⟩ = some (.int .i64 a0_0) := (blk_cell BK107.out 0).trans rfl
                            have hcz78_1 : wc.cell? ⟨gb107, 1, none⟩ = some (.int .i64 a0_1) := (blk_cell BK107.out 1).trans rfl
                            have hcz78_2 : wc.cell? ⟨gb107, 2, none⟩ = some (.int .i64 a0_2) := (blk_cell BK107.out 2).trans rfl
                            have hcz78_3 : wc.cell? ⟨gb107, 3, none⟩ = some (.int .i64 a0_3) := (blk_cell BK107.out 3).trans rfl
                            have hfz78_0 := blk_frozen BK107.out 0
                            have hfz78_1 := blk_frozen BK107.out 1
                            have hfz78_2 := blk_frozen BK107.out 2
                            have hfz78_3 := blk_frozen BK107.out 3
                            go_wp2_with (first | ((with_reducible refine gate_callee (f := 21) rfl ?_); refine goesL_ (some 31) rfl rfl Tryd.func21 (by kernel_rfl) rfl #[.int .i64 a0_0] rfl (by (try simp only [List.map_toArray, List.map_cons, List.map_nil]); first | done | rfl | (simp only [List.length_drop, List.length_take]; rfl)) ?_; (with_reducible refine (spec_l2Bare.calls kj1 a0_0 true false true _ A16.out).mono ?_); rintro e w' ⟨rfl, ⟨nd, rfl⟩⟩; refine ⟨_, rfl, ?_⟩))
                            go_ret
                            exact ⟨by first | rfl | (simp [errW_none, errW_some] <;> rfl) | (simp [*, errW_none, errW_some] <;> rfl), by repeat (first | (with_reducible first | exact HB.out | apply below_alloc | apply pw_below_drewN | apply below_drew1 | refine below_set ?_ GE107.out) | exact HB.out)⟩
                          · rw [if_neg c77] at H
                            have c77b0 : decide (10 < a0_3) = false := decide_eq_false c77
                            clear c77
                            obtain rfl := Option.some.inj H
                            have hcz79_0 : wc.cell? ⟨gb107, 0, none⟩ = some (.int .i64 a0_0) := (blk_cell BK107.out 0).trans rfl
                            have hcz79_1 : wc.cell? ⟨gb107, 1, none⟩ = some (.int .i64 a0_1) := (blk_cell BK107.out 1).trans rfl
                            have hcz79_2 : wc.cell? ⟨gb107, 2, none⟩ = some (.int .i64 a0_2) := (blk_cell BK107.out 2).trans rfl
                            have hcz79_3 : wc.cell? ⟨gb107, 3, none⟩ = some (.int .i64 a0_3) := (blk_cell BK107.out 3).trans rfl
                            have hfz79_0 := blk_frozen BK107.out 0
                            have hfz79_1 := blk_frozen BK107.out 1
                            have hfz79_2 := blk_frozen BK107.out 2
                            have hfz79_3 := blk_frozen BK107.out 3
                            go_wp2_with (first | ((with_reducible refine gate_callee (f := 21) rfl ?_); refine goesL_ (some 31) rfl rfl Tryd.func21 (by kernel_rfl) rfl #[.int .i64 a0_0] rfl (by (try simp only [List.map_toArray, List.map_cons, List.map_nil]); first | done | rfl | (simp only [List.length_drop, List.length_take]; rfl)) ?_; (with_reducible refine (spec_l2Bare.calls kj1 a0_0 true false true _ A16.out).mono ?_); rintro e w' ⟨rfl, ⟨nd, rfl⟩⟩; refine ⟨_, rfl, ?_⟩))
                            go_ret
                            exact ⟨by first | rfl | (simp [errW_none, errW_some] <;> rfl) | (simp [*, errW_none, errW_some] <;> rfl), by repeat (first | (with_reducible first | exact HB.out | apply below_alloc | apply pw_below_drewN | apply below_drew1 | refine below_set ?_ GE107.out) | exact HB.out)⟩
                        · rw [if_neg c76] at H
                          have c76b0 : (a0_0 == 22) = false := beq_eq_false_iff_ne.mpr c76
                          have c76b1 : (a0_0 != 22) = true := bne_iff_ne.mpr c76
                          obtain rfl := Option.some.inj H
                          have hcz80_0 : wc.cell? ⟨gb107, 0, none⟩ = some (.int .i64 a0_0) := (blk_cell BK107.out 0).trans rfl
                          have hcz80_1 : wc.cell? ⟨gb107, 1, none⟩ = some (.int .i64 a0_1) := (blk_cell BK107.out 1).trans rfl
                          have hcz80_2 : wc.cell? ⟨gb107, 2, none⟩ = some (.int .i64 a0_2) := (blk_cell BK107.out 2).trans rfl
                          have hcz80_3 : wc.cell? ⟨gb107, 3, none⟩ = some (.int .i64 a0_3) := (blk_cell BK107.out 3).trans rfl
                          have hfz80_0 := blk_frozen BK107.out 0
                          have hfz80_1 := blk_frozen BK107.out 1
                          have hfz80_2 := blk_frozen BK107.out 2
                          have hfz80_3 := blk_frozen BK107.out 3
                          go_wp2_with (first | ((with_reducible refine gate_callee (f := 21) rfl ?_); refine goesL_ (some 31) rfl rfl Tryd.func21 (by kernel_rfl) rfl #[.int .i64 a0_0] rfl (by (try simp only [List.map_toArray, List.map_cons, List.map_nil]); first | done | rfl | (simp only [List.length_drop, List.length_take]; rfl)) ?_; (with_reducible refine (spec_l2Bare.calls kj1 a0_0 true false true _ A16.out).mono ?_); rintro e w' ⟨rfl, ⟨nd, rfl⟩⟩; refine ⟨_, rfl, ?_⟩))
                          go_ret
                          exact ⟨by first | rfl | (simp [errW_none, errW_some] <;> rfl) | (simp [*, errW_none, errW_some] <;> rfl), by repeat (first | (with_reducible first | exact HB.out | apply below_alloc | apply pw_below_drewN | apply below_drew1 | refine below_set ?_ GE107.out) | exact HB.out)⟩
                  · rw [if_neg c69] at H
                    have c69b0 : decide (a0_0 ≤ 11) = false := decide_eq_false c69
                    clear c69
                    by_cases c81 : a0_0 = 21
                    · rw [if_pos c81] at H
                      have c81b0 : (a0_0 == 21) = true := beq_iff_eq.mpr c81
                      have c81b1 : (a0_0 != 21) = false := bne_eq_false_iff_eq.mpr c81
                      clear c81
                      by_cases c82 : a0_3 > 10
                      · rw [if_pos c82] at H
                        have c82b0 : decide (10 < a0_3) = true := decide_eq_true c82
                        clear c82
                        obtain rfl := Option.some.inj H
                        have hcz83_0 : wc.cell? ⟨gb107, 0, none⟩ = some (.int .i64 a0_0) := (blk_cell BK107.out 0).trans rfl
                        have hcz83_1 : wc.cell? ⟨gb107, 1, none⟩ = some (.int .i64 a0_1) := (blk_cell BK107.out 1).trans rfl
                        have hcz83_2 : wc.cell? ⟨gb107, 2, none⟩ = some (.int .i64 a0_2) := (blk_cell BK107.out 2).trans rfl
                        have hcz83_3 : wc.cell? ⟨gb107, 3, none⟩ = some (.int .i64 a0_3) := (blk_cell BK107.out 3).trans rfl
                        have hfz83_0 := blk_frozen BK107.out 0
                        have hfz83_1 := blk_frozen BK107.out 1
                        have hfz83_2 := blk_frozen BK107.out 2
                        have hfz83_3 := blk_frozen BK107.out 3
                        go_wp2_with (first | ((with_reducible refine gate_callee (f := 21) rfl ?_); refine goesL_ (some 31) rfl rfl Tryd.func21 (by kernel_rfl) rfl #[.int .i64 a0_0] rfl (by (try simp only [List.map_toArray, List.map_cons, List.map_nil]); first | done | rfl | (simp only [List.length_drop, List.length_take]; rfl)) ?_; (with_reducible refine (spec_l2Bare.calls kj1 a0_0 true false true _ A16.out).mono ?_); rintro e w' ⟨rfl, ⟨nd, rfl⟩⟩; refine ⟨_, rfl, ?_⟩))
                        go_ret
                        exact ⟨by first | rfl | (simp [errW_none, errW_some] <;> rfl) | (simp [*, errW_none, errW_some] <;> rfl), by repeat (first | (with_reducible first | exact HB.out | apply below_alloc | apply pw_below_drewN | apply below_drew1 | refine below_set ?_ GE107.out) | exact HB.out)⟩
                      · rw [if_neg c82] at H
                        have c82b0 : decide (10 < a0_3) = false := decide_eq_false c82
                        clear c82
                        obtain rfl := Option.some.inj H
                        have hcz84_0 : wc.cell? ⟨gb107, 0, none⟩ = some (.int .i64 a0_0) := (blk_cell BK107.out 0).trans rfl
                        have hcz84_1 : wc.cell? ⟨gb107, 1, none⟩ = some (.int .i64 a0_1) := (blk_cell BK107.out 1).trans rfl
                        have hcz84_2 : wc.cell? ⟨gb107, 2, none⟩ = some (.int .i64 a0_2) := (blk_cell BK107.out 2).trans rfl
                        have hcz84_3 : wc.cell? ⟨gb107, 3, none⟩ = some (.int .i64 a0_3) := (blk_cell BK107.out 3).trans rfl
                        have hfz84_0 := blk_frozen BK107.out 0
                        have hfz84_1 := blk_frozen BK107.out 1
                        have hfz84_2 := blk_frozen BK107.out 2
                        have hfz84_3 := blk_frozen BK107.out 3
                        go_wp2_with (first | ((with_reducible refine gate_callee (f := 21) rfl ?_); refine goesL_ (some 31) rfl rfl Tryd.func21 (by kernel_rfl) rfl #[.int .i64 a0_0] rfl (by (try simp only [List.map_toArray, List.map_cons, List.map_nil]); first | done | rfl | (simp only [List.length_drop, List.length_take]; rfl)) ?_; (with_reducible refine (spec_l2Bare.calls kj1 a0_0 true false true _ A16.out).mono ?_); rintro e w' ⟨rfl, ⟨nd, rfl⟩⟩; refine ⟨_, rfl, ?_⟩))
                        go_ret
                        exact ⟨by first | rfl | (simp [errW_none, errW_some] <;> rfl) | (simp [*, errW_none, errW_some] <;> rfl), by repeat (first | (with_reducible first | exact HB.out | apply below_alloc | apply pw_below_drewN | apply below_drew1 | refine below_set ?_ GE107.out) | exact HB.out)⟩
                    · rw [if_neg c81] at H
                      have c81b0 : (a0_0 == 21) = false := beq_eq_false_iff_ne.mpr c81
                      have c81b1 : (a0_0 != 21) = true := bne_iff_ne.mpr c81
                      by_cases c85 : a0_0 = 22
                      · rw [if_pos c85] at H
                        have c85b0 : (a0_0 == 22) = true := beq_iff_eq.mpr c85
                        have c85b1 : (a0_0 != 22) = false := bne_eq_false_iff_eq.mpr c85
                        clear c85
                        by_cases c86 : a0_3 > 10
                        · rw [if_pos c86] at H
                          have c86b0 : decide (10 < a0_3) = true := decide_eq_true c86
                          clear c86
                          obtain rfl := Option.some.inj H
                          have hcz87_0 : wc.cell? ⟨gb107, 0, none⟩ = some (.int .i64 a0_0) := (blk_cell BK107.out 0).trans rfl
                          have hcz87_1 : wc.cell? ⟨gb107, 1, none⟩ = some (.int .i64 a0_1) := (blk_cell BK107.out 1).trans rfl
                          have hcz87_2 : wc.cell? ⟨gb107, 2, none⟩ = some (.int .i64 a0_2) := (blk_cell BK107.out 2).trans rfl
                          have hcz87_3 : wc.cell? ⟨gb107, 3, none⟩ = some (.int .i64 a0_3) := (blk_cell BK107.out 3).trans rfl
                          have hfz87_0 := blk_frozen BK107.out 0
                          have hfz87_1 := blk_frozen BK107.out 1
                          have hfz87_2 := blk_frozen BK107.out 2
                          have hfz87_3 := blk_frozen BK107.out 3
                          go_wp2_with (first | ((with_reducible refine gate_callee (f := 21) rfl ?_); refine goesL_ (some 31) rfl rfl Tryd.func21 (by kernel_rfl) rfl #[.int .i64 a0_0] rfl (by (try simp only [List.map_toArray, List.map_cons, List.map_nil]); first | done | rfl | (simp only [List.length_drop, List.length_take]; rfl)) ?_; (with_reducible refine (spec_l2Bare.calls kj1 a0_0 true false true _ A16.out).mono ?_); rintro e w' ⟨rfl, ⟨nd, rfl⟩⟩; refine ⟨_, rfl, ?_⟩))
                          go_ret
                          exact ⟨by first | rfl | (simp [errW_none, errW_some] <;> rfl) | (simp [*, errW_none, errW_some] <;> rfl), by repeat (first | (with_reducible first | exact HB.out | apply below_alloc | apply pw_below_drewN | apply below_drew1 | refine below_set ?_ GE107.out) | exact HB.out)⟩
                        · rw [if_neg c86] at H
                          have c86b0 : decide (10 < a0_3) = false := decide_eq_false c86
                          clear c86
                          obtain rfl := Option.some.inj H
                          have hcz88_0 : wc.cell? ⟨gb107, 0, none⟩ = some (.int .i64 a0_0) := (blk_cell BK107.out 0).trans rfl
                          have hcz88_1 : wc.cell? ⟨gb107, 1, none⟩ = some (.int .i64 a0_1) := (blk_cell BK107.out 1).trans rfl
                          have hcz88_2 : wc.cell? ⟨gb107, 2, none⟩ = some (.int .i64 a0_2) := (blk_cell BK107.out 2).trans rfl
                          have hcz88_3 : wc.cell? ⟨gb107, 3, none⟩ = some (.int .i64 a0_3) := (blk_cell BK107.out 3).trans rfl
                          have hfz88_0 := blk_frozen BK107.out 0
                          have hfz88_1 := blk_frozen BK107.out 1
                          have hfz88_2 := blk_frozen BK107.out 2
                          have hfz88_3 := blk_frozen BK107.out 3
                          go_wp2_with (first | ((with_reducible refine gate_callee (f := 21) rfl ?_); refine goesL_ (some 31) rfl rfl Tryd.func21 (by kernel_rfl) rfl #[.int .i64 a0_0] rfl (by (try simp only [List.map_toArray, List.map_cons, List.map_nil]); first | done | rfl | (simp only [List.length_drop, List.length_take]; rfl)) ?_; (with_reducible refine (spec_l2Bare.calls kj1 a0_0 true false true _ A16.out).mono ?_); rintro e w' ⟨rfl, ⟨nd, rfl⟩⟩; refine ⟨_, rfl, ?_⟩))
                          go_ret
                          exact ⟨by first | rfl | (simp [errW_none, errW_some] <;> rfl) | (simp [*, errW_none, errW_some] <;> rfl), by repeat (first | (with_reducible first | exact HB.out | apply below_alloc | apply pw_below_drewN | apply below_drew1 | refine below_set ?_ GE107.out) | exact HB.out)⟩
                      · rw [if_neg c85] at H
                        have c85b0 : (a0_0 == 22) = false := beq_eq_false_iff_ne.mpr c85
                        have c85b1 : (a0_0 != 22) = true := bne_iff_ne.mpr c85
                        obtain rfl := Option.some.inj H
                        have hcz89_0 : wc.cell? ⟨gb107, 0, none⟩ = some (.int .i64 a0_0) := (blk_cell BK107.out 0).trans rfl
                        have hcz89_1 : wc.cell? ⟨gb107, 1, none⟩ = some (.int .i64 a0_1) := (blk_cell BK107.out 1).trans rfl
                        have hcz89_2 : wc.cell? ⟨gb107, 2, none⟩ = some (.int .i64 a0_2) := (blk_cell BK107.out 2).trans rfl
                        have hcz89_3 : wc.cell? ⟨gb107, 3, none⟩ = some (.int .i64 a0_3) := (blk_cell BK107.out 3).trans rfl
                        have hfz89_0 := blk_frozen BK107.out 0
                        have hfz89_1 := blk_frozen BK107.out 1
                        have hfz89_2 := blk_frozen BK107.out 2
                        have hfz89_3 := blk_frozen BK107.out 3
                        go_wp2_with (first | ((with_reducible refine gate_callee (f := 21) rfl ?_); refine goesL_ (some 31) rfl rfl Tryd.func21 (by kernel_rfl) rfl #[.int .i64 a0_0] rfl (by (try simp only [List.map_toArray, List.map_cons, List.map_nil]); first | done | rfl | (simp only [List.length_drop, List.length_take]; rfl)) ?_; (with_reducible refine (spec_l2Bare.calls kj1 a0_0 true false true _ A16.out).mono ?_); rintro e w' ⟨rfl, ⟨nd, rfl⟩⟩; refine ⟨_, rfl, ?_⟩))
                        go_ret
                        exact ⟨by first | rfl | (simp [errW_none, errW_some] <;> rfl) | (simp [*, errW_none, errW_some] <;> rfl), by repeat (first | (with_reducible first | exact HB.out | apply below_alloc | apply pw_below_drewN | apply below_drew1 | refine below_set ?_ GE107.out) | exact HB.out)⟩
                · rw [if_neg c68] at H
                  have c68b0 : (a0_3 == 0) = false := beq_eq_false_iff_ne.mpr c68
                  have c68b1 : (a0_3 != 0) = true := bne_iff_ne.mpr c68
                  obtain rfl := Option.some.inj H
                  have hcz90_0 : wc.cell? ⟨gb107, 0, none⟩ = some (.int .i64 a0_0) := (blk_cell BK107.out 0).trans rfl
                  have hcz90_1 : wc.cell? ⟨gb107, 1, none⟩ = some (.int .i64 a0_1) := (blk_cell BK107.out 1).trans rfl
                  have hcz90_2 : wc.cell? ⟨gb107, 2, none⟩ = some (.int .i64 a0_2) := (blk_cell BK107.out 2).trans rfl
                  have hcz90_3 : wc.cell? ⟨gb107, 3, none⟩ = some (.int .i64 a0_3) := (blk_cell BK107.out 3).trans rfl
                  have hfz90_0 := blk_frozen BK107.out 0
                  have hfz90_1 := blk_frozen BK107.out 1
                  have hfz90_2 := blk_frozen BK107.out 2
                  have hfz90_3 := blk_frozen BK107.out 3
                  go_wp2_with (first | ((with_reducible refine gate_callee (f := 21) rfl ?_); refine goesL_ (some 31) rfl rfl Tryd.func21 (by kernel_rfl) rfl #[.int .i64 a0_0] rfl (by (try simp only [List.map_toArray, List.map_cons, List.map_nil]); first | done | rfl | (simp only [List.length_drop, List.length_take]; rfl)) ?_; (with_reducible refine (spec_l2Bare.calls kj1 a0_0 true false true _ A16.out).mono ?_); rintro e w' ⟨rfl, ⟨nd, rfl⟩⟩; refine ⟨_, rfl, ?_⟩))
                  go_ret
                  exact ⟨by first | rfl | (simp [errW_none, errW_some] <;> rfl) | (simp [*, errW_none, errW_some] <;> rfl), by repeat (first | (with_reducible first | exact HB.out | apply below_alloc | apply pw_below_drewN | apply below_drew1 | refine below_set ?_ GE107.out) | exact HB.out)⟩
              · replace c67 := Bool.eq_false_iff.mpr c67
                subst c67
                have H1 : (if a0_0 ≤ 11 then (if a0_3 > 15 then (some 1) else (if a0_0 = 21 then (if a0_3 > 10 then (some 1) else (some 0)) else (if a0_0 = 22 then (if a0_3 > 10 then (some 1) else (some 0)) else (some 0)))) else (if a0_0 = 21 then (if a0_3 > 10 then (some 1) else (some 0)) else (if a0_0 = 22 then (if a0_3 > 10 then (some 1) else (some 0)) else (some 0)))) = some r := by rw [if_neg (show ¬ (false = true) by decide)] at H; exact H
                clear H
                have H := H1
                clear H1
                by_cases c91 : a0_0 ≤ 11
                · rw [if_pos c91] at H
                  have c91b0 : decide (a0_0 ≤ 11) = true := decide_eq_true c91
                  clear c91
                  by_cases c92 : a0_3 > 15
                  · rw [if_pos c92] at H
                    have c92b0 : decide (15 < a0_3) = true := decide_eq_true c92
                    clear c92
                    obtain rfl := Option.some.inj H
                    have hcz93_0 : wc.cell? ⟨gb107, 0, none⟩ = some (.int .i64 a0_0) := (blk_cell BK107.out 0).trans rfl
                    have hcz93_1 : wc.cell? ⟨gb107, 1, none⟩ = some (.int .i64 a0_1) := (blk_cell BK107.out 1).trans rfl
                    have hcz93_2 : wc.cell? ⟨gb107, 2, none⟩ = some (.int .i64 a0_2) := (blk_cell BK107.out 2).trans rfl
                    have hcz93_3 : wc.cell? ⟨gb107, 3, none⟩ = some (.int .i64 a0_3) := (blk_cell BK107.out 3).trans rfl
                    have hfz93_0 := blk_frozen BK107.out 0
                    have hfz93_1 := blk_frozen BK107.out 1
                    have hfz93_2 := blk_frozen BK107.out 2
                    have hfz93_3 := blk_frozen BK107.out 3
                    go_wp2_with (first | ((with_reducible refine gate_callee (f := 21) rfl ?_); refine goesL_ (some 31) rfl rfl Tryd.func21 (by kernel_rfl) rfl #[.int .i64 a0_0] rfl (by (try simp only [List.map_toArray, List.map_cons, List.map_nil]); first | done | rfl | (simp only [List.length_drop, List.length_take]; rfl)) ?_; (with_reducible refine (spec_l2Bare.calls kj1 a0_0 true false false _ A16.out).mono ?_); rintro e w' ⟨rfl, ⟨nd, rfl⟩⟩; refine ⟨_, rfl, ?_⟩))
                    go_ret
                    exact ⟨by first | rfl | (simp [errW_none, errW_some] <;> rfl) | (simp [*, errW_none, errW_some] <;> rfl), by repeat (first | (with_reducible first | exact HB.out | apply below_alloc | apply pw_below_drewN | apply below_drew1 | refine below_set ?_ GE107.out) | exact HB.out)⟩
                  · rw [if_neg c92] at H
                    have c92b0 : decide (15 < a0_3) = false := decide_eq_false c92
                    clear c92
                    by_cases c94 : a0_0 = 21
                    · rw [if_pos c94] at H
                      have c94b0 : (a0_0 == 21) = true := beq_iff_eq.mpr c94
                      have c94b1 : (a0_0 != 21) = false := bne_eq_false_iff_eq.mpr c94
                      clear c94
                      by_cases c95 : a0_3 > 10
                      · rw [if_pos c95] at H
                        have c95b0 : decide (10 < a0_3) = true := decide_eq_true c95
                        clear c95
                        obtain rfl := Option.some.inj H
                        have hcz96_0 : wc.cell? ⟨gb107, 0, none⟩ = some (.int .i64 a0_0) := (blk_cell BK107.out 0).trans rfl
                        have hcz96_1 : wc.cell? ⟨gb107, 1, none⟩ = some (.int .i64 a0_1) := (blk_cell BK107.out 1).trans rfl
                        have hcz96_2 : wc.cell? ⟨gb107, 2, none⟩ = some (.int .i64 a0_2) := (blk_cell BK107.out 2).trans rfl
                        have hcz96_3 : wc.cell? ⟨gb107, 3, none⟩ = some (.int .i64 a0_3) := (blk_cell BK107.out 3).trans rfl
                        have hfz96_0 := blk_frozen BK107.out 0
                        have hfz96_1 := blk_frozen BK107.out 1
                        have hfz96_2 := blk_frozen BK107.out 2
                        have hfz96_3 := blk_frozen BK107.out 3
                        go_wp2_with (first | ((with_reducible refine gate_callee (f := 21) rfl ?_); refine goesL_ (some 31) rfl rfl Tryd.func21 (by kernel_rfl) rfl #[.int .i64 a0_0] rfl (by (try simp only [List.map_toArray, List.map_cons, List.map_nil]); first | done | rfl | (simp only [List.length_drop, List.length_take]; rfl)) ?_; (with_reducible refine (spec_l2Bare.calls kj1 a0_0 true false false _ A16.out).mono ?_); rintro e w' ⟨rfl, ⟨nd, rfl⟩⟩; refine ⟨_, rfl, ?_⟩))
                        go_ret
                        exact ⟨by first | rfl | (simp [errW_none, errW_some] <;> rfl) | (simp [*, errW_none, errW_some] <;> rfl), by repeat (first | (with_reducible first | exact HB.out | apply below_alloc | apply pw_below_drewN | apply below_drew1 | refine below_set ?_ GE107.out) | exact HB.out)⟩
                      · rw [if_neg c95] at H
                        have c95b0 : decide (10 < a0_3) = false := decide_eq_false c95
                        clear c95
                        obtain rfl := Option.some.inj H
                        have hcz97_0 : wc.cell? ⟨gb107, 0, none⟩ = some (.int .i64 a0_0) := (blk_cell BK107.out 0).trans rfl
                        have hcz97_1 : wc.cell? ⟨gb107, 1, none⟩ = some (.int .i64 a0_1) := (blk_cell BK107.out 1).trans rfl
                        have hcz97_2 : wc.cell? ⟨gb107, 2, none⟩ = some (.int .i64 a0_2) := (blk_cell BK107.out 2).trans rfl
                        have hcz97_3 : wc.cell? ⟨gb107, 3, none⟩ = some (.int .i64 a0_3) := (blk_cell BK107.out 3).trans rfl
                        have hfz97_0 := blk_frozen BK107.out 0
                        have hfz97_1 := blk_frozen BK107.out 1
                        have hfz97_2 := blk_frozen BK107.out 2
                        have hfz97_3 := blk_frozen BK107.out 3
                        go_wp2_with (first | ((with_reducible refine gate_callee (f := 21) rfl ?_); refine goesL_ (some 31) rfl rfl Tryd.func21 (by kernel_rfl) rfl #[.int .i64 a0_0] rfl (by (try simp only [List.map_toArray, List.map_cons, List.map_nil]); first | done | rfl | (simp only [List.length_drop, List.length_take]; rfl)) ?_; (with_reducible refine (spec_l2Bare.calls kj1 a0_0 true false false _ A16.out).mono ?_); rintro e w' ⟨rfl, ⟨nd, rfl⟩⟩; refine ⟨_, rfl, ?_⟩))
                        go_ret
                        exact ⟨by first | rfl | (simp [errW_none, errW_some] <;> rfl) | (simp [*, errW_none, errW_some] <;> rfl), by repeat (first | (with_reducible first | exact HB.out | apply below_alloc | apply pw_below_drewN | apply below_drew1 | refine below_set ?_ GE107.out) | exact HB.out)⟩
                    · rw [if_neg c94] at H
                      have c94b0 : (a0_0 == 21) = false := beq_eq_false_iff_ne.mpr c94
                      have c94b1 : (a0_0 != 21) = true := bne_iff_ne.mpr c94
                      by_cases c98 : a0_0 = 22
                      · rw [if_pos c98] at H
                        have c98b0 : (a0_0 == 22) = true := beq_iff_eq.mpr c98
                        have c98b1 : (a0_0 != 22) = false := bne_eq_false_iff_eq.mpr c98
                        clear c98
                        by_cases c99 : a0_3 > 10
                        · rw [if_pos c99] at H
                          have c99b0 : decide (10 < a0_3) = true := decide_eq_true c99
                          clear c99
                          obtain rfl := Option.some.inj H
                          have hcz100_0 : wc.cell? ⟨gb107, 0, none⟩ = some (.int .i64 a0_0) := (blk_cell BK107.out 0).trans rfl
                          have hcz100_1 : wc.cell? ⟨gb107, 1, none⟩ = some (.int .i64 a0_1) := (blk_cell BK107.out 1).trans rfl
                          have hcz100_2 : wc.cell? ⟨gb107, 2, none⟩ = some (.int .i64 a0_2) := (blk_cell BK107.out 2).trans rfl
                          have hcz100_3 : wc.cell? ⟨gb107, 3, none⟩ = some (.int .i64 a0_3) := (blk_cell BK107.out 3).trans rfl
                          have hfz100_0 := blk_frozen BK107.out 0
                          have hfz100_1 := blk_frozen BK107.out 1
                          have hfz100_2 := blk_frozen BK107.out 2
                          have hfz100_3 := blk_frozen BK107.out 3
                          go_wp2_with (first | ((with_reducible refine gate_callee (f := 21) rfl ?_); refine goesL_ (some 31) rfl rfl Tryd.func21 (by kernel_rfl) rfl #[.int .i64 a0_0] rfl (by (try simp only [List.map_toArray, List.map_cons, List.map_nil]); first | done | rfl | (simp only [List.length_drop, List.length_take]; rfl)) ?_; (with_reducible refine (spec_l2Bare.calls kj1 a0_0 true false false _ A16.out).mono ?_); rintro e w' ⟨rfl, ⟨nd, rfl⟩⟩; refine ⟨_, rfl, ?_⟩))
                          go_ret
                          exact ⟨by first | rfl | (simp [errW_none, errW_some] <;> rfl) | (simp [*, errW_none, errW_some] <;> rfl), by repeat (first | (with_reducible first | exact HB.out | apply below_alloc | apply pw_below_drewN | apply below_drew1 | refine below_set ?_ GE107.out) | exact HB.out)⟩
                        · rw [if_neg c99] at H
                          have c99b0 : decide (10 < a0_3) = false := decide_eq_false c99
                          clear c99
                          obtain rfl := Option.some.inj H
                          have hcz101_0 : wc.cell? ⟨gb107, 0, none⟩ = some (.int .i64 a0_0) := (blk_cell BK107.out 0).trans rfl
                          have hcz101_1 : wc.cell? ⟨gb107, 1, none⟩ = some (.int .i64 a0_1) := (blk_cell BK107.out 1).trans rfl
                          have hcz101_2 : wc.cell? ⟨gb107, 2, none⟩ = some (.int .i64 a0_2) := (blk_cell BK107.out 2).trans rfl
                          have hcz101_3 : wc.cell? ⟨gb107, 3, none⟩ = some (.int .i64 a0_3) := (blk_cell BK107.out 3).trans rfl
                          have hfz101_0 := blk_frozen BK107.out 0
                          have hfz101_1 := blk_frozen BK107.out 1
                          have hfz101_2 := blk_frozen BK107.out 2
                          have hfz101_3 := blk_frozen BK107.out 3
                          go_wp2_with (first | ((with_reducible refine gate_callee (f := 21) rfl ?_); refine goesL_ (some 31) rfl rfl Tryd.func21 (by kernel_rfl) rfl #[.int .i64 a0_0] rfl (by (try simp only [List.map_toArray, List.map_cons, List.map_nil]); first | done | rfl | (simp only [List.length_drop, List.length_take]; rfl)) ?_; (with_reducible refine (spec_l2Bare.calls kj1 a0_0 true false false _ A16.out).mono ?_); rintro e w' ⟨rfl, ⟨nd, rfl⟩⟩; refine ⟨_, rfl, ?_⟩))
                          go_ret
                          exact ⟨by first | rfl | (simp [errW_none, errW_some] <;> rfl) | (simp [*, errW_none, errW_some] <;> rfl), by repeat (first | (with_reducible first | exact HB.out | apply below_alloc | apply pw_below_drewN | apply below_drew1 | refine below_set ?_ GE107.out) | exact HB.out)⟩
                      · rw [if_neg c98] at H
                        have c98b0 : (a0_0 == 22) = false := beq_eq_false_iff_ne.mpr c98
                        have c98b1 : (a0_0 != 22) = true := bne_iff_ne.mpr c98
                        obtain rfl := Option.some.inj H
                        have hcz102_0 : wc.cell? ⟨gb107, 0, none⟩ = some (.int .i64 a0_0) := (blk_cell BK107.out 0).trans rfl
                        have hcz102_1 : wc.cell? ⟨gb107, 1, none⟩ = some (.int .i64 a0_1) := (blk_cell BK107.out 1).trans rfl
                        have hcz102_2 : wc.cell? ⟨gb107, 2, none⟩ = some (.int .i64 a0_2) := (blk_cell BK107.out 2).trans rfl
                        have hcz102_3 : wc.cell? ⟨gb107, 3, none⟩ = some (.int .i64 a0_3) := (blk_cell BK107.out 3).trans rfl
                        have hfz102_0 := blk_frozen BK107.out 0
                        have hfz102_1 := blk_frozen BK107.out 1
                        have hfz102_2 := blk_frozen BK107.out 2
                        have hfz102_3 := blk_frozen BK107.out 3
                        go_wp2_with (first | ((with_reducible refine gate_callee (f := 21) rfl ?_); refine goesL_ (some 31) rfl rfl Tryd.func21 (by kernel_rfl) rfl #[.int .i64 a0_0] rfl (by (try simp only [List.map_toArray, List.map_cons, List.map_nil]); first | done | rfl | (simp only [List.length_drop, List.length_take]; rfl)) ?_; (with_reducible refine (spec_l2Bare.calls kj1 a0_0 true false false _ A16.out).mono ?_); rintro e w' ⟨rfl, ⟨nd, rfl⟩⟩; refine ⟨_, rfl, ?_⟩))
                        go_ret
                        exact ⟨by first | rfl | (simp [errW_none, errW_some] <;> rfl) | (simp [*, errW_none, errW_some] <;> rfl), by repeat (first | (with_reducible first | exact HB.out | apply below_alloc | apply pw_below_drewN | apply below_drew1 | refine below_set ?_ GE107.out) | exact HB.out)⟩
                · rw [if_neg c91] at H
                  have c91b0 : decide (a0_0 ≤ 11) = false := decide_eq_false c91
                  clear c91
                  by_cases c103 : a0_0 = 21
                  · rw [if_pos c103] at H
                    have c103b0 : (a0_0 == 21) = true := beq_iff_eq.mpr c103
                    have c103b1 : (a0_0 != 21) = false := bne_eq_false_iff_eq.mpr c103
                    clear c103
                    by_cases c104 : a0_3 > 10
                    · rw [if_pos c104] at H
                      have c104b0 : decide (10 < a0_3) = true := decide_eq_true c104
                      clear c104
                      obtain rfl := Option.some.inj H
                      have hcz105_0 : wc.cell? ⟨gb107, 0, none⟩ = some (.int .i64 a0_0) := (blk_cell BK107.out 0).trans rfl
                      have hcz105_1 : wc.cell? ⟨gb107, 1, none⟩ = some (.int .i64 a0_1) := (blk_cell BK107.out 1).trans rfl
                      have hcz105_2 : wc.cell? ⟨gb107, 2, none⟩ = some (.int .i64 a0_2) := (blk_cell BK107.out 2).trans rfl
                      have hcz105_3 : wc.cell? ⟨gb107, 3, none⟩ = some (.int .i64 a0_3) := (blk_cell BK107.out 3).trans rfl
                      have hfz105_0 := blk_frozen BK107.out 0
                      have hfz105_1 := blk_frozen BK107.out 1
                      have hfz105_2 := blk_frozen BK107.out 2
                      have hfz105_3 := blk_frozen BK107.out 3
                      go_wp2_with (first | ((with_reducible refine gate_callee (f := 21) rfl ?_); refine goesL_ (some 31) rfl rfl Tryd.func21 (by kernel_rfl) rfl #[.int .i64 a0_0] rfl (by (try simp only [List.map_toArray, List.map_cons, List.map_nil]); first | done | rfl | (simp only [List.length_drop, List.length_take]; rfl)) ?_; (with_reducible refine (spec_l2Bare.calls kj1 a0_0 true false false _ A16.out).mono ?_); rintro e w' ⟨rfl, ⟨nd, rfl⟩⟩; refine ⟨_, rfl, ?_⟩))
                      go_ret
                      exact ⟨by first | rfl | (simp [errW_none, errW_some] <;> rfl) | (simp [*, errW_none, errW_some] <;> rfl), by repeat (first | (with_reducible first | exact HB.out | apply below_alloc | apply pw_below_drewN | apply below_drew1 | refine below_set ?_ GE107.out) | exact HB.out)⟩
                    · rw [if_neg c104] at H
                      have c104b0 : decide (10 < a0_3) = false := decide_eq_false c104
                      clear c104
                      obtain rfl := Option.some.inj H
                      have hcz106_0 : wc.cell? ⟨gb107, 0, none⟩ = some (.int .i64 a0_0) := (blk_cell BK107.out 0).trans rfl
                      have hcz106_1 : wc.cell? ⟨gb107, 1, none⟩ = some (.int .i64 a0_1) := (blk_cell BK107.out 1).trans rfl
                      have hcz106_2 : wc.cell? ⟨gb107, 2, none⟩ = some (.int .i64 a0_2) := (blk_cell BK107.out 2).trans rfl
                      have hcz106_3 : wc.cell? ⟨gb107, 3, none⟩ = some (.int .i64 a0_3) := (blk_cell BK107.out 3).trans rfl
                      have hfz106_0 := blk_frozen BK107.out 0
                      have hfz106_1 := blk_frozen BK107.out 1
                      have hfz106_2 := blk_frozen BK107.out 2
                      have hfz106_3 := blk_frozen BK107.out 3
                      go_wp2_with (first | ((with_reducible refine gate_callee (f := 21) rfl ?_); refine goesL_ (some 31) rfl rfl Tryd.func21 (by kernel_rfl) rfl #[.int .i64 a0_0] rfl (by (try simp only [List.map_toArray, List.map_cons, List.map_nil]); first | done | rfl | (simp only [List.length_drop, List.length_take]; rfl)) ?_; (with_reducible refine (spec_l2Bare.calls kj1 a0_0 true false false _ A16.out).mono ?_); rintro e w' ⟨rfl, ⟨nd, rfl⟩⟩; refine ⟨_, rfl, ?_⟩))
                      go_ret
                      exact ⟨by first | rfl | (simp [errW_none, errW_some] <;> rfl) | (simp [*, errW_none, errW_some] <;> rfl), by repeat (first | (with_reducible first | exact HB.out | apply below_alloc | apply pw_below_drewN | apply below_drew1 | refine below_set ?_ GE107.out) | exact HB.out)⟩
                  · rw [if_neg c103] at H
                    have c103b0 : (a0_0 == 21) = false := beq_eq_false_iff_ne.mpr c103
                    have c103b1 : (a0_0 != 21) = true := bne_iff_ne.mpr c103
                    by_cases c107 : a0_0 = 22
                    · rw [if_pos c107] at H
                      have c107b0 : (a0_0 == 22) = true := beq_iff_eq.mpr c107
                      have c107b1 : (a0_0 != 22) = false := bne_eq_false_iff_eq.mpr c107
                      clear c107
                      by_cases c108 : a0_3 > 10
                      · rw [if_pos c108] at H
                        have c108b0 : decide (10 < a0_3) = true := decide_eq_true c108
                        clear c108
                        obtain rfl := Option.some.inj H
                        have hcz109_0 : wc.cell? ⟨gb107, 0, none⟩ = some (.int .i64 a0_0) := (blk_cell BK107.out 0).trans rfl
                        have hcz109_1 : wc.cell? ⟨gb107, 1, none⟩ = some (.int .i64 a0_1) := (blk_cell BK107.out 1).trans rfl
                        have hcz109_2 : wc.cell? ⟨gb107, 2, none⟩ = some (.int .i64 a0_2) := (blk_cell BK107.out 2).trans rfl
                        have hcz109_3 : wc.cell? ⟨gb107, 3, none⟩ = some (.int .i64 a0_3) := (blk_cell BK107.out 3).trans rfl
                        have hfz109_0 := blk_frozen BK107.out 0
                        have hfz109_1 := blk_frozen BK107.out 1
                        have hfz109_2 := blk_frozen BK107.out 2
                        have hfz109_3 := blk_frozen BK107.out 3
                        go_wp2_with (first | ((with_reducible refine gate_callee (f := 21) rfl ?_); refine goesL_ (some 31) rfl rfl Tryd.func21 (by kernel_rfl) rfl #[.int .i64 a0_0] rfl (by (try simp only [List.map_toArray, List.map_cons, List.map_nil]); first | done | rfl | (simp only [List.length_drop, List.length_take]; rfl)) ?_; (with_reducible refine (spec_l2Bare.calls kj1 a0_0 true false false _ A16.out).mono ?_); rintro e w' ⟨rfl, ⟨nd, rfl⟩⟩; refine ⟨_, rfl, ?_⟩))
                        go_ret
                        exact ⟨by first | rfl | (simp [errW_none, errW_some] <;> rfl) | (simp [*, errW_none, errW_some] <;> rfl), by repeat (first | (with_reducible first | exact HB.out | apply below_alloc | apply pw_below_drewN | apply below_drew1 | refine below_set ?_ GE107.out) | exact HB.out)⟩
                      · rw [if_neg c108] at H
                        have c108b0 : decide (10 < a0_3) = false := decide_eq_false c108
                        clear c108
                        obtain rfl := Option.some.inj H
                        have hcz110_0 : wc.cell? ⟨gb107, 0, none⟩ = some (.int .i64 a0_0) := (blk_cell BK107.out 0).trans rfl
                        have hcz110_1 : wc.cell? ⟨gb107, 1, none⟩ = some (.int .i64 a0_1) := (blk_cell BK107.out 1).trans rfl
                        have hcz110_2 : wc.cell? ⟨gb107, 2, none⟩ = some (.int .i64 a0_2) := (blk_cell BK107.out 2).trans rfl
                        have hcz110_3 : wc.cell? ⟨gb107, 3, none⟩ = some (.int .i64 a0_3) := (blk_cell BK107.out 3).trans rfl
                        have hfz110_0 := blk_frozen BK107.out 0
                        have hfz110_1 := blk_frozen BK107.out 1
                        have hfz110_2 := blk_frozen BK107.out 2
                        have hfz110_3 := blk_frozen BK107.out 3
                        go_wp2_with (first | ((with_reducible refine gate_callee (f := 21) rfl ?_); refine goesL_ (some 31) rfl rfl Tryd.func21 (by kernel_rfl) rfl #[.int .i64 a0_0] rfl (by (try simp only [List.map_toArray, List.map_cons, List.map_nil]); first | done | rfl | (simp only [List.length_drop, List.length_take]; rfl)) ?_; (with_reducible refine (spec_l2Bare.calls kj1 a0_0 true false false _ A16.out).mono ?_); rintro e w' ⟨rfl, ⟨nd, rfl⟩⟩; refine ⟨_, rfl, ?_⟩))
                        go_ret
                        exact ⟨by first | rfl | (simp [errW_none, errW_some] <;> rfl) | (simp [*, errW_none, errW_some] <;> rfl), by repeat (first | (with_reducible first | exact HB.out | apply below_alloc | apply pw_below_drewN | apply below_drew1 | refine below_set ?_ GE107.out) | exact HB.out)⟩
                    · rw [if_neg c107] at H
                      have c107b0 : (a0_0 == 22) = false := beq_eq_false_iff_ne.mpr c107
                      have c107b1 : (a0_0 != 22) = true := bne_iff_ne.mpr c107
                      obtain rfl := Option.some.inj H
                      have hcz111_0 : wc.cell? ⟨gb107, 0, none⟩ = some (.int .i64 a0_0) := (blk_cell BK107.out 0).trans rfl
                      have hcz111_1 : wc.cell? ⟨gb107, 1, none⟩ = some (.int .i64 a0_1) := (blk_cell BK107.out 1).trans rfl
                      have hcz111_2 : wc.cell? ⟨gb107, 2, none⟩ = some (.int .i64 a0_2) := (blk_cell BK107.out 2).trans rfl
                      have hcz111_3 : wc.cell? ⟨gb107, 3, none⟩ = some (.int .i64 a0_3) := (blk_cell BK107.out 3).trans rfl
                      have hfz111_0 := blk_frozen BK107.out 0
                      have hfz111_1 := blk_frozen BK107.out 1
                      have hfz111_2 := blk_frozen BK107.out 2
                      have hfz111_3 := blk_frozen BK107.out 3
                      go_wp2_with (first | ((with_reducible refine gate_callee (f := 21) rfl ?_); refine goesL_ (some 31) rfl rfl Tryd.func21 (by kernel_rfl) rfl #[.int .i64 a0_0] rfl (by (try simp only [List.map_toArray, List.map_cons, List.map_nil]); first | done | rfl | (simp only [List.length_drop, List.length_take]; rfl)) ?_; (with_reducible refine (spec_l2Bare.calls kj1 a0_0 true false false _ A16.out).mono ?_); rintro e w' ⟨rfl, ⟨nd, rfl⟩⟩; refine ⟨_, rfl, ?_⟩))
                      go_ret
                      exact ⟨by first | rfl | (simp [errW_none, errW_some] <;> rfl) | (simp [*, errW_none, errW_some] <;> rfl), by repeat (first | (with_reducible first | exact HB.out | apply below_alloc | apply pw_below_drewN | apply below_drew1 | refine below_set ?_ GE107.out) | exact HB.out)⟩
          · rw [if_neg c18] at H
            have c18b0 : (a0_1 == 0) = false := beq_eq_false_iff_ne.mpr c18
            have c18b1 : (a0_1 != 0) = true := bne_iff_ne.mpr c18
            obtain rfl := Option.some.inj H
            have hcz112_0 : wc.cell? ⟨gb107, 0, none⟩ = some (.int .i64 a0_0) := (blk_cell BK107.out 0).trans rfl
            have hcz112_1 : wc.cell? ⟨gb107, 1, none⟩ = some (.int .i64 a0_1) := (blk_cell BK107.out 1).trans rfl
            have hcz112_2 : wc.cell? ⟨gb107, 2, none⟩ = some (.int .i64 a0_2) := (blk_cell BK107.out 2).trans rfl
            have hcz112_3 : wc.cell? ⟨gb107, 3, none⟩ = some (.int .i64 a0_3) := (blk_cell BK107.out 3).trans rfl
            have hfz112_0 := blk_frozen BK107.out 0
            have hfz112_1 := blk_frozen BK107.out 1
            have hfz112_2 := blk_frozen BK107.out 2
            have hfz112_3 := blk_frozen BK107.out 3
            go_wp2_with (first | ((with_reducible refine gate_callee (f := 21) rfl ?_); refine goesL_ (some 31) rfl rfl Tryd.func21 (by kernel_rfl) rfl #[.int .i64 a0_0] rfl (by (try simp only [List.map_toArray, List.map_cons, List.map_nil]); first | done | rfl | (simp only [List.length_drop, List.length_take]; rfl)) ?_; (with_reducible refine (spec_l2Bare.calls kj1 a0_0 true t113 t114 _ A16.out).mono ?_); rintro e w' ⟨rfl, ⟨nd, rfl⟩⟩; refine ⟨_, rfl, ?_⟩))
            go_ret
            exact ⟨by first | rfl | (simp [errW_none, errW_some] <;> rfl) | (simp [*, errW_none, errW_some] <;> rfl), by repeat (first | (with_reducible first | exact HB.out | apply below_alloc | apply pw_below_drewN | apply below_drew1 | refine below_set ?_ GE107.out) | exact HB.out)⟩
        · replace c17 := Bool.eq_false_iff.mpr c17
          subst c17
          have H1 : (if t113 = true then (if a0_2 = 0 then (if t114 = true then (if a0_3 = 0 then (if a0_0 ≤ 11 then (if a0_3 > 15 then (some 1) else (if a0_0 = 21 then (if a0_3 > 10 then (some 1) else (some 0)) else (if a0_0 = 22 then (if a0_3 > 10 then (some 1) else (some 0)) else (some 0)))) else (if a0_0 = 21 then (if a0_3 > 10 then (some 1) else (some 0)) else (if a0_0 = 22 then (if a0_3 > 10 then (some 1) else (some 0)) else (some 0)))) else (some 1)) else (if a0_0 ≤ 11 then (if a0_3 > 15 then (some 1) else (if a0_0 = 21 then (if a0_3 > 10 then (some 1) else (some 0)) else (if a0_0 = 22 then (if a0_3 > 10 then (some 1) else (some 0)) else (some 0)))) else (if a0_0 = 21 then (if a0_3 > 10 then (some 1) else (some 0)) else (if a0_0 = 22 then (if a0_3 > 10 then (some 1) else (some 0)) else (some 0))))) else (some 1)) else (if t114 = true then (if a0_3 = 0 then (if a0_0 ≤ 11 then (if a0_3 > 15 then (some 1) else (if a0_0 = 21 then (if a0_3 > 10 then (some 1) else (some 0)) else (if a0_0 = 22 then (if a0_3 > 10 then (some 1) else (some 0)) else (some 0)))) else (if a0_0 = 21 then (if a0_3 > 10 then (some 1) else (some 0)) else (if a0_0 = 22 then (if a0_3 > 10 then (some 1) else (some 0)) else (some 0)))) else (some 1)) else (if a0_0 ≤ 11 then (if a0_3 > 15 then (some 1) else (if a0_0 = 21 then (if a0_3 > 10 then (some 1) else (some 0)) else (if a0_0 = 22 then (if a0_3 > 10 then (some 1) else (some 0)) else (some 0)))) else (if a0_0 = 21 then (if a0_3 > 10 then (some 1) else (some 0)) else (if a0_0 = 22 then (if a0_3 > 10 then (some 1) else (some 0)) else (some 0)))))) = some r := by rw [if_neg (show ¬ (false = true) by decide)] at H; exact H
          clear H
          have H := H1
          clear H1
          by_cases c113 : t113 = true
          · subst c113
            have H1 : (if a0_2 = 0 then (if t114 = true then (if a0_3 = 0 then (if a0_0 ≤ 11 then (if a0_3 > 15 then (some 1) else (if a0_0 = 21 then (if a0_3 > 10 then (some 1) else (some 0)) else (if a0_0 = 22 then (if a0_3 > 10 then (some 1) else (some 0)) else (some 0)))) else (if a0_0 = 21 then (if a0_3 > 10 then (some 1) else (some 0)) else (if a0_0 = 22 then (if a0_3 > 10 then (some 1) else (some 0)) else (some 0)))) else (some 1)) else (if a0_0 ≤ 11 then (if a0_3 > 15 then (some 1) else (if a0_0 = 21 then (if a0_3 > 10 then (some 1) else (some 0)) else (if a0_0 = 22 then (if a0_3 > 10 then (some 1) else (some 0)) else (some 0)))) else (if a0_0 = 21 then (if a0_3 > 10 then (some 1) else (some 0)) else (if a0_0 = 22 then (if a0_3 > 10 then (some 1) else (some 0)) else (some 0))))) else (some 1)) = some r := by rw [if_pos rfl] at H; exact H
            clear H
            have H := H1
            clear H1
            by_cases c114 : a0_2 = 0
            · rw [if_pos c114] at H
              have c114b0 : (a0_2 == 0) = true := beq_iff_eq.mpr c114
              have c114b1 : (a0_2 != 0) = false := bne_eq_false_iff_eq.mpr c114
              clear c114
              by_cases c115 : t114 = true
              · subst c115
                have H1 : (if a0_3 = 0 then (if a0_0 ≤ 11 then (if a0_3 > 15 then (some 1) else (if a0_0 = 21 then (if a0_3 > 10 then (some 1) else (some 0)) else (if a0_0 = 22 then (if a0_3 > 10 then (some 1) else (some 0)) else (some 0)))) else (if a0_0 = 21 then (if a0_3 > 10 then (some 1) else (some 0)) else (if a0_0 = 22 then (if a0_3 > 10 then (some 1) else (some 0)) else (some 0)))) else (some 1)) = some r := by rw [if_pos rfl] at H; exact H
                clear H
                have H := H1
                clear H1
                by_cases c116 : a0_3 = 0
                · rw [if_pos c116] at H
                  have c116b0 : (a0_3 == 0) = true := beq_iff_eq.mpr c116
                  have c116b1 : (a0_3 != 0) = false := bne_eq_false_iff_eq.mpr c116
                  clear c116
                  by_cases c117 : a0_0 ≤ 11
                  · rw [if_pos c117] at H
                    have c117b0 : decide (a0_0 ≤ 11) = true := decide_eq_true c117
                    clear c117
                    by_cases c118 : a0_3 > 15
                    · rw [if_pos c118] at H
                      have c118b0 : decide (15 < a0_3) = true := decide_eq_true c118
                      clear c118
                      obtain rfl := Option.some.inj H
                      have hcz119_0 : wc.cell? ⟨gb107, 0, none⟩ = some (.int .i64 a0_0) := (blk_cell BK107.out 0).trans rfl
                      have hcz119_1 : wc.cell? ⟨gb107, 1, none⟩ = some (.int .i64 a0_1) := (blk_cell BK107.out 1).trans rfl
                      have hcz119_2 : wc.cell? ⟨gb107, 2, none⟩ = some (.int .i64 a0_2) := (blk_cell BK107.out 2).trans rfl
                      have hcz119_3 : wc.cell? ⟨gb107, 3, none⟩ = some (.int .i64 a0_3) := (blk_cell BK107.out 3).trans rfl
                      have hfz119_0 := blk_frozen BK107.out 0
                      have hfz119_1 := blk_frozen BK107.out 1
                      have hfz119_2 := blk_frozen BK107.out 2
                      have hfz119_3 := blk_frozen BK107.out 3
                      go_wp2_with (first | ((with_reducible refine gate_callee (f := 21) rfl ?_); refine goesL_ (some 31) rfl rfl Tryd.func21 (by kernel_rfl) rfl #[.int .i64 a0_0] rfl (by (try simp only [List.map_toArray, List.map_cons, List.map_nil]); first | done | rfl | (simp only [List.length_drop, List.length_take]; rfl)) ?_; (with_reducible refine (spec_l2Bare.calls kj1 a0_0 false true true _ A16.out).mono ?_); rintro e w' ⟨rfl, ⟨nd, rfl⟩⟩; refine ⟨_, rfl, ?_⟩))
                      go_ret
                      exact ⟨by first | rfl | (simp [errW_none, errW_some] <;> rfl) | (simp [*, errW_none, errW_some] <;> rfl), by repeat (first | (with_reducible first | exact HB.out | apply below_alloc | apply pw_below_drewN | apply below_drew1 | refine below_set ?_ GE107.out) | exact HB.out)⟩
                    · rw [if_neg c118] at H
                      have c118b0 : decide (15 < a0_3) = false := decide_eq_false c118
                      clear c118
                      by_cases c120 : a0_0 = 21
                      · rw [if_pos c120] at H
                        have c120b0 : (a0_0 == 21) = true := beq_iff_eq.mpr c120
                        have c120b1 : (a0_0 != 21) = false := bne_eq_false_iff_eq.mpr c120
                        clear c120
                        by_cases c121 : a0_3 > 10
                        · rw [if_pos c121] at H
                          have c121b0 : decide (10 < a0_3) = true := decide_eq_true c121
                          clear c121
                          obtain rfl := Option.some.inj H
                          have hcz122_0 : wc.cell? ⟨gb107, 0, none⟩ = some (.int .i64 a0_0) := (blk_cell BK107.out 0).trans rfl
                          have hcz122_1 : wc.cell? ⟨gb107, 1, none⟩ = some (.int .i64 a0_1) := (blk_cell BK107.out 1).trans rfl
                          have hcz122_2 : wc.cell? ⟨gb107, 2, none⟩ = some (.int .i64 a0_2) := (blk_cell BK107.out 2).trans rfl
                          have hcz122_3 : wc.cell? ⟨gb107, 3, none⟩ = some (.int .i64 a0_3) := (blk_cell BK107.out 3).trans rfl
                          have hfz122_0 := blk_frozen BK107.out 0
                          have hfz122_1 := blk_frozen BK107.out 1
                          have hfz122_2 := blk_frozen BK107.out 2
                          have hfz122_3 := blk_frozen BK107.out 3
                          go_wp2_with (first | ((with_reducible refine gate_callee (f := 21) rfl ?_); refine goesL_ (some 31) rfl rfl Tryd.func21 (by kernel_rfl) rfl #[.int .i64 a0_0] rfl (by (try simp only [List.map_toArray, List.map_cons, List.map_nil]); first | done | rfl | (simp only [List.length_drop, List.length_take]; rfl)) ?_; (with_reducible refine (spec_l2Bare.calls kj1 a0_0 false true true _ A16.out).mono ?_); rintro e w' ⟨rfl, ⟨nd, rfl⟩⟩; refine ⟨_, rfl, ?_⟩))
                          go_ret
                          exact ⟨by first | rfl | (simp [errW_none, errW_some] <;> rfl) | (simp [*, errW_none, errW_some] <;> rfl), by repeat (first | (with_reducible first | exact HB.out | apply below_alloc | apply pw_below_drewN | apply below_drew1 | refine below_set ?_ GE107.out) | exact HB.out)⟩
                        · rw [if_neg c121] at H
                          have c121b0 : decide (10 < a0_3) = false := decide_eq_false c121
                          clear c121
                          obtain rfl := Option.some.inj H
                          have hcz123_0 : wc.cell? ⟨gb107, 0, none⟩ = some (.int .i64 a0_0) := (blk_cell BK107.out 0).trans rfl
                          have hcz123_1 : wc.cell? ⟨gb107, 1, none⟩ = some (.int .i64 a0_1) := (blk_cell BK107.out 1).trans rfl
                          have hcz123_2 : wc.cell? ⟨gb107, 2, none⟩ = some (.int .i64 a0_2) := (blk_cell BK107.out 2).trans rfl
                          have hcz123_3 : wc.cell? ⟨gb107, 3, none⟩ = some (.int .i64 a0_3) := (blk_cell BK107.out 3).trans rfl
                          have hfz123_0 := blk_frozen BK107.out 0
                          have hfz123_1 := blk_frozen BK107.out 1
                          have hfz123_2 := blk_frozen BK107.out 2
                          have hfz123_3 := blk_frozen BK107.out 3
                          go_wp2_with (first | ((with_reducible refine gate_callee (f := 21) rfl ?_); refine goesL_ (some 31) rfl rfl Tryd.func21 (by kernel_rfl) rfl #[.int .i64 a0_0] rfl (by (try simp only [List.map_toArray, List.map_cons, List.map_nil]); first | done | rfl | (simp only [List.length_drop, List.length_take]; rfl)) ?_; (with_reducible refine (spec_l2Bare.calls kj1 a0_0 false true true _ A16.out).mono ?_); rintro e w' ⟨rfl, ⟨nd, rfl⟩⟩; refine ⟨_, rfl, ?_⟩))
                          go_ret
                          exact ⟨by first | rfl | (simp [errW_none, errW_some] <;> rfl) | (simp [*, errW_none, errW_some] <;> rfl), by repeat (first | (with_reducible first | exact HB.out | apply below_alloc | apply pw_below_drewN | apply below_drew1 | refine below_set ?_ GE107.out) | exact HB.out)⟩
                      · rw [if_neg c120] at H
                        have c120b0 : (a0_0 == 21) = false := beq_eq_false_iff_ne.mpr c120
                        have c120b1 : (a0_0 != 21) = true := bne_iff_ne.mpr c120
                        by_cases c124 : a0_0 = 22
                        · rw [if_pos c124] at H
                          have c124b0 : (a0_0 == 22) = true := beq_iff_eq.mpr c124
                          have c124b1 : (a0_0 != 22) = false := bne_eq_false_iff_eq.mpr c124
                          clear c124
                          by_cases c125 : a0_3 > 10
                          · rw [if_pos c125] at H
                            have c125b0 : decide (10 < a0_3) = true := decide_eq_true c125
                            clear c125
                            obtain rfl := Option.some.inj H
                            have hcz126_0 : wc.cell? ⟨gb107, 0, none⟩ = some (.int .i64 a0_0) := (blk_cell BK107.out 0).trans rfl
                            have hcz126_1 : wc.cell? ⟨gb107, 1, none⟩ = some (.int .i64 a0_1) := (blk_cell BK107.out 1).trans rfl
                            have hcz126_2 : wc.cell? ⟨gb107, 2, none⟩ = some (.int .i64 a0_2) := (blk_cell BK107.out 2).trans rfl
                            have hcz126_3 : wc.cell? ⟨gb107, 3, none⟩ = some (.int .i64 a0_3) := (blk_cell BK107.out 3).trans rfl
                            have hfz126_0 := blk_frozen BK107.out 0
                            have hfz126_1 := blk_frozen BK107.out 1
                            have hfz126_2 := blk_frozen BK107.out 2
                            have hfz126_3 := blk_frozen BK107.out 3
                            go_wp2_with (first | ((with_reducible refine gate_callee (f := 21) rfl ?_); refine goesL_ (some 31) rfl rfl Tryd.func21 (by kernel_rfl) rfl #[.int .i64 a0_0] rfl (by (try simp only [List.map_toArray, List.map_cons, List.map_nil]); first | done | rfl | (simp only [List.length_drop, List.length_take]; rfl)) ?_; (with_reducible refine (spec_l2Bare.calls kj1 a0_0 false true true _ A16.out).mono ?_); rintro e w' ⟨rfl, ⟨nd, rfl⟩⟩; refine ⟨_, rfl, ?_⟩))
                            go_ret
                            exact ⟨by first | rfl | (simp [errW_none, errW_some] <;> rfl) | (simp [*, errW_none, errW_some] <;> rfl), by repeat (first | (with_reducible first | exact HB.out | apply below_alloc | apply pw_below_drewN | apply below_drew1 | refine below_set ?_ GE107.out) | exact HB.out)⟩
                          · rw [if_neg c125] at H
                            have c125b0 : decide (10 < a0_3) = false := decide_eq_false c125
                            clear c125
                            obtain rfl := Option.some.inj H
                            have hcz127_0 : wc.cell? ⟨gb107, 0, none⟩ = some (.int .i64 a0_0) := (blk_cell BK107.out 0).trans rfl
                            have hcz127_1 : wc.cell? ⟨gb107, 1, none⟩ = some (.int .i64 a0_1) := (blk_cell BK107.out 1).trans rfl
                            have hcz127_2 : wc.cell? ⟨gb107, 2, none⟩ = some (.int .i64 a0_2) := (blk_cell BK107.out 2).trans rfl
                            have hcz127_3 : wc.cell? ⟨gb107, 3, none⟩ = some (.int .i64 a0_3) := (blk_cell BK107.out 3).trans rfl
                            have hfz127_0 := blk_frozen BK107.out 0
                            have hfz127_1 := blk_frozen BK107.out 1
                            have hfz127_2 := blk_frozen BK107.out 2
                            have hfz127_3 := blk_frozen BK107.out 3
                            go_wp2_with (first | ((with_reducible refine gate_callee (f := 21) rfl ?_); refine goesL_ (some 31) rfl rfl Tryd.func21 (by kernel_rfl) rfl #[.int .i64 a0_0] rfl (by (try simp only [List.map_toArray, List.map_cons, List.map_nil]); first | done | rfl | (simp only [List.length_drop, List.length_take]; rfl)) ?_; (with_reducible refine (spec_l2Bare.calls kj1 a0_0 false true true _ A16.out).mono ?_); rintro e w' ⟨rfl, ⟨nd, rfl⟩⟩; refine ⟨_, rfl, ?_⟩))
                            go_ret
                            exact ⟨by first | rfl | (simp [errW_none, errW_some] <;> rfl) | (simp [*, errW_none, errW_some] <;> rfl), by repeat (first | (with_reducible first | exact HB.out | apply below_alloc | apply pw_below_drewN | apply below_drew1 | refine below_set ?_ GE107.out) | exact HB.out)⟩
                        · rw [if_neg c124] at H
                          have c124b0 : (a0_0 == 22) = false := beq_eq_false_iff_ne.mpr c124
                          have c124b1 : (a0_0 != 22) = true := bne_iff_ne.mpr c124
                          obtain rfl := Option.some.inj H
                          have hcz128_0 : wc.cell? ⟨gb107, 0, none⟩ = some (.int .i64 a0_0) := (blk_cell BK107.out 0).trans rfl
                          have hcz128_1 : wc.cell? ⟨gb107, 1, none⟩ = some (.int .i64 a0_1) := (blk_cell BK107.out 1).trans rfl
                          have hcz128_2 : wc.cell? ⟨gb107, 2, none⟩ = some (.int .i64 a0_2) := (blk_cell BK107.out 2).trans rfl
                          have hcz128_3 : wc.cell? ⟨gb107, 3, none⟩ = some (.int .i64 a0_3) := (blk_cell BK107.out 3).trans rfl
                          have hfz128_0 := blk_frozen BK107.out 0
                          have hfz128_1 := blk_frozen BK107.out 1
                          have hfz128_2 := blk_frozen BK107.out 2
                          have hfz128_3 := blk_frozen BK107.out 3
                          go_wp2_with (first | ((with_reducible refine gate_callee (f := 21) rfl ?_); refine goesL_ (some 31) rfl rfl Tryd.func21 (by kernel_rfl) rfl #[.int .i64 a0_0] rfl (by (try simp only [List.map_toArray, List.map_cons, List.map_nil]); first | done | rfl | (simp only [List.length_drop, List.length_take]; rfl)) ?_; (with_reducible refine (spec_l2Bare.calls kj1 a0_0 false true true _ A16.out).mono ?_); rintro e w' ⟨rfl, ⟨nd, rfl⟩⟩; refine ⟨_, rfl, ?_⟩))
                          go_ret
                          exact ⟨by first | rfl | (simp [errW_none, errW_some] <;> rfl) | (simp [*, errW_none, errW_some] <;> rfl), by repeat (first | (with_reducible first | exact HB.out | apply below_alloc | apply pw_below_drewN | apply below_drew1 | refine below_set ?_ GE107.out) | exact HB.out)⟩
                  · rw [if_neg c117] at H
                    have c117b0 : decide (a0_0 ≤ 11) = false := decide_eq_false c117
                    clear c117
                    by_cases c129 : a0_0 = 21
                    · rw [if_pos c129] at H
                      have c129b0 : (a0_0 == 21) = true := beq_iff_eq.mpr c129
                      have c129b1 : (a0_0 != 21) = false := bne_eq_false_iff_eq.mpr c129
                      clear c129
                      by_cases c130 : a0_3 > 10
                      · rw [if_pos c130] at H
                        have c130b0 : decide (10 < a0_3) = true := decide_eq_true c130
                        clear c130
                        obtain rfl := Option.some.inj H
                        have hcz131_0 : wc.cell? ⟨gb107, 0, none⟩ = some (.int .i64 a0_0) := (blk_cell BK107.out 0).trans rfl
                        have hcz131_1 : wc.cell? ⟨gb107, 1, none⟩ = some (.int .i64 a0_1) := (blk_cell BK107.out 1).trans rfl
                        have hcz131_2 : wc.cell? ⟨gb107, 2, none⟩ = some (.int .i64 a0_2) := (blk_cell BK107.out 2).trans rfl
                        have hcz131_3 : wc.cell? ⟨gb107, 3, none⟩ = some (.int .i64 a0_3) := (blk_cell BK107.out 3).trans rfl
                        have hfz131_0 := blk_frozen BK107.out 0
                        have hfz131_1 := blk_frozen BK107.out 1
                        have hfz131_2 := blk_frozen BK107.out 2
                        have hfz131_3 := blk_frozen BK107.out 3
                        go_wp2_with (first | ((with_reducible refine gate_callee (f := 21) rfl ?_); refine goesL_ (some 31) rfl rfl Tryd.func21 (by kernel_rfl) rfl #[.int .i64 a0_0] rfl (by (try simp only [List.map_toArray, List.map_cons, List.map_nil]); first | done | rfl | (simp only [List.length_drop, List.length_take]; rfl)) ?_; (with_reducible refine (spec_l2Bare.calls kj1 a0_0 false true true _ A16.out).mono ?_); rintro e w' ⟨rfl, ⟨nd, rfl⟩⟩; refine ⟨_, rfl, ?_⟩))
                        go_ret
                        exact ⟨by first | rfl | (simp [errW_none, errW_some] <;> rfl) | (simp [*, errW_none, errW_some] <;> rfl), by repeat (first | (with_reducible first | exact HB.out | apply below_alloc | apply pw_below_drewN | apply below_drew1 | refine below_set ?_ GE107.out) | exact HB.out)⟩
                      · rw [if_neg c130] at H
                        have c130b0 : decide (10 < a0_3) = false := decide_eq_false c130
                        clear c130
                        obtain rfl := Option.some.inj H
                        have hcz132_0 : wc.cell? ⟨gb107, 0, none⟩ = some (.int .i64 a0_0) := (blk_cell BK107.out 0).trans rfl
                        have hcz132_1 : wc.cell? ⟨gb107, 1, none⟩ = some (.int .i64 a0_1) := (blk_cell BK107.out 1).trans rfl
                        have hcz132_2 : wc.cell? ⟨gb107, 2, none⟩ = some (.int .i64 a0_2) := (blk_cell BK107.out 2).trans rfl
                        have hcz132_3 : wc.cell? ⟨gb107, 3, none⟩ = some (.int .i64 a0_3) := (blk_cell BK107.out 3).trans rfl
                        have hfz132_0 := blk_frozen BK107.out 0
                        have hfz132_1 := blk_frozen BK107.out 1
                        have hfz132_2 := blk_frozen BK107.out 2
                        have hfz132_3 := blk_frozen BK107.out 3
                        go_wp2_with (first | ((with_reducible refine gate_callee (f := 21) rfl ?_); refine goesL_ (some 31) rfl rfl Tryd.func21 (by kernel_rfl) rfl #[.int .i64 a0_0] rfl (by (try simp only [List.map_toArray, List.map_cons, List.map_nil]); first | done | rfl | (simp only [List.length_drop, List.length_take]; rfl)) ?_; (with_reducible refine (spec_l2Bare.calls kj1 a0_0 false true true _ A16.out).mono ?_); rintro e w' ⟨rfl, ⟨nd, rfl⟩⟩; refine ⟨_, rfl, ?_⟩))
                        go_ret
                        exact ⟨by first | rfl | (simp [errW_none, errW_some] <;> rfl) | (simp [*, errW_none, errW_some] <;> rfl), by repeat (first | (with_reducible first | exact HB.out | apply below_alloc | apply pw_below_drewN | apply below_drew1 | refine below_set ?_ GE107.out) | exact HB.out)⟩
                    · rw [if_neg c129] at H
                      have c129b0 : (a0_0 == 21) = false := beq_eq_false_iff_ne.mpr c129
                      have c129b1 : (a0_0 != 21) = true := bne_iff_ne.mpr c129
                      by_cases c133 : a0_0 = 22
                      · rw [if_pos c133] at H
                        have c133b0 : (a0_0 == 22) = true := beq_iff_eq.mpr c133
                        have c133b1 : (a0_0 != 22) = false := bne_eq_false_iff_eq.mpr c133
                        clear c133
                        by_cases c134 : a0_3 > 10
                        · rw [if_pos c134] at H
                          have c134b0 : decide (10 < a0_3) = true := decide_eq_true c134
                          clear c134
                          obtain rfl := Option.some.inj H
                          have hcz135_0 : wc.cell? ⟨gb107, 0, none⟩ = some (.int .i64 a0_0) := (blk_cell BK107.out 0).trans rfl
                          have hcz135_1 : wc.cell? ⟨gb107, 1, none⟩ = some (.int .i64 a0_1) := (blk_cell BK107.out 1).trans rfl
                          have hcz135_2 : wc.cell? ⟨gb107, 2, none⟩ = some (.int .i64 a0_2) := (blk_cell BK107.out 2).trans rfl
                          have hcz135_3 : wc.cell? ⟨gb107, 3, none⟩ = some (.int .i64 a0_3) := (blk_cell BK107.out 3).trans rfl
                          have hfz135_0 := blk_frozen BK107.out 0
                          have hfz135_1 := blk_frozen BK107.out 1
                          have hfz135_2 := blk_frozen BK107.out 2
                          have hfz135_3 := blk_frozen BK107.out 3
                          go_wp2_with (first | ((with_reducible refine gate_callee (f := 21) rfl ?_); refine goesL_ (some 31) rfl rfl Tryd.func21 (by kernel_rfl) rfl #[.int .i64 a0_0] rfl (by (try simp only [List.map_toArray, List.map_cons, List.map_nil]); first | done | rfl | (simp only [List.length_drop, List.length_take]; rfl)) ?_; (with_reducible refine (spec_l2Bare.calls kj1 a0_0 false true true _ A16.out).mono ?_); rintro e w' ⟨rfl, ⟨nd, rfl⟩⟩; refine ⟨_, rfl, ?_⟩))
                          go_ret
                          exact ⟨by first | rfl | (simp [errW_none, errW_some] <;> rfl) | (simp [*, errW_none, errW_some] <;> rfl), by repeat (first | (with_reducible first | exact HB.out | apply below_alloc | apply pw_below_drewN | apply below_drew1 | refine below_set ?_ GE107.out) | exact HB.out)⟩
                        · rw [if_neg c134] at H
                          have c134b0 : decide (10 < a0_3) = false := decide_eq_false c134
                          clear c134
                          obtain rfl := Option.some.inj H
                          have hcz136_0 : wc.cell? ⟨gb107, 0, none⟩ = some (.int .i64 a0_0) := (blk_cell BK107.out 0).trans rfl
                          have hcz136_1 : wc.cell? ⟨gb107, 1, none⟩ = some (.int .i64 a0_1) := (blk_cell BK107.out 1).trans rfl
                          have hcz136_2 : wc.cell? ⟨gb107, 2, none⟩ = some (.int .i64 a0_2) := (blk_cell BK107.out 2).trans rfl
                          have hcz136_3 : wc.cell? ⟨gb107, 3, none⟩ = some (.int .i64 a0_3) := (blk_cell BK107.out 3).trans rfl
                          have hfz136_0 := blk_frozen BK107.out 0
                          have hfz136_1 := blk_frozen BK107.out 1
                          have hfz136_2 := blk_frozen BK107.out 2
                          have hfz136_3 := blk_frozen BK107.out 3
                          go_wp2_with (first | ((with_reducible refine gate_callee (f := 21) rfl ?_); refine goesL_ (some 31) rfl rfl Tryd.func21 (by kernel_rfl) rfl #[.int .i64 a0_0] rfl (by (try simp only [List.map_toArray, List.map_cons, List.map_nil]); first | done | rfl | (simp only [List.length_drop, List.length_take]; rfl)) ?_; (with_reducible refine (spec_l2Bare.calls kj1 a0_0 false true true _ A16.out).mono ?_); rintro e w' ⟨rfl, ⟨nd, rfl⟩⟩; refine ⟨_, rfl, ?_⟩))
                          go_ret
                          exact ⟨by first | rfl | (simp [errW_none, errW_some] <;> rfl) | (simp [*, errW_none, errW_some] <;> rfl), by repeat (first | (with_reducible first | exact HB.out | apply below_alloc | apply pw_below_drewN | apply below_drew1 | refine below_set ?_ GE107.out) | exact HB.out)⟩
                      · rw [if_neg c133] at H
                        have c133b0 : (a0_0 == 22) = false := beq_eq_false_iff_ne.mpr c133
                        have c133b1 : (a0_0 != 22) = true := bne_iff_ne.mpr c133
                        obtain rfl := Option.some.inj H
                        have hcz137_0 : wc.cell? ⟨gb107, 0, none⟩ = some (.int .i64 a0_0) := (blk_cell BK107.out 0).trans rfl
                        have hcz137_1 : wc.cell? ⟨gb107, 1, none⟩ = some (.int .i64 a0_1) := (blk_cell BK107.out 1).trans rfl
                        have hcz137_2 : wc.cell? ⟨gb107, 2, none⟩ = some (.int .i64 a0_2) := (blk_cell BK107.out 2).trans rfl
                        have hcz137_3 : wc.cell? ⟨gb107, 3, none⟩ = some (.int .i64 a0_3) := (blk_cell BK107.out 3).trans rfl
                        have hfz137_0 := blk_frozen BK107.out 0
                        have hfz137_1 := blk_frozen BK107.out 1
                        have hfz137_2 := blk_frozen BK107.out 2
                        have hfz137_3 := blk_frozen BK107.out 3
                        go_wp2_with (first | ((with_reducible refine gate_callee (f := 21) rfl ?_); refine goesL_ (some 31) rfl rfl Tryd.func21 (by kernel_rfl) rfl #[.int .i64 a0_0] rfl (by (try simp only [List.map_toArray, List.map_cons, List.map_nil]); first | done | rfl | (simp only [List.length_drop, List.length_take]; rfl)) ?_; (with_reducible refine (spec_l2Bare.calls kj1 a0_0 false true true _ A16.out).mono ?_); rintro e w' ⟨rfl, ⟨nd, rfl⟩⟩; refine ⟨_, rfl, ?_⟩))
                        go_ret
                        exact ⟨by first | rfl | (simp [errW_none, errW_some] <;> rfl) | (simp [*, errW_none, errW_some] <;> rfl), by repeat (first | (with_reducible first | exact HB.out | apply below_alloc | apply pw_below_drewN | apply below_drew1 | refine below_set ?_ GE107.out) | exact HB.out)⟩
                · rw [if_neg c116] at H
                  have c116b0 : (a0_3 == 0) = false := beq_eq_false_iff_ne.mpr c116
                  have c116b1 : (a0_3 != 0) = true := bne_iff_ne.mpr c116
                  obtain rfl := Option.some.inj H
                  have hcz138_0 : wc.cell? ⟨gb107, 0, none⟩ = some (.int .i64 a0_0) := (blk_cell BK107.out 0).trans rfl
                  have hcz138_1 : wc.cell? ⟨gb107, 1, none⟩ = some (.int .i64 a0_1) := (blk_cell BK107.out 1).trans rfl
                  have hcz138_2 : wc.cell? ⟨gb107, 2, none⟩ = some (.int .i64 a0_2) := (blk_cell BK107.out 2).trans rfl
                  have hcz138_3 : wc.cell? ⟨gb107, 3, none⟩ = some (.int .i64 a0_3) := (blk_cell BK107.out 3).trans rfl
                  have hfz138_0 := blk_frozen BK107.out 0
                  have hfz138_1 := blk_frozen BK107.out 1
                  have hfz138_2 := blk_frozen BK107.out 2
                  have hfz138_3 := blk_frozen BK107.out 3
                  go_wp2_with (first | ((with_reducible refine gate_callee (f := 21) rfl ?_); refine goesL_ (some 31) rfl rfl Tryd.func21 (by kernel_rfl) rfl #[.int .i64 a0_0] rfl (by (try simp only [List.map_toArray, List.map_cons, List.map_nil]); first | done | rfl | (simp only [List.length_drop, List.length_take]; rfl)) ?_; (with_reducible refine (spec_l2Bare.calls kj1 a0_0 false true true _ A16.out).mono ?_); rintro e w' ⟨rfl, ⟨nd, rfl⟩⟩; refine ⟨_, rfl, ?_⟩))
                  go_ret
                  exact ⟨by first | rfl | (simp [errW_none, errW_some] <;> rfl) | (simp [*, errW_none, errW_some] <;> rfl), by repeat (first | (with_reducible first | exact HB.out | apply below_alloc | apply pw_below_drewN | apply below_drew1 | refine below_set ?_ GE107.out) | exact HB.out)⟩
              · replace c115 := Bool.eq_false_iff.mpr c115
                subst c115
                have H1 : (if a0_0 ≤ 11 then (if a0_3 > 15 then (some 1) else (if a0_0 = 21 then (if a0_3 > 10 then (some 1) else (some 0)) else (if a0_0 = 22 then (if a0_3 > 10 then (some 1) else (some 0)) else (some 0)))) else (if a0_0 = 21 then (if a0_3 > 10 then (some 1) else (some 0)) else (if a0_0 = 22 then (if a0_3 > 10 then (some 1) else (some 0)) else (some 0)))) = some r := by rw [if_neg (show ¬ (false = true) by decide)] at H; exact H
                clear H
                have H := H1
                clear H1
                by_cases c139 : a0_0 ≤ 11
                · rw [if_pos c139] at H
                  have c139b0 : decide (a0_0 ≤ 11) = true := decide_eq_true c139
                  clear c139
                  by_cases c140 : a0_3 > 15
                  · rw [if_pos c140] at H
                    have c140b0 : decide (15 < a0_3) = true := decide_eq_true c140
                    clear c140
                    obtain rfl := Option.some.inj H
                    have hcz141_0 : wc.cell? ⟨gb107, 0, none⟩ = some (.int .i64 a0_0) := (blk_cell BK107.out 0).trans rfl
                    have hcz141_1 : wc.cell? ⟨gb107, 1, none⟩ = some (.int .i64 a0_1) := (blk_cell BK107.out 1).trans rfl
                    have hcz141_2 : wc.cell? ⟨gb107, 2, none⟩ = some (.int .i64 a0_2) := (blk_cell BK107.out 2).trans rfl
                    have hcz141_3 : wc.cell? ⟨gb107, 3, none⟩ = some (.int .i64 a0_3) := (blk_cell BK107.out 3).trans rfl
                    have hfz141_0 := blk_frozen BK107.out 0
                    have hfz141_1 := blk_frozen BK107.out 1
                    have hfz141_2 := blk_frozen BK107.out 2
                    have hfz141_3 := blk_frozen BK107.out 3
                    go_wp2_with (first | ((with_reducible refine gate_callee (f := 21) rfl ?_); refine goesL_ (some 31) rfl rfl Tryd.func21 (by kernel_rfl) rfl #[.int .i64 a0_0] rfl (by (try simp only [List.map_toArray, List.map_cons, List.map_nil]); first | done | rfl | (simp only [List.length_drop, List.length_take]; rfl)) ?_; (with_reducible refine (spec_l2Bare.calls kj1 a0_0 false true false _ A16.out).mono ?_); rintro e w' ⟨rfl, ⟨nd, rfl⟩⟩; refine ⟨_, rfl, ?_⟩))
                    go_ret
                    exact ⟨by first | rfl | (simp [errW_none, errW_some] <;> rfl) | (simp [*, errW_none, errW_some] <;> rfl), by repeat (first | (with_reducible first | exact HB.out | apply below_alloc | apply pw_below_drewN | apply below_drew1 | refine below_set ?_ GE107.out) | exact HB.out)⟩
                  · rw [if_neg c140] at H
                    have c140b0 : decide (15 < a0_3) = false := decide_eq_false c140
                    clear c140
                    by_cases c142 : a0_0 = 21
                    · rw [if_pos c142] at H
                      have c142b0 : (a0_0 == 21) = true := beq_iff_eq.mpr c142
                      have c142b1 : (a0_0 != 21) = false := bne_eq_false_iff_eq.mpr c142
                      clear c142
                      by_cases c143 : a0_3 > 10
                      · rw [if_pos c143] at H
                        have c143b0 : decide (10 < a0_3) = true := decide_eq_true c143
                        clear c143
                        obtain rfl := Option.some.inj H
                        have hcz144_0 : wc.cell? ⟨gb107, 0, none⟩ = some (.int .i64 a0_0) := (blk_cell BK107.out 0).trans rfl
                        have hcz144_1 : wc.cell? ⟨gb107, 1, none⟩ = some (.int .i64 a0_1) := (blk_cell BK107.out 1).trans rfl
                        have hcz144_2 : wc.cell? ⟨gb107, 2, none⟩ = some (.int .i64 a0_2) := (blk_cell BK107.out 2).trans rfl
                        have hcz144_3 : wc.cell? ⟨gb107, 3, none⟩ = some (.int .i64 a0_3) := (blk_cell BK107.out 3).trans rfl
                        have hfz144_0 := blk_frozen BK107.out 0
                        have hfz144_1 := blk_frozen BK107.out 1
                        have hfz144_2 := blk_frozen BK107.out 2
                        have hfz144_3 := blk_frozen BK107.out 3
                        go_wp2_with (first | ((with_reducible refine gate_callee (f := 21) rfl ?_); refine goesL_ (some 31) rfl rfl Tryd.func21 (by kernel_rfl) rfl #[.int .i64 a0_0] rfl (by (try simp only [List.map_toArray, List.map_cons, List.map_nil]); first | done | rfl | (simp only [List.length_drop, List.length_take]; rfl)) ?_; (with_reducible refine (spec_l2Bare.calls kj1 a0_0 false true false _ A16.out).mono ?_); rintro e w' ⟨rfl, ⟨nd, rfl⟩⟩; refine ⟨_, rfl, ?_⟩))
                        go_ret
                        exact ⟨by first | rfl | (simp [errW_none, errW_some] <;> rfl) | (simp [*, errW_none, errW_some] <;> rfl), by repeat (first | (with_reducible first | exact HB.out | apply below_alloc | apply pw_below_drewN | apply below_drew1 | refine below_set ?_ GE107.out) | exact HB.out)⟩
                      · rw [if_neg c143] at H
                        have c143b0 : decide (10 < a0_3) = false := decide_eq_false c143
                        clear c143
                        obtain rfl := Option.some.inj H
                        have hcz145_0 : wc.cell? ⟨gb107, 0, none⟩ = some (.int .i64 a0_0) := (blk_cell BK107.out 0).trans rfl
                        have hcz145_1 : wc.cell? ⟨gb107, 1, none⟩ = some (.int .i64 a0_1) := (blk_cell BK107.out 1).trans rfl
                        have hcz145_2 : wc.cell? ⟨gb107, 2, none⟩ = some (.int .i64 a0_2) := (blk_cell BK107.out 2).trans rfl
                        have hcz145_3 : wc.cell? ⟨gb107, 3, none⟩ = some (.int .i64 a0_3) := (blk_cell BK107.out 3).trans rfl
                        have hfz145_0 := blk_frozen BK107.out 0
                        have hfz145_1 := blk_frozen BK107.out 1
                        have hfz145_2 := blk_frozen BK107.out 2
                        have hfz145_3 := blk_frozen BK107.out 3
                        go_wp2_with (first | ((with_reducible refine gate_callee (f := 21) rfl ?_); refine goesL_ (some 31) rfl rfl Tryd.func21 (by kernel_rfl) rfl #[.int .i64 a0_0] rfl (by (try simp only [List.map_toArray, List.map_cons, List.map_nil]); first | done | rfl | (simp only [List.length_drop, List.length_take]; rfl)) ?_; (with_reducible refine (spec_l2Bare.calls kj1 a0_0 false true false _ A16.out).mono ?_); rintro e w' ⟨rfl, ⟨nd, rfl⟩⟩; refine ⟨_, rfl, ?_⟩))
                        go_ret
                        exact ⟨by first | rfl | (simp [errW_none, errW_some] <;> rfl) | (simp [*, errW_none, errW_some] <;> rfl), by repeat (first | (with_reducible first | exact HB.out | apply below_alloc | apply pw_below_drewN | apply below_drew1 | refine below_set ?_ GE107.out) | exact HB.out)⟩
                    · rw [if_neg c142] at H
                      have c142b0 : (a0_0 == 21) = false := beq_eq_false_iff_ne.mpr c142
                      have c142b1 : (a0_0 != 21) = true := bne_iff_ne.mpr c142
                      by_cases c146 : a0_0 = 22
                      · rw [if_pos c146] at H
                        have c146b0 : (a0_0 == 22) = true := beq_iff_eq.mpr c146
                        have c146b1 : (a0_0 != 22) = false := bne_eq_false_iff_eq.mpr c146
                        clear c146
                        by_cases c147 : a0_3 > 10
                        · rw [if_pos c147] at H
                          have c147b0 : decide (10 < a0_3) = true := decide_eq_true c147
                          clear c147
                          obtain rfl := Option.some.inj H
                          have hcz148_0 : wc.cell? ⟨gb107, 0, none⟩ = some (.int .i64 a0_0) := (blk_cell BK107.out 0).trans rfl
                          have hcz148_1 : wc.cell? ⟨gb107, 1, none⟩ = some (.int .i64 a0_1) := (blk_cell BK107.out 1).trans rfl
                          have hcz148_2 : wc.cell? ⟨gb107, 2, none⟩ = some (.int .i64 a0_2) := (blk_cell BK107.out 2).trans rfl
                          have hcz148_3 : wc.cell? ⟨gb107, 3, none⟩ = some (.int .i64 a0_3) := (blk_cell BK107.out 3).trans rfl
                          have hfz148_0 := blk_frozen BK107.out 0
                          have hfz148_1 := blk_frozen BK107.out 1
                          have hfz148_2 := blk_frozen BK107.out 2
                          have hfz148_3 := blk_frozen BK107.out 3
                          go_wp2_with (first | ((with_reducible refine gate_callee (f := 21) rfl ?_); refine goesL_ (some 31) rfl rfl Tryd.func21 (by kernel_rfl) rfl #[.int .i64 a0_0] rfl (by (try simp only [List.map_toArray, List.map_cons, List.map_nil]); first | done | rfl | (simp only [List.length_drop, List.length_take]; rfl)) ?_; (with_reducible refine (spec_l2Bare.calls kj1 a0_0 false true false _ A16.out).mono ?_); rintro e w' ⟨rfl, ⟨nd, rfl⟩⟩; refine ⟨_, rfl, ?_⟩))
                          go_ret
                          exact ⟨by first | rfl | (simp [errW_none, errW_some] <;> rfl) | (simp [*, errW_none, errW_some] <;> rfl), by repeat (first | (with_reducible first | exact HB.out | apply below_alloc | apply pw_below_drewN | apply below_drew1 | refine below_set ?_ GE107.out) | exact HB.out)⟩
                        · rw [if_neg c147] at H
                          have c147b0 : decide (10 < a0_3) = false := decide_eq_false c147
                          clear c147
                          obtain rfl := Option.some.inj H
                          have hcz149_0 : wc.cell? ⟨gb107, 0, none⟩ = some (.int .i64 a0_0) := (blk_cell BK107.out 0).trans rfl
                          have hcz149_1 : wc.cell? ⟨gb107, 1, none⟩ = some (.int .i64 a0_1) := (blk_cell BK107.out 1).trans rfl
                          have hcz149_2 : wc.cell? ⟨gb107, 2, none⟩ = some (.int .i64 a0_2) := (blk_cell BK107.out 2).trans rfl
                          have hcz149_3 : wc.cell? ⟨gb107, 3, none⟩ = some (.int .i64 a0_3) := (blk_cell BK107.out 3).trans rfl
                          have hfz149_0 := blk_frozen BK107.out 0
                          have hfz149_1 := blk_frozen BK107.out 1
                          have hfz149_2 := blk_frozen BK107.out 2
                          have hfz149_3 := blk_frozen BK107.out 3
                          go_wp2_with (first | ((with_reducible refine gate_callee (f := 21) rfl ?_); refine goesL_ (some 31) rfl rfl Tryd.func21 (by kernel_rfl) rfl #[.int .i64 a0_0] rfl (by (try simp only [List.map_toArray, List.map_cons, List.map_nil]); first | done | rfl | (simp only [List.length_drop, List.length_take]; rfl)) ?_; (with_reducible refine (spec_l2Bare.calls kj1 a0_0 false true false _ A16.out).mono ?_); rintro e w' ⟨rfl, ⟨nd, rfl⟩⟩; refine ⟨_, rfl, ?_⟩))
                          go_ret
                          exact ⟨by first | rfl | (simp [errW_none, errW_some] <;> rfl) | (simp [*, errW_none, errW_some] <;> rfl), by repeat (first | (with_reducible first | exact HB.out | apply below_alloc | apply pw_below_drewN | apply below_drew1 | refine below_set ?_ GE107.out) | exact HB.out)⟩
                      · rw [if_neg c146] at H
                        have c146b0 : (a0_0 == 22) = false := beq_eq_false_iff_ne.mpr c146
                        have c146b1 : (a0_0 != 22) = true := bne_iff_ne.mpr c146
                        obtain rfl := Option.some.inj H
                        have hcz150_0 : wc.cell? ⟨gb107, 0, none⟩ = some (.int .i64 a0_0) := (blk_cell BK107.out 0).trans rfl
                        have hcz150_1 : wc.cell? ⟨gb107, 1, none⟩ = some (.int .i64 a0_1) := (blk_cell BK107.out 1).trans rfl
                        have hcz150_2 : wc.cell? ⟨gb107, 2, none⟩ = some (.int .i64 a0_2) := (blk_cell BK107.out 2).trans rfl
                        have hcz150_3 : wc.cell? ⟨gb107, 3, none⟩ = some (.int .i64 a0_3) := (blk_cell BK107.out 3).trans rfl
                        have hfz150_0 := blk_frozen BK107.out 0
                        have hfz150_1 := blk_frozen BK107.out 1
                        have hfz150_2 := blk_frozen BK107.out 2
                        have hfz150_3 := blk_frozen BK107.out 3
                        go_wp2_with (first | ((with_reducible refine gate_callee (f := 21) rfl ?_); refine goesL_ (some 31) rfl rfl Tryd.func21 (by kernel_rfl) rfl #[.int .i64 a0_0] rfl (by (try simp only [List.map_toArray, List.map_cons, List.map_nil]); first | done | rfl | (simp only [List.length_drop, List.length_take]; rfl)) ?_; (with_reducible refine (spec_l2Bare.calls kj1 a0_0 false true false _ A16.out).mono ?_); rintro e w' ⟨rfl, ⟨nd, rfl⟩⟩; refine ⟨_, rfl, ?_⟩))
                        go_ret
                        exact ⟨by first | rfl | (simp [errW_none, errW_some] <;> rfl) | (simp [*, errW_none, errW_some] <;> rfl), by repeat (first | (with_reducible first | exact HB.out | apply below_alloc | apply pw_below_drewN | apply below_drew1 | refine below_set ?_ GE107.out) | exact HB.out)⟩
                · rw [if_neg c139] at H
                  have c139b0 : decide (a0_0 ≤ 11) = false := decide_eq_false c139
                  clear c139
                  by_cases c151 : a0_0 = 21
                  · rw [if_pos c151] at H
                    have c151b0 : (a0_0 == 21) = true := beq_iff_eq.mpr c151
                    have c151b1 : (a0_0 != 21) = false := bne_eq_false_iff_eq.mpr c151
                    clear c151
                    by_cases c152 : a0_3 > 10
                    · rw [if_pos c152] at H
                      have c152b0 : decide (10 < a0_3) = true := decide_eq_true c152
                      clear c152
                      obtain rfl := Option.some.inj H
                      have hcz153_0 : wc.cell? ⟨gb107, 0, none⟩ = some (.int .i64 a0_0) := (blk_cell BK107.out 0).trans rfl
                      have hcz153_1 : wc.cell? ⟨gb107, 1, none⟩ = some (.int .i64 a0_1) := (blk_cell BK107.out 1).trans rfl
                      have hcz153_2 : wc.cell? ⟨gb107, 2, none⟩ = some (.int .i64 a0_2) := (blk_cell BK107.out 2).trans rfl
                      have hcz153_3 : wc.cell? ⟨gb107, 3, none⟩ = some (.int .i64 a0_3) := (blk_cell BK107.out 3).trans rfl
                      have hfz153_0 := blk_frozen BK107.out 0
                      have hfz153_1 := blk_frozen BK107.out 1
                      have hfz153_2 := blk_frozen BK107.out 2
                      have hfz153_3 := blk_frozen BK107.out 3
                      go_wp2_with (first | ((with_reducible refine gate_callee (f := 21) rfl ?_); refine goesL_ (some 31) rfl rfl Tryd.func21 (by kernel_rfl) rfl #[.int .i64 a0_0] rfl (by (try simp only [List.map_toArray, List.map_cons, List.map_nil]); first | done | rfl | (simp only [List.length_drop, List.length_take]; rfl)) ?_; (with_reducible refine (spec_l2Bare.calls kj1 a0_0 false true false _ A16.out).mono ?_); rintro e w' ⟨rfl, ⟨nd, rfl⟩⟩; refine ⟨_, rfl, ?_⟩))
                      go_ret
                      exact ⟨by first | rfl | (simp [errW_none, errW_some] <;> rfl) | (simp [*, errW_none, errW_some] <;> rfl), by repeat (first | (with_reducible first | exact HB.out | apply below_alloc | apply pw_below_drewN | apply below_drew1 | refine below_set ?_ GE107.out) | exact HB.out)⟩
                    · rw [if_neg c152] at H
                      have c152b0 : decide (10 < a0_3) = false := decide_eq_false c152
                      clear c152
                      obtain rfl := Option.some.inj H
                      have hcz154_0 : wc.cell? ⟨gb107, 0, none⟩ = some (.int .i64 a0_0) := (blk_cell BK107.out 0).trans rfl
                      have hcz154_1 : wc.cell? ⟨gb107, 1, none⟩ = some (.int .i64 a0_1) := (blk_cell BK107.out 1).trans rfl
                      have hcz154_2 : wc.cell? ⟨gb107, 2, none⟩ = some (.int .i64 a0_2) := (blk_cell BK107.out 2).trans rfl
                      have hcz154_3 : wc.cell? ⟨gb107, 3, none⟩ = some (.int .i64 a0_3) := (blk_cell BK107.out 3).trans rfl
                      have hfz154_0 := blk_frozen BK107.out 0
                      have hfz154_1 := blk_frozen BK107.out 1
                      have hfz154_2 := blk_frozen BK107.out 2
                      have hfz154_3 := blk_frozen BK107.out 3
                      go_wp2_with (first | ((with_reducible refine gate_callee (f := 21) rfl ?_); refine goesL_ (some 31) rfl rfl Tryd.func21 (by kernel_rfl) rfl #[.int .i64 a0_0] rfl (by (try simp only [List.map_toArray, List.map_cons, List.map_nil]); first | done | rfl | (simp only [List.length_drop, List.length_take]; rfl)) ?_; (with_reducible refine (spec_l2Bare.calls kj1 a0_0 false true false _ A16.out).mono ?_); rintro e w' ⟨rfl, ⟨nd, rfl⟩⟩; refine ⟨_, rfl, ?_⟩))
                      go_ret
                      exact ⟨by first | rfl | (simp [errW_none, errW_some] <;> rfl) | (simp [*, errW_none, errW_some] <;> rfl), by repeat (first | (with_reducible first | exact HB.out | apply below_alloc | apply pw_below_drewN | apply below_drew1 | refine below_set ?_ GE107.out) | exact HB.out)⟩
                  · rw [if_neg c151] at H
                    have c151b0 : (a0_0 == 21) = false := beq_eq_false_iff_ne.mpr c151
                    have c151b1 : (a0_0 != 21) = true := bne_iff_ne.mpr c151
                    by_cases c155 : a0_0 = 22
                    · rw [if_pos c155] at H
                      have c155b0 : (a0_0 == 22) = true := beq_iff_eq.mpr c155
                      have c155b1 : (a0_0 != 22) = false := bne_eq_false_iff_eq.mpr c155
                      clear c155
                      by_cases c156 : a0_3 > 10
                      · rw [if_pos c156] at H
                        have c156b0 : decide (10 < a0_3) = true := decide_eq_true c156
                        clear c156
                        obtain rfl := Option.some.inj H
                        have hcz157_0 : wc.cell? ⟨gb107, 0, none⟩ = some (.int .i64 a0_0) := (blk_cell BK107.out 0).trans rfl
                        have hcz157_1 : wc.cell? ⟨gb107, 1, none⟩ = some (.int .i64 a0_1) := (blk_cell BK107.out 1).trans rfl
                        have hcz157_2 : wc.cell? ⟨gb107, 2, none⟩ = some (.int .i64 a0_2) := (blk_cell BK107.out 2).trans rfl
                        have hcz157_3 : wc.cell? ⟨gb107, 3, none⟩ = some (.int .i64 a0_3) := (blk_cell BK107.out 3).trans rfl
                        have hfz157_0 := blk_frozen BK107.out 0
                        have hfz157_1 := blk_frozen BK107.out 1
                        have hfz157_2 := blk_frozen BK107.out 2
                        have hfz157_3 := blk_frozen BK107.out 3
                        go_wp2_with (first | ((with_reducible refine gate_callee (f := 21) rfl ?_); refine goesL_ (some 31) rfl rfl Tryd.func21 (by kernel_rfl) rfl #[.int .i64 a0_0] rfl (by (try simp only [List.map_toArray, List.map_cons, List.map_nil]); first | done | rfl | (simp only [List.length_drop, List.length_take]; rfl)) ?_; (with_reducible refine (spec_l2Bare.calls kj1 a0_0 false true false _ A16.out).mono ?_); rintro e w' ⟨rfl, ⟨nd, rfl⟩⟩; refine ⟨_, rfl, ?_⟩))
                        go_ret
                        exact ⟨by first | rfl | (simp [errW_none, errW_some] <;> rfl) | (simp [*, errW_none, errW_some] <;> rfl), by repeat (first | (with_reducible first | exact HB.out | apply below_alloc | apply pw_below_drewN | apply below_drew1 | refine below_set ?_ GE107.out) | exact HB.out)⟩
                      · rw [if_neg c156] at H
                        have c156b0 : decide (10 < a0_3) = false := decide_eq_false c156
                        clear c156
                        obtain rfl := Option.some.inj H
                        have hcz158_0 : wc.cell? ⟨gb107, 0, none⟩ = some (.int .i64 a0_0) := (blk_cell BK107.out 0).trans rfl
                        have hcz158_1 : wc.cell? ⟨gb107, 1, none⟩ = some (.int .i64 a0_1) := (blk_cell BK107.out 1).trans rfl
                        have hcz158_2 : wc.cell? ⟨gb107, 2, none⟩ = some (.int .i64 a0_2) := (blk_cell BK107.out 2).trans rfl
                        have hcz158_3 : wc.cell? ⟨gb107, 3, none⟩ = some (.int .i64 a0_3) := (blk_cell BK107.out 3).trans rfl
                        have hfz158_0 := blk_frozen BK107.out 0
                        have hfz158_1 := blk_frozen BK107.out 1
                        have hfz158_2 := blk_frozen BK107.out 2
                        have hfz158_3 := blk_frozen BK107.out 3
                        go_wp2_with (first | ((with_reducible refine gate_callee (f := 21) rfl ?_); refine goesL_ (some 31) rfl rfl Tryd.func21 (by kernel_rfl) rfl #[.int .i64 a0_0] rfl (by (try simp only [List.map_toArray, List.map_cons, List.map_nil]); first | done | rfl | (simp only [List.length_drop, List.length_take]; rfl)) ?_; (with_reducible refine (spec_l2Bare.calls kj1 a0_0 false true false _ A16.out).mono ?_); rintro e w' ⟨rfl, ⟨nd, rfl⟩⟩; refine ⟨_, rfl, ?_⟩))
                        go_ret
                        exact ⟨by first | rfl | (simp [errW_none, errW_some] <;> rfl) | (simp [*, errW_none, errW_some] <;> rfl), by repeat (first | (with_reducible first | exact HB.out | apply below_alloc | apply pw_below_drewN | apply below_drew1 | refine below_set ?_ GE107.out) | exact HB.out)⟩
                    · rw [if_neg c155] at H
                      have c155b0 : (a0_0 == 22) = false := beq_eq_false_iff_ne.mpr c155
                      have c155b1 : (a0_0 != 22) = true := bne_iff_ne.mpr c155
                      obtain rfl := Option.some.inj H
                      have hcz159_0 : wc.cell? ⟨gb107, 0, none⟩ = some (.int .i64 a0_0) := (blk_cell BK107.out 0).trans rfl
                      have hcz159_1 : wc.cell? ⟨gb107, 1, none⟩ = some (.int .i64 a0_1) := (blk_cell BK107.out 1).trans rfl
                      have hcz159_2 : wc.cell? ⟨gb107, 2, none⟩ = some (.int .i64 a0_2) := (blk_cell BK107.out 2).trans rfl
                      have hcz159_3 : wc.cell? ⟨gb107, 3, none⟩ = some (.int .i64 a0_3) := (blk_cell BK107.out 3).trans rfl
                      have hfz159_0 := blk_frozen BK107.out 0
                      have hfz159_1 := blk_frozen BK107.out 1
                      have hfz159_2 := blk_frozen BK107.out 2
                      have hfz159_3 := blk_frozen BK107.out 3
                      go_wp2_with (first | ((with_reducible refine gate_callee (f := 21) rfl ?_); refine goesL_ (some 31) rfl rfl Tryd.func21 (by kernel_rfl) rfl #[.int .i64 a0_0] rfl (by (try simp only [List.map_toArray, List.map_cons, List.map_nil]); first | done | rfl | (simp only [List.length_drop, List.length_take]; rfl)) ?_; (with_reducible refine (spec_l2Bare.calls kj1 a0_0 false true false _ A16.out).mono ?_); rintro e w' ⟨rfl, ⟨nd, rfl⟩⟩; refine ⟨_, rfl, ?_⟩))
                      go_ret
                      exact ⟨by first | rfl | (simp [errW_none, errW_some] <;> rfl) | (simp [*, errW_none, errW_some] <;> rfl), by repeat (first | (with_reducible first | exact HB.out | apply below_alloc | apply pw_below_drewN | apply below_drew1 | refine below_set ?_ GE107.out) | exact HB.out)⟩
            · rw [if_neg c114] at H
              have c114b0 : (a0_2 == 0) = false := beq_eq_false_iff_ne.mpr c114
              have c114b1 : (a0_2 != 0) = true := bne_iff_ne.mpr c114
              obtain rfl := Option.some.inj H
              have hcz160_0 : wc.cell? ⟨gb107, 0, none⟩ = some (.int .i64 a0_0) := (blk_cell BK107.out 0).trans rfl
              have hcz160_1 : wc.cell? ⟨gb107, 1, none⟩ = some (.int .i64 a0_1) := (blk_cell BK107.out 1).trans rfl
              have hcz160_2 : wc.cell? ⟨gb107, 2, none⟩ = some (.int .i64 a0_2) := (blk_cell BK107.out 2).trans rfl
              have hcz160_3 : wc.cell? ⟨gb107, 3, none⟩ = some (.int .i64 a0_3) := (blk_cell BK107.out 3).trans rfl
              have hfz160_0 := blk_frozen BK107.out 0
              have hfz160_1 := blk_frozen BK107.out 1
              have hfz160_2 := blk_frozen BK107.out 2
              have hfz160_3 := blk_frozen BK107.out 3
              go_wp2_with (first | ((with_reducible refine gate_callee (f := 21) rfl ?_); refine goesL_ (some 31) rfl rfl Tryd.func21 (by kernel_rfl) rfl #[.int .i64 a0_0] rfl (by (try simp only [List.map_toArray, List.map_cons, List.map_nil]); first | done | rfl | (simp only [List.length_drop, List.length_take]; rfl)) ?_; (with_reducible refine (spec_l2Bare.calls kj1 a0_0 false true t114 _ A16.out).mono ?_); rintro e w' ⟨rfl, ⟨nd, rfl⟩⟩; refine ⟨_, rfl, ?_⟩))
              go_ret
              exact ⟨by first | rfl | (simp [errW_none, errW_some] <;> rfl) | (simp [*, errW_none, errW_some] <;> rfl), by repeat (first | (with_reducible first | exact HB.out | apply below_alloc | apply pw_below_drewN | apply below_drew1 | refine below_set ?_ GE107.out) | exact HB.out)⟩
          · replace c113 := Bool.eq_false_iff.mpr c113
            subst c113
            have H1 : (if t114 = true then (if a0_3 = 0 then (if a0_0 ≤ 11 then (if a0_3 > 15 then (some 1) else (if a0_0 = 21 then (if a0_3 > 10 then (some 1) else (some 0)) else (if a0_0 = 22 then (if a0_3 > 10 then (some 1) else (some 0)) else (some 0)))) else (if a0_0 = 21 then (if a0_3 > 10 then (some 1) else (some 0)) else (if a0_0 = 22 then (if a0_3 > 10 then (some 1) else (some 0)) else (some 0)))) else (some 1)) else (if a0_0 ≤ 11 then (if a0_3 > 15 then (some 1) else (if a0_0 = 21 then (if a0_3 > 10 then (some 1) else (some 0)) else (if a0_0 = 22 then (if a0_3 > 10 then (some 1) else (some 0)) else (some 0)))) else (if a0_0 = 21 then (if a0_3 > 10 then (some 1) else (some 0)) else (if a0_0 = 22 then (if a0_3 > 10 then (some 1) else (some 0)) else (some 0))))) = some r := by rw [if_neg (show ¬ (false = true) by decide)] at H; exact H
            clear H
            have H := H1
            clear H1
            by_cases c161 : t114 = true
            · subst c161
              have H1 : (if a0_3 = 0 then (if a0_0 ≤ 11 then (if a0_3 > 15 then (some 1) else (if a0_0 = 21 then (if a0_3 > 10 then (some 1) else (some 0)) else (if a0_0 = 22 then (if a0_3 > 10 then (some 1) else (some 0)) else (some 0)))) else (if a0_0 = 21 then (if a0_3 > 10 then (some 1) else (some 0)) else (if a0_0 = 22 then (if a0_3 > 10 then (some 1) else (some 0)) else (some 0)))) else (some 1)) = some r := by rw [if_pos rfl] at H; exact H
              clear H
              have H := H1
              clear H1
              by_cases c162 : a0_3 = 0
              · rw [if_pos c162] at H
                have c162b0 : (a0_3 == 0) = true := beq_iff_eq.mpr c162
                have c162b1 : (a0_3 != 0) = false := bne_eq_false_iff_eq.mpr c162
                clear c162
                by_cases c163 : a0_0 ≤ 11
                · rw [if_pos c163] at H
                  have c163b0 : decide (a0_0 ≤ 11) = true := decide_eq_true c163
                  clear c163
                  by_cases c164 : a0_3 > 15
                  · rw [if_pos c164] at H
                    have c164b0 : decide (15 < a0_3) = true := decide_eq_true c164
                    clear c164
                    obtain rfl := Option.some.inj H
                    have hcz165_0 : wc.cell? ⟨gb107, 0, none⟩ = some (.int .i64 a0_0) := (blk_cell BK107.out 0).trans rfl
                    have hcz165_1 : wc.cell? ⟨gb107, 1, none⟩ = some (.int .i64 a0_1) := (blk_cell BK107.out 1).trans rfl
                    have hcz165_2 : wc.cell? ⟨gb107, 2, none⟩ = some (.int .i64 a0_2) := (blk_cell BK107.out 2).trans rfl
                    have hcz165_3 : wc.cell? ⟨gb107, 3, none⟩ = some (.int .i64 a0_3) := (blk_cell BK107.out 3).trans rfl
                    have hfz165_0 := blk_frozen BK107.out 0
                    have hfz165_1 := blk_frozen BK107.out 1
                    have hfz165_2 := blk_frozen BK107.out 2
                    have hfz165_3 := blk_frozen BK107.out 3
                    go_wp2_with (first | ((with_reducible refine gate_callee (f := 21) rfl ?_); refine goesL_ (some 31) rfl rfl Tryd.func21 (by kernel_rfl) rfl #[.int .i64 a0_0] rfl (by (try simp only [List.map_toArray, List.map_cons, List.map_nil]); first | done | rfl | (simp only [List.length_drop, List.length_take]; rfl)) ?_; (with_reducible refine (spec_l2Bare.calls kj1 a0_0 false false true _ A16.out).mono ?_); rintro e w' ⟨rfl, ⟨nd, rfl⟩⟩; refine ⟨_, rfl, ?_⟩))
                    go_ret
                    exact ⟨by first | rfl | (simp [errW_none, errW_some] <;> rfl) | (simp [*, errW_none, errW_some] <;> rfl), by repeat (first | (with_reducible first | exact HB.out | apply below_alloc | apply pw_below_drewN | apply below_drew1 | refine below_set ?_ GE107.out) | exact HB.out)⟩
                  · rw [if_neg c164] at H
                    have c164b0 : decide (15 < a0_3) = false := decide_eq_false c164
                    clear c164
                    by_cases c166 : a0_0 = 21
                    · rw [if_pos c166] at H
                      have c166b0 : (a0_0 == 21) = true := beq_iff_eq.mpr c166
                      have c166b1 : (a0_0 != 21) = false := bne_eq_false_iff_eq.mpr c166
                      clear c166
                      by_cases c167 : a0_3 > 10
                      · rw [if_pos c167] at H
                        have c167b0 : decide (10 < a0_3) = true := decide_eq_true c167
                        clear c167
                        obtain rfl := Option.some.inj H
                        have hcz168_0 : wc.cell? ⟨gb107, 0, none⟩ = some (.int .i64 a0_0) := (blk_cell BK107.out 0).trans rfl
                        have hcz168_1 : wc.cell? ⟨gb107, 1, none⟩ = some (.int .i64 a0_1) := (blk_cell BK107.out 1).trans rfl
                        have hcz168_2 : wc.cell? ⟨gb107, 2, none⟩ = some (.int .i64 a0_2) := (blk_cell BK107.out 2).trans rfl
                        have hcz168_3 : wc.cell? ⟨gb107, 3, none⟩ = some (.int .i64 a0_3) := (blk_cell BK107.out 3).trans rfl
                        have hfz168_0 := blk_frozen BK107.out 0
                        have hfz168_1 := blk_frozen BK107.out 1
                        have hfz168_2 := blk_frozen BK107.out 2
                        have hfz168_3 := blk_frozen BK107.out 3
                        go_wp2_with (first | ((with_reducible refine gate_callee (f := 21) rfl ?_); refine goesL_ (some 31) rfl rfl Tryd.func21 (by kernel_rfl) rfl #[.int .i64 a0_0] rfl (by (try simp only [List.map_toArray, List.map_cons, List.map_nil]); first | done | rfl | (simp only [List.length_drop, List.length_take]; rfl)) ?_; (with_reducible refine (spec_l2Bare.calls kj1 a0_0 false false true _ A16.out).mono ?_); rintro e w' ⟨rfl, ⟨nd, rfl⟩⟩; refine ⟨_, rfl, ?_⟩))
                        go_ret
                        exact ⟨by first | rfl | (simp [errW_none, errW_some] <;> rfl) | (simp [*, errW_none, errW_some] <;> rfl), by repeat (first | (with_reducible first | exact HB.out | apply below_alloc | apply pw_below_drewN | apply below_drew1 | refine below_set ?_ GE107.out) | exact HB.out)⟩
                      · rw [if_neg c167] at H
                        have c167b0 : decide (10 < a0_3) = false := decide_eq_false c167
                        clear c167
                        obtain rfl := Option.some.inj H
                        have hcz169_0 : wc.cell? ⟨gb107, 0, none⟩ = some (.int .i64 a0_0) := (blk_cell BK107.out 0).trans rfl
                        have hcz169_1 : wc.cell? ⟨gb107, 1, none⟩ = some (.int .i64 a0_1) := (blk_cell BK107.out 1).trans rfl
                        have hcz169_2 : wc.cell? ⟨gb107, 2, none⟩ = some (.int .i64 a0_2) := (blk_cell BK107.out 2).trans rfl
                        have hcz169_3 : wc.cell? ⟨gb107, 3, none⟩ = some (.int .i64 a0_3) := (blk_cell BK107.out 3).trans rfl
                        have hfz169_0 := blk_frozen BK107.out 0
                        have hfz169_1 := blk_frozen BK107.out 1
                        have hfz169_2 := blk_frozen BK107.out 2
                        have hfz169_3 := blk_frozen BK107.out 3
                        go_wp2_with (first | ((with_reducible refine gate_callee (f := 21) rfl ?_); refine goesL_ (some 31) rfl rfl Tryd.func21 (by kernel_rfl) rfl #[.int .i64 a0_0] rfl (by (try simp only [List.map_toArray, List.map_cons, List.map_nil]); first | done | rfl | (simp only [List.length_drop, List.length_take]; rfl)) ?_; (with_reducible refine (spec_l2Bare.calls kj1 a0_0 false false true _ A16.out).mono ?_); rintro e w' ⟨rfl, ⟨nd, rfl⟩⟩; refine ⟨_, rfl, ?_⟩))
                        go_ret
                        exact ⟨by first | rfl | (simp [errW_none, errW_some] <;> rfl) | (simp [*, errW_none, errW_some] <;> rfl), by repeat (first | (with_reducible first | exact HB.out | apply below_alloc | apply pw_below_drewN | apply below_drew1 | refine below_set ?_ GE107.out) | exact HB.out)⟩
                    · rw [if_neg c166] at H
                      have c166b0 : (a0_0 == 21) = false := beq_eq_false_iff_ne.mpr c166
                      have c166b1 : (a0_0 != 21) = true := bne_iff_ne.mpr c166
                      by_cases c170 : a0_0 = 22
                      · rw [if_pos c170] at H
                        have c170b0 : (a0_0 == 22) = true := beq_iff_eq.mpr c170
                        have c170b1 : (a0_0 != 22) = false := bne_eq_false_iff_eq.mpr c170
                        clear c170
                        by_cases c171 : a0_3 > 10
                        · rw [if_pos c171] at H
                          have c171b0 : decide (10 < a0_3) = true := decide_eq_true c171
                          clear c171
                          obtain rfl := Option.some.inj H
                          have hcz172_0 : wc.cell? ⟨gb107, 0, none⟩ = some (.int .i64 a0_0) := (blk_cell BK107.out 0).trans rfl
                          have hcz172_1 : wc.cell? ⟨gb107, 1, none⟩ = some (.int .i64 a0_1) := (blk_cell BK107.out 1).trans rfl
                          have hcz172_2 : wc.cell? ⟨gb107, 2, none⟩ = some (.int .i64 a0_2) := (blk_cell BK107.out 2).trans rfl
                          have hcz172_3 : wc.cell? ⟨gb107, 3, none⟩ = some (.int .i64 a0_3) := (blk_cell BK107.out 3).trans rfl
                          have hfz172_0 := blk_frozen BK107.out 0
                          have hfz172_1 := blk_frozen BK107.out 1
                          have hfz172_2 := blk_frozen BK107.out 2
                          have hfz172_3 := blk_frozen BK107.out 3
                          go_wp2_with (first | ((with_reducible refine gate_callee (f := 21) rfl ?_); refine goesL_ (some 31) rfl rfl Tryd.func21 (by kernel_rfl) rfl #[.int .i64 a0_0] rfl (by (try simp only [List.map_toArray, List.map_cons, List.map_nil]); first | done | rfl | (simp only [List.length_drop, List.length_take]; rfl)) ?_; (with_reducible refine (spec_l2Bare.calls kj1 a0_0 false false true _ A16.out).mono ?_); rintro e w' ⟨rfl, ⟨nd, rfl⟩⟩; refine ⟨_, rfl, ?_⟩))
                          go_ret
                          exact ⟨by first | rfl | (simp [errW_none, errW_some] <;> rfl) | (simp [*, errW_none, errW_some] <;> rfl), by repeat (first | (with_reducible first | exact HB.out | apply below_alloc | apply pw_below_drewN | apply below_drew1 | refine below_set ?_ GE107.out) | exact HB.out)⟩
                        · rw [if_neg c171] at H
                          have c171b0 : decide (10 < a0_3) = false := decide_eq_false c171
                          clear c171
                          obtain rfl := Option.some.inj H
                          have hcz173_0 : wc.cell? ⟨gb107, 0, none⟩ = some (.int .i64 a0_0) := (blk_cell BK107.out 0).trans rfl
                          have hcz173_1 : wc.cell? ⟨gb107, 1, none⟩ = some (.int .i64 a0_1) := (blk_cell BK107.out 1).trans rfl
                          have hcz173_2 : wc.cell? ⟨gb107, 2, none⟩ = some (.int .i64 a0_2) := (blk_cell BK107.out 2).trans rfl
                          have hcz173_3 : wc.cell? ⟨gb107, 3, none⟩ = some (.int .i64 a0_3) := (blk_cell BK107.out 3).trans rfl
                          have hfz173_0 := blk_frozen BK107.out 0
                          have hfz173_1 := blk_frozen BK107.out 1
                          have hfz173_2 := blk_frozen BK107.out 2
                          have hfz173_3 := blk_frozen BK107.out 3
                          go_wp2_with (first | ((with_reducible refine gate_callee (f := 21) rfl ?_); refine goesL_ (some 31) rfl rfl Tryd.func21 (by kernel_rfl) rfl #[.int .i64 a0_0] rfl (by (try simp only [List.map_toArray, List.map_cons, List.map_nil]); first | done | rfl | (simp only [List.length_drop, List.length_take]; rfl)) ?_; (with_reducible refine (spec_l2Bare.calls kj1 a0_0 false false true _ A16.out).mono ?_); rintro e w' ⟨rfl, ⟨nd, rfl⟩⟩; refine ⟨_, rfl, ?_⟩))
                          go_ret
                          exact ⟨by first | rfl | (simp [errW_none, errW_some] <;> rfl) | (simp [*, errW_none, errW_some] <;> rfl), by repeat (first | (with_reducible first | exact HB.out | apply below_alloc | apply pw_below_drewN | apply below_drew1 | refine below_set ?_ GE107.out) | exact HB.out)⟩
                      · rw [if_neg c170] at H
                        have c170b0 : (a0_0 == 22) = false := beq_eq_false_iff_ne.mpr c170
                        have c170b1 : (a0_0 != 22) = true := bne_iff_ne.mpr c170
                        obtain rfl := Option.some.inj H
                        have hcz174_0 : wc.cell? ⟨gb107, 0, none⟩ = some (.int .i64 a0_0) := (blk_cell BK107.out 0).trans rfl
                        have hcz174_1 : wc.cell? ⟨gb107, 1, none⟩ = some (.int .i64 a0_1) := (blk_cell BK107.out 1).trans rfl
                        have hcz174_2 : wc.cell? ⟨gb107, 2, none⟩ = some (.int .i64 a0_2) := (blk_cell BK107.out 2).trans rfl
                        have hcz174_3 : wc.cell? ⟨gb107, 3, none⟩ = some (.int .i64 a0_3) := (blk_cell BK107.out 3).trans rfl
                        have hfz174_0 := blk_frozen BK107.out 0
                        have hfz174_1 := blk_frozen BK107.out 1
                        have hfz174_2 := blk_frozen BK107.out 2
                        have hfz174_3 := blk_frozen BK107.out 3
                        go_wp2_with (first | ((with_reducible refine gate_callee (f := 21) rfl ?_); refine goesL_ (some 31) rfl rfl Tryd.func21 (by kernel_rfl) rfl #[.int .i64 a0_0] rfl (by (try simp only [List.map_toArray, List.map_cons, List.map_nil]); first | done | rfl | (simp only [List.length_drop, List.length_take]; rfl)) ?_; (with_reducible refine (spec_l2Bare.calls kj1 a0_0 false false true _ A16.out).mono ?_); rintro e w' ⟨rfl, ⟨nd, rfl⟩⟩; refine ⟨_, rfl, ?_⟩))
                        go_ret
                        exact ⟨by first | rfl | (simp [errW_none, errW_some] <;> rfl) | (simp [*, errW_none, errW_some] <;> rfl), by repeat (first | (with_reducible first | exact HB.out | apply below_alloc | apply pw_below_drewN | apply below_drew1 | refine below_set ?_ GE107.out) | exact HB.out)⟩
                · rw [if_neg c163] at H
                  have c163b0 : decide (a0_0 ≤ 11) = false := decide_eq_false c163
                  clear c163
                  by_cases c175 : a0_0 = 21
                  · rw [if_pos c175] at H
                    have c175b0 : (a0_0 == 21) = true := beq_iff_eq.mpr c175
                    have c175b1 : (a0_0 != 21) = false := bne_eq_false_iff_eq.mpr c175
                    clear c175
                    by_cases c176 : a0_3 > 10
                    · rw [if_pos c176] at H
                      have c176b0 : decide (10 < a0_3) = true := decide_eq_true c176
                      clear c176
                      obtain rfl := Option.some.inj H
                      have hcz177_0 : wc.cell? ⟨gb107, 0, none⟩ = some (.int .i64 a0_0) := (blk_cell BK107.out 0).trans rfl
                      have hcz177_1 : wc.cell? ⟨gb107, 1, none⟩ = some (.int .i64 a0_1) := (blk_cell BK107.out 1).trans rfl
                      have hcz177_2 : wc.cell? ⟨gb107, 2, none⟩ = some (.int .i64 a0_2) := (blk_cell BK107.out 2).trans rfl
                      have hcz177_3 : wc.cell? ⟨gb107, 3, none⟩ = some (.int .i64 a0_3) := (blk_cell BK107.out 3).trans rfl
                      have hfz177_0 := blk_frozen BK107.out 0
                      have hfz177_1 := blk_frozen BK107.out 1
                      have hfz177_2 := blk_frozen BK107.out 2
                      have hfz177_3 := blk_frozen BK107.out 3
                      go_wp2_with (first | ((with_reducible refine gate_callee (f := 21) rfl ?_); refine goesL_ (some 31) rfl rfl Tryd.func21 (by kernel_rfl) rfl #[.int .i64 a0_0] rfl (by (try simp only [List.map_toArray, List.map_cons, List.map_nil]); first | done | rfl | (simp only [List.length_drop, List.length_take]; rfl)) ?_; (with_reducible refine (spec_l2Bare.calls kj1 a0_0 false false true _ A16.out).mono ?_); rintro e w' ⟨rfl, ⟨nd, rfl⟩⟩; refine ⟨_, rfl, ?_⟩))
                      go_ret
                      exact ⟨by first | rfl | (simp [errW_none, errW_some] <;> rfl) | (simp [*, errW_none, errW_some] <;> rfl), by repeat (first | (with_reducible first | exact HB.out | apply below_alloc | apply pw_below_drewN | apply below_drew1 | refine below_set ?_ GE107.out) | exact HB.out)⟩
                    · rw [if_neg c176] at H
                      have c176b0 : decide (10 < a0_3) = false := decide_eq_false c176
                      clear c176
                      obtain rfl := Option.some.inj H
                      have hcz178_0 : wc.cell? ⟨gb107, 0, none⟩ = some (.int .i64 a0_0) := (blk_cell BK107.out 0).trans rfl
                      have hcz178_1 : wc.cell? ⟨gb107, 1, none⟩ = some (.int .i64 a0_1) := (blk_cell BK107.out 1).trans rfl
                      have hcz178_2 : wc.cell? ⟨gb107, 2, none⟩ = some (.int .i64 a0_2) := (blk_cell BK107.out 2).trans rfl
                      have hcz178_3 : wc.cell? ⟨gb107, 3, none⟩ = some (.int .i64 a0_3) := (blk_cell BK107.out 3).trans rfl
                      have hfz178_0 := blk_frozen BK107.out 0
                      have hfz178_1 := blk_frozen BK107.out 1
                      have hfz178_2 := blk_frozen BK107.out 2
                      have hfz178_3 := blk_frozen BK107.out 3
                      go_wp2_with (first | ((with_reducible refine gate_callee (f := 21) rfl ?_); refine goesL_ (some 31) rfl rfl Tryd.func21 (by kernel_rfl) rfl #[.int .i64 a0_0] rfl (by (try simp only [List.map_toArray, List.map_cons, List.map_nil]); first | done | rfl | (simp only [List.length_drop, List.length_take]; rfl)) ?_; (with_reducible refine (spec_l2Bare.calls kj1 a0_0 false false true _ A16.out).mono ?_); rintro e w' ⟨rfl, ⟨nd, rfl⟩⟩; refine ⟨_, rfl, ?_⟩))
                      go_ret
                      exact ⟨by first | rfl | (simp [errW_none, errW_some] <;> rfl) | (simp [*, errW_none, errW_some] <;> rfl), by repeat (first | (with_reducible first | exact HB.out | apply below_alloc | apply pw_below_drewN | apply below_drew1 | refine below_set ?_ GE107.out) | exact HB.out)⟩
                  · rw [if_neg c175] at H
                    have c175b0 : (a0_0 == 21) = false := beq_eq_false_iff_ne.mpr c175
                    have c175b1 : (a0_0 != 21) = true := bne_iff_ne.mpr c175
                    by_cases c179 : a0_0 = 22
                    · rw [if_pos c179] at H
                      have c179b0 : (a0_0 == 22) = true := beq_iff_eq.mpr c179
                      have c179b1 : (a0_0 != 22) = false := bne_eq_false_iff_eq.mpr c179
                      clear c179
                      by_cases c180 : a0_3 > 10
                      · rw [if_pos c180] at H
                        have c180b0 : decide (10 < a0_3) = true := decide_eq_true c180
                        clear c180
                        obtain rfl := Option.some.inj H
                        have hcz181_0 : wc.cell? ⟨gb107, 0, none⟩ = some (.int .i64 a0_0) := (blk_cell BK107.out 0).trans rfl
                        have hcz181_1 : wc.cell? ⟨gb107, 1, none⟩ = some (.int .i64 a0_1) := (blk_cell BK107.out 1).trans rfl
                        have hcz181_2 : wc.cell? ⟨gb107, 2, none⟩ = some (.int .i64 a0_2) := (blk_cell BK107.out 2).trans rfl
                        have hcz181_3 : wc.cell? ⟨gb107, 3, none⟩ = some (.int .i64 a0_3) := (blk_cell BK107.out 3).trans rfl
                        have hfz181_0 := blk_frozen BK107.out 0
                        have hfz181_1 := blk_frozen BK107.out 1
                        have hfz181_2 := blk_frozen BK107.out 2
                        have hfz181_3 := blk_frozen BK107.out 3
                        go_wp2_with (first | ((with_reducible refine gate_callee (f := 21) rfl ?_); refine goesL_ (some 31) rfl rfl Tryd.func21 (by kernel_rfl) rfl #[.int .i64 a0_0] rfl (by (try simp only [List.map_toArray, List.map_cons, List.map_nil]); first | done | rfl | (simp only [List.length_drop, List.length_take]; rfl)) ?_; (with_reducible refine (spec_l2Bare.calls kj1 a0_0 false false true _ A16.out).mono ?_); rintro e w' ⟨rfl, ⟨nd, rfl⟩⟩; refine ⟨_, rfl, ?_⟩))
                        go_ret
                        exact ⟨by first | rfl | (simp [errW_none, errW_some] <;> rfl) | (simp [*, errW_none, errW_some] <;> rfl), by repeat (first | (with_reducible first | exact HB.out | apply below_alloc | apply pw_below_drewN | apply below_drew1 | refine below_set ?_ GE107.out) | exact HB.out)⟩
                      · rw [if_neg c180] at H
                        have c180b0 : decide (10 < a0_3) = false := decide_eq_false c180
                        clear c180
                        obtain rfl := Option.some.inj H
                        have hcz182_0 : wc.cell? ⟨gb107, 0, none⟩ = some (.int .i64 a0_0) := (blk_cell BK107.out 0).trans rfl
                        have hcz182_1 : wc.cell? ⟨gb107, 1, none⟩ = some (.int .i64 a0_1) := (blk_cell BK107.out 1).trans rfl
                        have hcz182_2 : wc.cell? ⟨gb107, 2, none⟩ = some (.int .i64 a0_2) := (blk_cell BK107.out 2).trans rfl
                        have hcz182_3 : wc.cell? ⟨gb107, 3, none⟩ = some (.int .i64 a0_3) := (blk_cell BK107.out 3).trans rfl
                        have hfz182_0 := blk_frozen BK107.out 0
                        have hfz182_1 := blk_frozen BK107.out 1
                        have hfz182_2 := blk_frozen BK107.out 2
                        have hfz182_3 := blk_frozen BK107.out 3
                        go_wp2_with (first | ((with_reducible refine gate_callee (f := 21) rfl ?_); refine goesL_ (some 31) rfl rfl Tryd.func21 (by kernel_rfl) rfl #[.int .i64 a0_0] rfl (by (try simp only [List.map_toArray, List.map_cons, List.map_nil]); first | done | rfl | (simp only [List.length_drop, List.length_take]; rfl)) ?_; (with_reducible refine (spec_l2Bare.calls kj1 a0_0 false false true _ A16.out).mono ?_); rintro e w' ⟨rfl, ⟨nd, rfl⟩⟩; refine ⟨_, rfl, ?_⟩))
                        go_ret
                        exact ⟨by first | rfl | (simp [errW_none, errW_some] <;> rfl) | (simp [*, errW_none, errW_some] <;> rfl), by repeat (first | (with_reducible first | exact HB.out | apply below_alloc | apply pw_below_drewN | apply below_drew1 | refine below_set ?_ GE107.out) | exact HB.out)⟩
                    · rw [if_neg c179] at H
                      have c179b0 : (a0_0 == 22) = false := beq_eq_false_iff_ne.mpr c179
                      have c179b1 : (a0_0 != 22) = true := bne_iff_ne.mpr c179
                      obtain rfl := Option.some.inj H
                      have hcz183_0 : wc.cell? ⟨gb107, 0, none⟩ = some (.int .i64 a0_0) := (blk_cell BK107.out 0).trans rfl
                      have hcz183_1 : wc.cell? ⟨gb107, 1, none⟩ = some (.int .i64 a0_1) := (blk_cell BK107.out 1).trans rfl
                      have hcz183_2 : wc.cell? ⟨gb107, 2, none⟩ = some (.int .i64 a0_2) := (blk_cell BK107.out 2).trans rfl
                      have hcz183_3 : wc.cell? ⟨gb107, 3, none⟩ = some (.int .i64 a0_3) := (blk_cell BK107.out 3).trans rfl
                      have hfz183_0 := blk_frozen BK107.out 0
                      have hfz183_1 := blk_frozen BK107.out 1
                      have hfz183_2 := blk_frozen BK107.out 2
                      have hfz183_3 := blk_frozen BK107.out 3
                      go_wp2_with (first | ((with_reducible refine gate_callee (f := 21) rfl ?_); refine goesL_ (some 31) rfl rfl Tryd.func21 (by kernel_rfl) rfl #[.int .i64 a0_0] rfl (by (try simp only [List.map_toArray, List.map_cons, List.map_nil]); first | done | rfl | (simp only [List.length_drop, List.length_take]; rfl)) ?_; (with_reducible refine (spec_l2Bare.calls kj1 a0_0 false false true _ A16.out).mono ?_); rintro e w' ⟨rfl, ⟨nd, rfl⟩⟩; refine ⟨_, rfl, ?_⟩))
                      go_ret
                      exact ⟨by first | rfl | (simp [errW_none, errW_some] <;> rfl) | (simp [*, errW_none, errW_some] <;> rfl), by repeat (first | (with_reducible first | exact HB.out | apply below_alloc | apply pw_below_drewN | apply below_drew1 | refine below_set ?_ GE107.out) | exact HB.out)⟩
              · rw [if_neg c162] at H
                have c162b0 : (a0_3 == 0) = false := beq_eq_false_iff_ne.mpr c162
                have c162b1 : (a0_3 != 0) = true := bne_iff_ne.mpr c162
                obtain rfl := Option.some.inj H
                have hcz184_0 : wc.cell? ⟨gb107, 0, none⟩ = some (.int .i64 a0_0) := (blk_cell BK107.out 0).trans rfl
                have hcz184_1 : wc.cell? ⟨gb107, 1, none⟩ = some (.int .i64 a0_1) := (blk_cell BK107.out 1).trans rfl
                have hcz184_2 : wc.cell? ⟨gb107, 2, none⟩ = some (.int .i64 a0_2) := (blk_cell BK107.out 2).trans rfl
                have hcz184_3 : wc.cell? ⟨gb107, 3, none⟩ = some (.int .i64 a0_3) := (blk_cell BK107.out 3).trans rfl
                have hfz184_0 := blk_frozen BK107.out 0
                have hfz184_1 := blk_frozen BK107.out 1
                have hfz184_2 := blk_frozen BK107.out 2
                have hfz184_3 := blk_frozen BK107.out 3
                go_wp2_with (first | ((with_reducible refine gate_callee (f := 21) rfl ?_); refine goesL_ (some 31) rfl rfl Tryd.func21 (by kernel_rfl) rfl #[.int .i64 a0_0] rfl (by (try simp only [List.map_toArray, List.map_cons, List.map_nil]); first | done | rfl | (simp only [List.length_drop, List.length_take]; rfl)) ?_; (with_reducible refine (spec_l2Bare.calls kj1 a0_0 false false true _ A16.out).mono ?_); rintro e w' ⟨rfl, ⟨nd, rfl⟩⟩; refine ⟨_, rfl, ?_⟩))
                go_ret
                exact ⟨by first | rfl | (simp [errW_none, errW_some] <;> rfl) | (simp [*, errW_none, errW_some] <;> rfl), by repeat (first | (with_reducible first | exact HB.out | apply below_alloc | apply pw_below_drewN | apply below_drew1 | refine below_set ?_ GE107.out) | exact HB.out)⟩
            · replace c161 := Bool.eq_false_iff.mpr c161
              subst c161
              have H1 : (if a0_0 ≤ 11 then (if a0_3 > 15 then (some 1) else (if a0_0 = 21 then (if a0_3 > 10 then (some 1) else (some 0)) else (if a0_0 = 22 then (if a0_3 > 10 then (some 1) else (some 0)) else (some 0)))) else (if a0_0 = 21 then (if a0_3 > 10 then (some 1) else (some 0)) else (if a0_0 = 22 then (if a0_3 > 10 then (some 1) else (some 0)) else (some 0)))) = some r := by rw [if_neg (show ¬ (false = true) by decide)] at H; exact H
              clear H
              have H := H1
              clear H1
              by_cases c185 : a0_0 ≤ 11
              · rw [if_pos c185] at H
                have c185b0 : decide (a0_0 ≤ 11) = true := decide_eq_true c185
                clear c185
                by_cases c186 : a0_3 > 15
                · rw [if_pos c186] at H
                  have c186b0 : decide (15 < a0_3) = true := decide_eq_true c186
                  clear c186
                  obtain rfl := Option.some.inj H
                  have hcz187_0 : wc.cell? ⟨gb107, 0, none⟩ = some (.int .i64 a0_0) := (blk_cell BK107.out 0).trans rfl
                  have hcz187_1 : wc.cell? ⟨gb107, 1, none⟩ = some (.int .i64 a0_1) := (blk_cell BK107.out 1).trans rfl
                  have hcz187_2 : wc.cell? ⟨gb107, 2, none⟩ = some (.int .i64 a0_2) := (blk_cell BK107.out 2).trans rfl
                  have hcz187_3 : wc.cell? ⟨gb107, 3, none⟩ = some (.int .i64 a0_3) := (blk_cell BK107.out 3).trans rfl
                  have hfz187_0 := blk_frozen BK107.out 0
                  have hfz187_1 := blk_frozen BK107.out 1
                  have hfz187_2 := blk_frozen BK107.out 2
                  have hfz187_3 := blk_frozen BK107.out 3
                  go_wp2_with (first | ((with_reducible refine gate_callee (f := 21) rfl ?_); refine goesL_ (some 31) rfl rfl Tryd.func21 (by kernel_rfl) rfl #[.int .i64 a0_0] rfl (by (try simp only [List.map_toArray, List.map_cons, List.map_nil]); first | done | rfl | (simp only [List.length_drop, List.length_take]; rfl)) ?_; (with_reducible refine (spec_l2Bare.calls kj1 a0_0 false false false _ A16.out).mono ?_); rintro e w' ⟨rfl, ⟨nd, rfl⟩⟩; refine ⟨_, rfl, ?_⟩))
                  go_ret
                  exact ⟨by first | rfl | (simp [errW_none, errW_some] <;> rfl) | (simp [*, errW_none, errW_some] <;> rfl), by repeat (first | (with_reducible first | exact HB.out | apply below_alloc | apply pw_below_drewN | apply below_drew1 | refine below_set ?_ GE107.out) | exact HB.out)⟩
                · rw [if_neg c186] at H
                  have c186b0 : decide (15 < a0_3) = false := decide_eq_false c186
                  clear c186
                  by_cases c188 : a0_0 = 21
                  · rw [if_pos c188] at H
                    have c188b0 : (a0_0 == 21) = true := beq_iff_eq.mpr c188
                    have c188b1 : (a0_0 != 21) = false := bne_eq_false_iff_eq.mpr c188
                    clear c188
                    by_cases c189 : a0_3 > 10
                    · rw [if_pos c189] at H
                      have c189b0 : decide (10 < a0_3) = true := decide_eq_true c189
                      clear c189
                      obtain rfl := Option.some.inj H
                      have hcz190_0 : wc.cell? ⟨gb107, 0, none⟩ = some (.int .i64 a0_0) := (blk_cell BK107.out 0).trans rfl
                      have hcz190_1 : wc.cell? ⟨gb107, 1, none⟩ = some (.int .i64 a0_1) := (blk_cell BK107.out 1).trans rfl
                      have hcz190_2 : wc.cell? ⟨gb107, 2, none⟩ = some (.int .i64 a0_2) := (blk_cell BK107.out 2).trans rfl
                      have hcz190_3 : wc.cell? ⟨gb107, 3, none⟩ = some (.int .i64 a0_3) := (blk_cell BK107.out 3).trans rfl
                      have hfz190_0 := blk_frozen BK107.out 0
                      have hfz190_1 := blk_frozen BK107.out 1
                      have hfz190_2 := blk_frozen BK107.out 2
                      have hfz190_3 := blk_frozen BK107.out 3
                      go_wp2_with (first | ((with_reducible refine gate_callee (f := 21) rfl ?_); refine goesL_ (some 31) rfl rfl Tryd.func21 (by kernel_rfl) rfl #[.int .i64 a0_0] rfl (by (try simp only [List.map_toArray, List.map_cons, List.map_nil]); first | done | rfl | (simp only [List.length_drop, List.length_take]; rfl)) ?_; (with_reducible refine (spec_l2Bare.calls kj1 a0_0 false false false _ A16.out).mono ?_); rintro e w' ⟨rfl, ⟨nd, rfl⟩⟩; refine ⟨_, rfl, ?_⟩))
                      go_ret
                      exact ⟨by first | rfl | (simp [errW_none, errW_some] <;> rfl) | (simp [*, errW_none, errW_some] <;> rfl), by repeat (first | (with_reducible first | exact HB.out | apply below_alloc | apply pw_below_drewN | apply below_drew1 | refine below_set ?_ GE107.out) | exact HB.out)⟩
                    · rw [if_neg c189] at H
                      have c189b0 : decide (10 < a0_3) = false := decide_eq_false c189
                      clear c189
                      obtain rfl := Option.some.inj H
                      have hcz191_0 : wc.cell? ⟨gb107, 0, none⟩ = some (.int .i64 a0_0) := (blk_cell BK107.out 0).trans rfl
                      have hcz191_1 : wc.cell? ⟨gb107, 1, none⟩ = some (.int .i64 a0_1) := (blk_cell BK107.out 1).trans rfl
                      have hcz191_2 : wc.cell? ⟨gb107, 2, none⟩ = some (.int .i64 a0_2) := (blk_cell BK107.out 2).trans rfl
                      have hcz191_3 : wc.cell? ⟨gb107, 3, none⟩ = some (.int .i64 a0_3) := (blk_cell BK107.out 3).trans rfl
                      have hfz191_0 := blk_frozen BK107.out 0
                      have hfz191_1 := blk_frozen BK107.out 1
                      have hfz191_2 := blk_frozen BK107.out 2
                      have hfz191_3 := blk_frozen BK107.out 3
                      go_wp2_with (first | ((with_reducible refine gate_callee (f := 21) rfl ?_); refine goesL_ (some 31) rfl rfl Tryd.func21 (by kernel_rfl) rfl #[.int .i64 a0_0] rfl (by (try simp only [List.map_toArray, List.map_cons, List.map_nil]); first | done | rfl | (simp only [List.length_drop, List.length_take]; rfl)) ?_; (with_reducible refine (spec_l2Bare.calls kj1 a0_0 false false false _ A16.out).mono ?_); rintro e w' ⟨rfl, ⟨nd, rfl⟩⟩; refine ⟨_, rfl, ?_⟩))
                      go_ret
                      exact ⟨by first | rfl | (simp [errW_none, errW_some] <;> rfl) | (simp [*, errW_none, errW_some] <;> rfl), by repeat (first | (with_reducible first | exact HB.out | apply below_alloc | apply pw_below_drewN | apply below_drew1 | refine below_set ?_ GE107.out) | exact HB.out)⟩
                  · rw [if_neg c188] at H
                    have c188b0 : (a0_0 == 21) = false := beq_eq_false_iff_ne.mpr c188
                    have c188b1 : (a0_0 != 21) = true := bne_iff_ne.mpr c188
                    by_cases c192 : a0_0 = 22
                    · rw [if_pos c192] at H
                      have c192b0 : (a0_0 == 22) = true := beq_iff_eq.mpr c192
                      have c192b1 : (a0_0 != 22) = false := bne_eq_false_iff_eq.mpr c192
                      clear c192
                      by_cases c193 : a0_3 > 10
                      · rw [if_pos c193] at H
                        have c193b0 : decide (10 < a0_3) = true := decide_eq_true c193
                        clear c193
                        obtain rfl := Option.some.inj H
                        have hcz194_0 : wc.cell? ⟨gb107, 0, none⟩ = some (.int .i64 a0_0) := (blk_cell BK107.out 0).trans rfl
                        have hcz194_1 : wc.cell? ⟨gb107, 1, none⟩ = some (.int .i64 a0_1) := (blk_cell BK107.out 1).trans rfl
                        have hcz194_2 : wc.cell? ⟨gb107, 2, none⟩ = some (.int .i64 a0_2) := (blk_cell BK107.out 2).trans rfl
                        have hcz194_3 : wc.cell? ⟨gb107, 3, none⟩ = some (.int .i64 a0_3) := (blk_cell BK107.out 3).trans rfl
                        have hfz194_0 := blk_frozen BK107.out 0
                        have hfz194_1 := blk_frozen BK107.out 1
                        have hfz194_2 := blk_frozen BK107.out 2
                        have hfz194_3 := blk_frozen BK107.out 3
                        go_wp2_with (first | ((with_reducible refine gate_callee (f := 21) rfl ?_); refine goesL_ (some 31) rfl rfl Tryd.func21 (by kernel_rfl) rfl #[.int .i64 a0_0] rfl (by (try simp only [List.map_toArray, List.map_cons, List.map_nil]); first | done | rfl | (simp only [List.length_drop, List.length_take]; rfl)) ?_; (with_reducible refine (spec_l2Bare.calls kj1 a0_0 false false false _ A16.out).mono ?_); rintro e w' ⟨rfl, ⟨nd, rfl⟩⟩; refine ⟨_, rfl, ?_⟩))
                        go_ret
                        exact ⟨by first | rfl | (simp [errW_none, errW_some] <;> rfl) | (simp [*, errW_none, errW_some] <;> rfl), by repeat (first | (with_reducible first | exact HB.out | apply below_alloc | apply pw_below_drewN | apply below_drew1 | refine below_set ?_ GE107.out) | exact HB.out)⟩
                      · rw [if_neg c193] at H
                        have c193b0 : decide (10 < a0_3) = false := decide_eq_false c193
                        clear c193
                        obtain rfl := Option.some.inj H
                        have hcz195_0 : wc.cell? ⟨gb107, 0, none⟩ = some (.int .i64 a0_0) := (blk_cell BK107.out 0).trans rfl
                        have hcz195_1 : wc.cell? ⟨gb107, 1, none⟩ = some (.int .i64 a0_1) := (blk_cell BK107.out 1).trans rfl
                        have hcz195_2 : wc.cell? ⟨gb107, 2, none⟩ = some (.int .i64 a0_2) := (blk_cell BK107.out 2).trans rfl
                        have hcz195_3 : wc.cell? ⟨gb107, 3, none⟩ = some (.int .i64 a0_3) := (blk_cell BK107.out 3).trans rfl
                        have hfz195_0 := blk_frozen BK107.out 0
                        have hfz195_1 := blk_frozen BK107.out 1
                        have hfz195_2 := blk_frozen BK107.out 2
                        have hfz195_3 := blk_frozen BK107.out 3
                        go_wp2_with (first | ((with_reducible refine gate_callee (f := 21) rfl ?_); refine goesL_ (some 31) rfl rfl Tryd.func21 (by kernel_rfl) rfl #[.int .i64 a0_0] rfl (by (try simp only [List.map_toArray, List.map_cons, List.map_nil]); first | done | rfl | (simp only [List.length_drop, List.length_take]; rfl)) ?_; (with_reducible refine (spec_l2Bare.calls kj1 a0_0 false false false _ A16.out).mono ?_); rintro e w' ⟨rfl, ⟨nd, rfl⟩⟩; refine ⟨_, rfl, ?_⟩))
                        go_ret
                        exact ⟨by first | rfl | (simp [errW_none, errW_some] <;> rfl) | (simp [*, errW_none, errW_some] <;> rfl), by repeat (first | (with_reducible first | exact HB.out | apply below_alloc | apply pw_below_drewN | apply below_drew1 | refine below_set ?_ GE107.out) | exact HB.out)⟩
                    · rw [if_neg c192] at H
                      have c192b0 : (a0_0 == 22) = false := beq_eq_false_iff_ne.mpr c192
                      have c192b1 : (a0_0 != 22) = true := bne_iff_ne.mpr c192
                      obtain rfl := Option.some.inj H
                      have hcz196_0 : wc.cell? ⟨gb107, 0, none⟩ = some (.int .i64 a0_0) := (blk_cell BK107.out 0).trans rfl
                      have hcz196_1 : wc.cell? ⟨gb107, 1, none⟩ = some (.int .i64 a0_1) := (blk_cell BK107.out 1).trans rfl
                      have hcz196_2 : wc.cell? ⟨gb107, 2, none⟩ = some (.int .i64 a0_2) := (blk_cell BK107.out 2).trans rfl
                      have hcz196_3 : wc.cell? ⟨gb107, 3, none⟩ = some (.int .i64 a0_3) := (blk_cell BK107.out 3).trans rfl
                      have hfz196_0 := blk_frozen BK107.out 0
                      have hfz196_1 := blk_frozen BK107.out 1
                      have hfz196_2 := blk_frozen BK107.out 2
                      have hfz196_3 := blk_frozen BK107.out 3
                      go_wp2_with (first | ((with_reducible refine gate_callee (f := 21) rfl ?_); refine goesL_ (some 31) rfl rfl Tryd.func21 (by kernel_rfl) rfl #[.int .i64 a0_0] rfl (by (try simp only [List.map_toArray, List.map_cons, List.map_nil]); first | done | rfl | (simp only [List.length_drop, List.length_take]; rfl)) ?_; (with_reducible refine (spec_l2Bare.calls kj1 a0_0 false false false _ A16.out).mono ?_); rintro e w' ⟨rfl, ⟨nd, rfl⟩⟩; refine ⟨_, rfl, ?_⟩))
                      go_ret
                      exact ⟨by first | rfl | (simp [errW_none, errW_some] <;> rfl) | (simp [*, errW_none, errW_some] <;> rfl), by repeat (first | (with_reducible first | exact HB.out | apply below_alloc | apply pw_below_drewN | apply below_drew1 | refine below_set ?_ GE107.out) | exact HB.out)⟩
              · rw [if_neg c185] at H
                have c185b0 : decide (a0_0 ≤ 11) = false := decide_eq_false c185
                clear c185
                by_cases c197 : a0_0 = 21
                · rw [if_pos c197] at H
                  have c197b0 : (a0_0 == 21) = true := beq_iff_eq.mpr c197
                  have c197b1 : (a0_0 != 21) = false := bne_eq_false_iff_eq.mpr c197
                  clear c197
                  by_cases c198 : a0_3 > 10
                  · rw [if_pos c198] at H
                    have c198b0 : decide (10 < a0_3) = true := decide_eq_true c198
                    clear c198
                    obtain rfl := Option.some.inj H
                    have hcz199_0 : wc.cell? ⟨gb107, 0, none⟩ = some (.int .i64 a0_0) := (blk_cell BK107.out 0).trans rfl
                    have hcz199_1 : wc.cell? ⟨gb107, 1, none⟩ = some (.int .i64 a0_1) := (blk_cell BK107.out 1).trans rfl
                    have hcz199_2 : wc.cell? ⟨gb107, 2, none⟩ = some (.int .i64 a0_2) := (blk_cell BK107.out 2).trans rfl
                    have hcz199_3 : wc.cell? ⟨gb107, 3, none⟩ = some (.int .i64 a0_3) := (blk_cell BK107.out 3).trans rfl
                    have hfz199_0 := blk_frozen BK107.out 0
                    have hfz199_1 := blk_frozen BK107.out 1
                    have hfz199_2 := blk_frozen BK107.out 2
                    have hfz199_3 := blk_frozen BK107.out 3
                    go_wp2_with (first | ((with_reducible refine gate_callee (f := 21) rfl ?_); refine goesL_ (some 31) rfl rfl Tryd.func21 (by kernel_rfl) rfl #[.int .i64 a0_0] rfl (by (try simp only [List.map_toArray, List.map_cons, List.map_nil]); first | done | rfl | (simp only [List.length_drop, List.length_take]; rfl)) ?_; (with_reducible refine (spec_l2Bare.calls kj1 a0_0 false false false _ A16.out).mono ?_); rintro e w' ⟨rfl, ⟨nd, rfl⟩⟩; refine ⟨_, rfl, ?_⟩))
                    go_ret
                    exact ⟨by first | rfl | (simp [errW_none, errW_some] <;> rfl) | (simp [*, errW_none, errW_some] <;> rfl), by repeat (first | (with_reducible first | exact HB.out | apply below_alloc | apply pw_below_drewN | apply below_drew1 | refine below_set ?_ GE107.out) | exact HB.out)⟩
                  · rw [if_neg c198] at H
                    have c198b0 : decide (10 < a0_3) = false := decide_eq_false c198
                    clear c198
                    obtain rfl := Option.some.inj H
                    have hcz200_0 : wc.cell? ⟨gb107, 0, none⟩ = some (.int .i64 a0_0) := (blk_cell BK107.out 0).trans rfl
                    have hcz200_1 : wc.cell? ⟨gb107, 1, none⟩ = some (.int .i64 a0_1) := (blk_cell BK107.out 1).trans rfl
                    have hcz200_2 : wc.cell? ⟨gb107, 2, none⟩ = some (.int .i64 a0_2) := (blk_cell BK107.out 2).trans rfl
                    have hcz200_3 : wc.cell? ⟨gb107, 3, none⟩ = some (.int .i64 a0_3) := (blk_cell BK107.out 3).trans rfl
                    have hfz200_0 := blk_frozen BK107.out 0
                    have hfz200_1 := blk_frozen BK107.out 1
                    have hfz200_2 := blk_frozen BK107.out 2
                    have hfz200_3 := blk_frozen BK107.out 3
                    go_wp2_with (first | ((with_reducible refine gate_callee (f := 21) rfl ?_); refine goesL_ (some 31) rfl rfl Tryd.func21 (by kernel_rfl) rfl #[.int .i64 a0_0] rfl (by (try simp only [List.map_toArray, List.map_cons, List.map_nil]); first | done | rfl | (simp only [List.length_drop, List.length_take]; rfl)) ?_; (with_reducible refine (spec_l2Bare.calls kj1 a0_0 false false false _ A16.out).mono ?_); rintro e w' ⟨rfl, ⟨nd, rfl⟩⟩; refine ⟨_, rfl, ?_⟩))
                    go_ret
                    exact ⟨by first | rfl | (simp [errW_none, errW_some] <;> rfl) | (simp [*, errW_none, errW_some] <;> rfl), by repeat (first | (with_reducible first | exact HB.out | apply below_alloc | apply pw_below_drewN | apply below_drew1 | refine below_set ?_ GE107.out) | exact HB.out)⟩
                · rw [if_neg c197] at H
                  have c197b0 : (a0_0 == 21) = false := beq_eq_false_iff_ne.mpr c197
                  have c197b1 : (a0_0 != 21) = true := bne_iff_ne.mpr c197
                  by_cases c201 : a0_0 = 22
                  · rw [if_pos c201] at H
                    have c201b0 : (a0_0 == 22) = true := beq_iff_eq.mpr c201
                    have c201b1 : (a0_0 != 22) = false := bne_eq_false_iff_eq.mpr c201
                    clear c201
                    by_cases c202 : a0_3 > 10
                    · rw [if_pos c202] at H
                      have c202b0 : decide (10 < a0_3) = true := decide_eq_true c202
                      clear c202
                      obtain rfl := Option.some.inj H
                      have hcz203_0 : wc.cell? ⟨gb107, 0, none⟩ = some (.int .i64 a0_0) := (blk_cell BK107.out 0).trans rfl
                      have hcz203_1 : wc.cell? ⟨gb107, 1, none⟩ = some (.int .i64 a0_1) := (blk_cell BK107.out 1).trans rfl
                      have hcz203_2 : wc.cell? ⟨gb107, 2, none⟩ = some (.int .i64 a0_2) := (blk_cell BK107.out 2).trans rfl
                      have hcz203_3 : wc.cell? ⟨gb107, 3, none⟩ = some (.int .i64 a0_3) := (blk_cell BK107.out 3).trans rfl
                      have hfz203_0 := blk_frozen BK107.out 0
                      have hfz203_1 := blk_frozen BK107.out 1
                      have hfz203_2 := blk_frozen BK107.out 2
                      have hfz203_3 := blk_frozen BK107.out 3
                      go_wp2_with (first | ((with_reducible refine gate_callee (f := 21) rfl ?_); refine goesL_ (some 31) rfl rfl Tryd.func21 (by kernel_rfl) rfl #[.int .i64 a0_0] rfl (by (try simp only [List.map_toArray, List.map_cons, List.map_nil]); first | done | rfl | (simp only [List.length_drop, List.length_take]; rfl)) ?_; (with_reducible refine (spec_l2Bare.calls kj1 a0_0 false false false _ A16.out).mono ?_); rintro e w' ⟨rfl, ⟨nd, rfl⟩⟩; refine ⟨_, rfl, ?_⟩))
                      go_ret
                      exact ⟨by first | rfl | (simp [errW_none, errW_some] <;> rfl) | (simp [*, errW_none, errW_some] <;> rfl), by repeat (first | (with_reducible first | exact HB.out | apply below_alloc | apply pw_below_drewN | apply below_drew1 | refine below_set ?_ GE107.out) | exact HB.out)⟩
                    · rw [if_neg c202] at H
                      have c202b0 : decide (10 < a0_3) = false := decide_eq_false c202
                      clear c202
                      obtain rfl := Option.some.inj H
                      have hcz204_0 : wc.cell? ⟨gb107, 0, none⟩ = some (.int .i64 a0_0) := (blk_cell BK107.out 0).trans rfl
                      have hcz204_1 : wc.cell? ⟨gb107, 1, none⟩ = some (.int .i64 a0_1) := (blk_cell BK107.out 1).trans rfl
                      have hcz204_2 : wc.cell? ⟨gb107, 2, none⟩ = some (.int .i64 a0_2) := (blk_cell BK107.out 2).trans rfl
                      have hcz204_3 : wc.cell? ⟨gb107, 3, none⟩ = some (.int .i64 a0_3) := (blk_cell BK107.out 3).trans rfl
                      have hfz204_0 := blk_frozen BK107.out 0
                      have hfz204_1 := blk_frozen BK107.out 1
                      have hfz204_2 := blk_frozen BK107.out 2
                      have hfz204_3 := blk_frozen BK107.out 3
                      go_wp2_with (first | ((with_reducible refine gate_callee (f := 21) rfl ?_); refine goesL_ (some 31) rfl rfl Tryd.func21 (by kernel_rfl) rfl #[.int .i64 a0_0] rfl (by (try simp only [List.map_toArray, List.map_cons, List.map_nil]); first | done | rfl | (simp only [List.length_drop, List.length_take]; rfl)) ?_; (with_reducible refine (spec_l2Bare.calls kj1 a0_0 false false false _ A16.out).mono ?_); rintro e w' ⟨rfl, ⟨nd, rfl⟩⟩; refine ⟨_, rfl, ?_⟩))
                      go_ret
                      exact ⟨by first | rfl | (simp [errW_none, errW_some] <;> rfl) | (simp [*, errW_none, errW_some] <;> rfl), by repeat (first | (with_reducible first | exact HB.out | apply below_alloc | apply pw_below_drewN | apply below_drew1 | refine below_set ?_ GE107.out) | exact HB.out)⟩
                  · rw [if_neg c201] at H
                    have c201b0 : (a0_0 == 22) = false := beq_eq_false_iff_ne.mpr c201
                    have c201b1 : (a0_0 != 22) = true := bne_iff_ne.mpr c201
                    obtain rfl := Option.some.inj H
                    have hcz205_0 : wc.cell? ⟨gb107, 0, none⟩ = some (.int .i64 a0_0) := (blk_cell BK107.out 0).trans rfl
                    have hcz205_1 : wc.cell? ⟨gb107, 1, none⟩ = some (.int .i64 a0_1) := (blk_cell BK107.out 1).trans rfl
                    have hcz205_2 : wc.cell? ⟨gb107, 2, none⟩ = some (.int .i64 a0_2) := (blk_cell BK107.out 2).trans rfl
                    have hcz205_3 : wc.cell? ⟨gb107, 3, none⟩ = some (.int .i64 a0_3) := (blk_cell BK107.out 3).trans rfl
                    have hfz205_0 := blk_frozen BK107.out 0
                    have hfz205_1 := blk_frozen BK107.out 1
                    have hfz205_2 := blk_frozen BK107.out 2
                    have hfz205_3 := blk_frozen BK107.out 3
                    go_wp2_with (first | ((with_reducible refine gate_callee (f := 21) rfl ?_); refine goesL_ (some 31) rfl rfl Tryd.func21 (by kernel_rfl) rfl #[.int .i64 a0_0] rfl (by (try simp only [List.map_toArray, List.map_cons, List.map_nil]); first | done | rfl | (simp only [List.length_drop, List.length_take]; rfl)) ?_; (with_reducible refine (spec_l2Bare.calls kj1 a0_0 false false false _ A16.out).mono ?_); rintro e w' ⟨rfl, ⟨nd, rfl⟩⟩; refine ⟨_, rfl, ?_⟩))
                    go_ret
                    exact ⟨by first | rfl | (simp [errW_none, errW_some] <;> rfl) | (simp [*, errW_none, errW_some] <;> rfl), by repeat (first | (with_reducible first | exact HB.out | apply below_alloc | apply pw_below_drewN | apply below_drew1 | refine below_set ?_ GE107.out) | exact HB.out)⟩

end Go.Proofs.YtpppnnmippngdaaDoor.PFnCodes
