-- The Go functions of FnCodes as Lean functions, each with its proof. Written by the session's own program (wip/gen/hp.py), which drives the kit's print.py.
import Derived.Test.YtpppnnmippngdaaDoorPFnCodesx0
import Derived.Test.YtpppnnmippngdaaDoorPFnCodesx2
namespace Go.Proofs.YtpppnnmippngdaaDoor.PFnCodes
open Go.RowKit Go.Proofs.YtpppnnmippngdaaDoorW.PrintWords Go.Proofs.YtpppnnmippngdaaDoorW.PrintLast Go.Proofs.YtpppnnmippngdaaDoorW.PrintMore
attribute [local go_sem] max2_int min2_int max_two min_two max_three min_three max_four min_four   -- for this text's walks alone
set_option linter.unusedVariables false
set_option linter.unusedSimpArgs false


/-! ### impl_InsText: function 8, by hand -/
theorem below_grow {B : Nat} {a w : World} (h : Below B a w) (hB : B ≤ w.heap.size) (os : Array Obj) : Below B a (Sort.grow w os) :=
  h.trans ⟨rfl, rfl, rfl, by simp [Sort.grow], fun k hk => by
    show (w.heap ++ os)[k]? = _
    rw [Array.getElem?_append_left (by omega)]⟩
def decB (a : Int) : ByteArray := ⟨(Lib.itoa a).toArray⟩
set_option maxHeartbeats 8000000 in
set_option maxRecDepth 100000 in
theorem decimal.calls (a : Int) (h0 : 0 ≤ a) (h1 : a ≤ 65535) (w : World) (ht : Tabs w) :
    Calls Tryd.prog 26 #[.int .i64 a] w fun e w' => e = .returned (.string (decB a)) ∧ Below w.heap.size w w' := by
  have HT := Aside0.mk ht
  have HA := Aside0.mk h0
  have HC := Aside0.mk h1
  clear ht h0 h1
  go_enter Tryd.func26, Tryd.ntmps26
  go_wp2_with (go_at_call 37; refine (Tryd.strconv_FormatInt_10 a (by have := HA.out; omega) (by have := HC.out; omega) _ HT.out.p10).mono ?_; rintro e w' ⟨rfl, k, os, rfl⟩)
  go_ret
  exact ⟨rfl, below_grow (pw_below_drewN (Below.refl _ _) k) (Nat.le_refl _) os⟩
theorem pts_made (w : World) (g : Nat) (os : List Nat) (cs : Array Value) (h : cs = (os.map fun o => Value.pointer (some ⟨g, o, none⟩)).toArray) :
    ∀ j o, os[j]? = some o → ∃ ad : Addr, some (⟨w.heap.size, 0, none⟩ : Addr) = some ad ∧ ((w.alloc (.cells cs 52)).drew).cell? (ad.add j) = some (.pointer (some ⟨g, o, none⟩)) := fun j o hj => by
  subst h
  refine ⟨_, rfl, ?_⟩
  have e : (⟨w.heap.size, 0, none⟩ : Addr).add j = ⟨w.heap.size, j, none⟩ := by simp [Addr.add]; omega
  rw [e]
  have e2 : ((w.alloc (.cells (os.map fun o => Value.pointer (some ⟨g, o, none⟩)).toArray 52)).drew).cell? ⟨w.heap.size, j, none⟩ = (w.alloc (.cells (os.map fun o => Value.pointer (some ⟨g, o, none⟩)).toArray 52)).cell? ⟨w.heap.size, j, none⟩ := rfl
  rw [e2, World.cell?_alloc_new]
  simp [hj]
def plcs (a0 : Int) : List Nat := if 23 ≤ a0 then [] else if a0 = 22 then [2, 3] else if a0 = 13 ∨ a0 = 19 ∨ a0 = 21 then [1, 3] else [1, 2, 3]
set_option maxHeartbeats 8000000 in
set_option maxRecDepth 100000 in
theorem places.calls (a0 a1 a2 a3 : Int) (g : Nat) (w : World) (hx : w.heap[g]? = some (.cells #[.int .i64 a0, .int .i64 a1, .int .i64 a2, .int .i64 a3] 27 (0, 0))) :
    Calls Tryd.prog 25 #[.pointer (some ⟨g, 0, none⟩)] w fun e w' => ∃ A c, e = .returned (.slice A (plcs a0).length c) ∧ (plcs a0).length ≤ c ∧ (∀ j o, (plcs a0)[j]? = some o → ∃ ad : Addr, A = some ad ∧ w'.cell? (ad.add j) = some (.pointer (some ⟨g, o, none⟩))) ∧ Below w.heap.size w w' := by
  have hu27 := Tryd.underlying27
  have hc0 : w.cell? ⟨g, 0, none⟩ = some (.int .i64 a0) := (blk_cell hx 0).trans rfl
  have HX := Aside0.mk hx
  clear hx
  by_cases c23 : 23 ≤ a0
  · have b23 : decide (23 ≤ a0) = true := decide_eq_true c23
    have e : plcs a0 = [] := by unfold plcs; rw [if_pos c23]
    rw [e]
    clear c23
    go_enter Tryd.func25, Tryd.ntmps25
    go_wp2
    go_ret
    exact ⟨none, 0, rfl, Nat.le_refl _, fun j o h => by simp at h, by repeat (first | exact Below.refl _ _ | apply pw_below_drewN | apply below_drew1)⟩
  · have b23 : decide (23 ≤ a0) = false := decide_eq_false c23
    by_cases c22 : a0 = 22
    · subst c22
      rw [show plcs 22 = [2, 3] from rfl]
      clear c23 b23
      go_enter Tryd.func25, Tryd.ntmps25
      go_wp2
      go_region
      go_wp2
      go_ret
      exact ⟨_, _, rfl, Nat.le_refl _, pts_made _ _ _ _ rfl, by repeat (first | exact Below.refl _ _ | apply below_alloc | apply pw_below_drewN | apply below_drew1 | exact Nat.le_refl _)⟩
    · by_cases c3 : a0 = 13 ∨ a0 = 19 ∨ a0 = 21
      · have e : plcs a0 = [1, 3] := by unfold plcs; rw [if_neg c23, if_neg c22, if_pos c3]
        rw [e]
        clear e
        rcases c3 with rfl | rfl | rfl
        · clear c23 b23 c22
          go_enter Tryd.func25, Tryd.ntmps25
          go_wp2
          go_region
          go_wp2
          go_ret
          exact ⟨_, _, rfl, Nat.le_refl _, pts_made _ _ _ _ rfl, by repeat (first | exact Below.refl _ _ | apply below_alloc | apply pw_below_drewN | apply below_drew1 | exact Nat.le_refl _)⟩
        · clear c23 b23 c22
          go_enter Tryd.func25, Tryd.ntmps25
          go_wp2
          go_region
          go_wp2
          go_ret
          exact ⟨_, _, rfl, Nat.le_refl _, pts_made _ _ _ _ rfl, by repeat (first | exact Below.refl _ _ | apply below_alloc | apply pw_below_drewN | apply below_drew1 | exact Nat.le_refl _)⟩
        · clear c23 b23 c22
          go_enter Tryd.func25, Tryd.ntmps25
          go_wp2
          go_region
          go_wp2
          go_ret
          exact ⟨_, _, rfl, Nat.le_refl _, pts_made _ _ _ _ rfl, by repeat (first | exact Below.refl _ _ | apply below_alloc | apply pw_below_drewN | apply below_drew1 | exact Nat.le_refl _)⟩
      · have e : plcs a0 = [1, 2, 3] := by unfold plcs; rw [if_neg c23, if_neg c22, if_neg c3]
        rw [e]
        have b22 : (a0 == 22) = false := beq_eq_false_iff_ne.mpr c22
        have b13 : (a0 == 13) = false := beq_eq_false_iff_ne.mpr fun h => c3 (.inl h)
        have b19 : (a0 == 19) = false := beq_eq_false_iff_ne.mpr fun h => c3 (.inr (.inl h))
        have b21 : (a0 == 21) = false := beq_eq_false_iff_ne.mpr fun h => c3 (.inr (.inr h))
        clear e c3 c22 c23
        go_enter Tryd.func25, Tryd.ntmps25
        go_wp2
        go_region
        go_wp2
        go_ret
        exact ⟨_, _, rfl, Nat.le_refl _, pts_made _ _ _ _ rfl, by repeat (first | exact Below.refl _ _ | apply below_alloc | apply pw_below_drewN | apply below_drew1 | exact Nat.le_refl _)⟩
def fld (a0 a1 a2 a3 : Int) (o : Nat) : Int := if o = 1 then a1 else if o = 2 then a2 else if o = 3 then a3 else a0
def insTxt : List Int → ByteArray → Option ByteArray
  | [], s => some s
  | x :: t, s => if 0 ≤ x ∧ x ≤ 65535 ∧ s.size + (1 + (decB x).size) ≤ 9223372036854775807 then insTxt t (s ++ ((⟨#[32]⟩ : ByteArray) ++ decB x)) else none
theorem plcs_mem {a0 : Int} {o : Nat} (h : o ∈ plcs a0) : o = 1 ∨ o = 2 ∨ o = 3 := by
  unfold plcs at h
  split at h
  · simp at h
  · split at h
    · simp at h; omega
    · split at h <;> (simp at h; omega)
theorem plcs_len (a0 : Int) : (plcs a0).length ≤ 3 := by
  unfold plcs
  split
  · simp
  · split
    · simp
    · split <;> simp
theorem drop_fld {a0 : Int} {f : Nat → Int} {i o : Nat} (h : (plcs a0)[i]? = some o) : ((plcs a0).map f).drop i = f o :: ((plcs a0).map f).drop (i + 1) := by
  obtain ⟨hi, rfl⟩ := List.getElem?_eq_some_iff.1 h
  rw [List.drop_eq_getElem_cons (by rw [List.length_map]; exact hi), List.getElem_map]
theorem insTxt_inv {x : Int} {l : List Int} {s r : ByteArray} (h : insTxt (x :: l) s = some r) : 0 ≤ x ∧ x ≤ 65535 ∧ s.size + (1 + (decB x).size) ≤ 9223372036854775807 ∧ insTxt l (s ++ ((⟨#[32]⟩ : ByteArray) ++ decB x)) = some r := by
  unfold insTxt at h
  split at h
  · next c => exact ⟨c.1, c.2.1, c.2.2, h⟩
  · cases h
theorem x_cell {W : World} {g o : Nat} {a0 a1 a2 a3 : Int} (h : W.heap[g]? = some (.cells #[.int .i64 a0, .int .i64 a1, .int .i64 a2, .int .i64 a3] 27 (0, 0))) (ho : o = 1 ∨ o = 2 ∨ o = 3) : W.cell? ⟨g, o, none⟩ = some (.int .i64 (fld a0 a1 a2 a3 o)) := by
  rcases ho with rfl | rfl | rfl <;> exact (blk_cell h _).trans rfl
theorem pts_step {W W' : World} {g : Nat} {os : List Nat} {A : Option Addr} (h : ∀ j o, os[j]? = some o → ∃ ad : Addr, A = some ad ∧ W.cell? (ad.add j) = some (.pointer (some ⟨g, o, none⟩))) (hb : Below W.heap.size W W') :
    ∀ j o, os[j]? = some o → ∃ ad : Addr, A = some ad ∧ W'.cell? (ad.add j) = some (.pointer (some ⟨g, o, none⟩)) := fun j o hj => by
  obtain ⟨ad, e, hc⟩ := h j o hj
  exact ⟨ad, e, (hb.cell (World.block_lt_of_cell? _ _ hc)).trans hc⟩
def impl_InsText.f (a0 a1 a2 a3 : Int) : Option (Int × ByteArray) := (impl_InsFault.f 3 a0 a1 a2 a3).bind fun c => if c = 0 then (if 1 ≤ a0 ∧ a0 ≤ 26 then (insTxt ((plcs a0).map (fld a0 a1 a2 a3)) (rdOf ByteArray.empty nmList (a0 - 1))).bind fun s => some (0, s) else none) else some (c, ⟨#[]⟩)
set_option maxHeartbeats 8000000 in
set_option maxRecDepth 100000 in
theorem impl_InsText.calls (a0 a1 a2 a3 : Int) (r1 : Int) (r2 : ByteArray) (w : World) (ht : Tabs w) (h : impl_InsText.f a0 a1 a2 a3 = some (r1, r2)) :
    Calls Tryd.prog 8 #[.agg #[.int .i64 a0, .int .i64 a1, .int .i64 a2, .int .i64 a3]] w fun e w' => e = .returned (.agg #[.int .i64 r1, .string r2]) ∧ Below w.heap.size w w' := by
  have hu25 := Tryd.underlying25
  have hu27 := Tryd.underlying27
  have HT := Aside0.mk ht
  have HB := Aside0.mk (Below.refl w.heap.size w)
  obtain ⟨c0, A20, H⟩ := Option.bind_eq_some_iff.mp h
  have A2 := Aside0.mk A20
  clear A20 ht h
  by_cases hc : c0 = 0
  · subst hc
    rw [if_pos rfl] at H
    by_cases hr : 1 ≤ a0 ∧ a0 ≤ 26
    case neg =>
      rw [if_neg hr] at H
      exact absurd H (by simp)
    rw [if_pos hr] at H
    obtain ⟨s, hs, H⟩ := Option.bind_eq_some_iff.mp H
    simp only [Option.some.injEq, Prod.mk.injEq] at H
    obtain ⟨rfl, rfl⟩ := H
    obtain ⟨ji, hji⟩ : ∃ j : Int, a0 - 1 = j := ⟨_, rfl⟩
    rw [hji] at hs
    have hjw : IntKind.i64.wrap (a0 - 1) = ji := by rw [i64_w, ← hji]; unfold wrap64; omega
    have hjw2 : wrap64 (a0 - 1) = ji := (i64_w _).symm.trans hjw
    have HJ := Aside0.mk (show 0 ≤ ji ∧ ji < ((nmList.length : Nat) : Int) from ⟨by omega, by show ji < 26; omega⟩)
    have HS := Aside0.mk hs
    clear hs hr hji
    go_enter Tryd.func8, Tryd.ntmps8
    go_wp2_with (first | ((with_reducible refine gate_dst (N := 1) rfl ?_); refine box_event ?hg (N := 1) ?hd (cs := #[.int .i64 a0, .int .i64 a1, .int .i64 a2, .int .i64 a3]) (t := 27) ?hr ?_; (case hd => rfl); (case hg => rfl); (case hr => first | (go_simp; done) | (go_simp; rfl)); intro gbX hg wx1 hbox hb; have n0_ := Aside0.mk (below_step (by repeat (first | (with_reducible first | exact HB.out | apply below_alloc | apply pw_below_drewN | apply below_drew1) | exact HB.out)) hb); have n1_ := Aside0.mk (hbox); have n2_ := Aside0.mk ((by rw [hg]; exact (below_size (by repeat (first | (with_reducible first | exact HB.out | apply below_alloc | apply pw_below_drewN | apply below_drew1) | exact HB.out))) : w.heap.size ≤ gbX)); have n3_ := Aside0.mk ((by rw [hg]; exact (below_size (by repeat (first | (with_reducible first | exact HB.out | apply below_alloc | apply pw_below_drewN | apply below_drew1) | exact HB.out))) : w.heap.size ≤ gbX)); clear HB; have HB := n0_; have BKX := n1_; have GWX := n2_; have GEX := n3_; clear n0_ n1_ n2_ n3_; clear hb hbox hg) | ((with_reducible refine gate_dst (N := 2) rfl ?_); refine box_event ?hg (N := 2) ?hd (cs := #[.int .i64 0, .string (⟨#[]⟩ : ByteArray)]) (t := 25) ?hr ?_; (case hd => rfl); (case hg => rfl); (case hr => first | (go_simp; done) | (go_simp; rfl)); intro gbR hg wx2 hbox hb; have n0_ := Aside0.mk (blk_below (g := gbX) (o := .cells #[.int .i64 a0, .int .i64 a1, .int .i64 a2, .int .i64 a3] 27 (0, 0)) (by (with_reducible repeat (first | refine blk_drewN ?_ _ | refine blk_drew ?_ | refine blk_alloc ?_ _)); exact BKX.out) hb); have n1_ := Aside0.mk (below_step (by repeat (first | (with_reducible first | exact HB.out | apply below_alloc | apply pw_below_drewN | apply below_drew1 | refine below_set ?_ GEX.out) | exact HB.out)) hb); have n2_ := Aside0.mk (hbox); have n3_ := Aside0.mk ((by rw [hg]; exact (below_size (by repeat (first | (with_reducible first | exact HB.out | apply below_alloc | apply pw_below_drewN | apply below_drew1 | refine below_set ?_ GEX.out) | exact HB.out))) : w.heap.size ≤ gbR)); have n4_ := Aside0.mk ((by rw [hg]; exact (below_size (by repeat (first | (with_reducible first | exact HB.out | apply below_alloc | apply pw_below_drewN | apply below_drew1 | refine below_set ?_ GEX.out) | exact HB.out))) : w.heap.size ≤ gbR)); have n5_ := Aside0.mk ((by rw [hg]; exact Nat.ne_of_lt (blk_lt (g := gbX) (o := .cells #[.int .i64 a0, .int .i64 a1, .int .i64 a2, .int .i64 a3] 27 (0, 0)) (by (with_reducible repeat (first | refine blk_drewN ?_ _ | refine blk_drew ?_ | refine blk_alloc ?_ _)); exact BKX.out)) : gbX ≠ gbR)); have n6_ := Aside0.mk ((by rw [hg]; exact Nat.ne_of_gt (blk_lt (g := gbX) (o := .cells #[.int .i64 a0, .int .i64 a1, .int .i64 a2, .int .i64 a3] 27 (0, 0)) (by (with_reducible repeat (first | refine blk_drewN ?_ _ | refine blk_drew ?_ | refine blk_alloc ?_ _)); exact BKX.out)) : gbR ≠ gbX)); clear BKX; clear HB; have BKX := n0_; have HB := n1_; have BKR := n2_; have GWR := n3_; have GER := n4_; have NBXR := n5_; have NBRX := n6_; clear n0_ n1_ n2_ n3_ n4_ n5_ n6_; clear hb hbox hg; have hnb55 := NBXR.out; have hnc55 := NBRX.out; have hcz56_0 : wx2.cell? ⟨gbX, 0, none⟩ = some (.int .i64 a0) := (blk_cell BKX.out 0).trans rfl; have hcz56_1 : wx2.cell? ⟨gbX, 1, none⟩ = some (.int .i64 a1) := (blk_cell BKX.out 1).trans rfl; have hcz56_2 : wx2.cell? ⟨gbX, 2, none⟩ = some (.int .i64 a2) := (blk_cell BKX.out 2).trans rfl; have hcz56_3 : wx2.cell? ⟨gbX, 3, none⟩ = some (.int .i64 a3) := (blk_cell BKX.out 3).trans rfl; have hfz56_0 := blk_frozen BKX.out 0; have hfz56_1 := blk_frozen BKX.out 1; have hfz56_2 := blk_frozen BKX.out 2; have hfz56_3 := blk_frozen BKX.out 3) | ((with_reducible refine gate_callee (f := 23) rfl ?_); refine goesL_ (some 8) rfl rfl Tryd.func23 (by kernel_rfl) rfl #[.agg #[.int .i64 a0, .int .i64 a1, .int .i64 a2, .int .i64 a3]] rfl (by (try simp only [List.map_toArray, List.map_cons, List.map_nil]); first | done | rfl | (simp only [List.length_drop, List.length_take]; rfl)) ?_; (with_reducible refine (impl_InsFault.calls 3 a0 a1 a2 a3 0 _ A2.out).mono ?_); rintro e wx3 ⟨rfl, hb⟩; refine ⟨_, rfl, ?_⟩; have n0_ := Aside0.mk (blk_below (g := gbX) (o := .cells #[.int .i64 a0, .int .i64 a1, .int .i64 a2, .int .i64 a3] 27 (0, 0)) (by (with_reducible repeat (first | refine blk_drewN ?_ _ | refine blk_drew ?_ | refine blk_alloc ?_ _)); exact BKX.out) hb); have n1_ := Aside0.mk (blk_below (g := gbR) (o := .cells #[.int .i64 0, .string (⟨#[]⟩ : ByteArray)] 25 (0, 0)) (by (with_reducible repeat (first | refine blk_drewN ?_ _ | refine blk_drew ?_ | refine blk_alloc ?_ _)); exact BKR.out) hb); have n2_ := Aside0.mk (below_step (by repeat (first | (with_reducible first | exact HB.out | apply below_alloc | apply pw_below_drewN | apply below_drew1 | refine below_set ?_ GEX.out | refine below_set ?_ GER.out) | exact HB.out)) hb); clear BKX; clear BKR; clear HB; have BKX := n0_; have BKR := n1_; have HB := n2_; clear n0_ n1_ n2_; (try clear hb); (try clear hb2); (try clear hk); (try clear hi); have hcz58_0 : wx3.cell? ⟨gbR, 0, none⟩ = some (.int .i64 0) := (blk_cell BKR.out 0).trans rfl; have hcz58_1 : wx3.cell? ⟨gbR, 1, none⟩ = some (.string (⟨#[]⟩ : ByteArray)) := (blk_cell BKR.out 1).trans rfl; have hfz58_0 := blk_frozen BKR.out 0; have hfz58_1 := blk_frozen BKR.out 1))
    have n0_ := Aside0.mk (blk_drew BKX.out)
    have n1_ := Aside0.mk (blk_drew BKR.out)
    have n2_ := Aside0.mk (below_drew1 HB.out)
    clear BKX BKR HB
    have BKX := n0_
    have BKR := n1_
    have HB := n2_
    clear n0_ n1_ n2_
    refine start_ (n := 7) (S := (fun w' => w'.cell? ⟨gbX, 0, none⟩ = some (.int .i64 a0) ∧ w'.cell? ⟨gbX, 1, none⟩ = some (.int .i64 a1) ∧ w'.cell? ⟨gbX, 2, none⟩ = some (.int .i64 a2) ∧ w'.cell? ⟨gbX, 3, none⟩ = some (.int .i64 a3))) (ds := []) #[false, false, false, false, false, false, false] (by kernel_rfl) rfl rfl ⟨(blk_cell BKX.out 0).trans rfl, (blk_cell BKX.out 1).trans rfl, (blk_cell BKX.out 2).trans rfl, (blk_cell BKX.out 3).trans rfl⟩ (fun hHeld => ?_)
    generalize wx3.drew = wx4 at BKX BKR HB hHeld ⊢
    refine pure_ (i := 1) (N := some 14) (v := ?_) (a' := ?_) #[false, true, false, false, false, false, false] rfl rfl (by kernel_rfl) (fun _ _ _ h => h) (Or.inl ⟨by rfl, ?_⟩) ?_ ?_
    rotate_left
    · intro w'
      go_simp
      with_reducible rfl
    rotate_left
    · simp only [Act.put, List.setIfInBounds_toArray, List.set_cons_zero, List.set_cons_succ, i64_w, i32_w]
      rfl
    refine take_ (i := 2) (N := some 15) (v := ?_) (a' := ?_) #[false, true, true, false, false, false, false] rfl rfl (by kernel_rfl) (fun _ _ _ h => h) (Or.inl ⟨by rfl, ?_⟩) hHeld ?_ ?_
    rotate_left
    · rintro w' ⟨s0, s1, s2, s3⟩
      go_simp
      with_reducible rfl
    rotate_left
    · simp only [Act.put, List.setIfInBounds_toArray, List.set_cons_zero, List.set_cons_succ, i64_w, i32_w]
      rfl
    refine pure_ (i := 3) (N := some 16) (v := ?_) (a' := ?_) #[false, true, true, true, false, false, false] rfl rfl (by kernel_rfl) (fun _ _ _ h => h) (Or.inl ⟨by rfl, ?_⟩) ?_ ?_
    rotate_left
    · intro w'
      go_simp
      with_reducible rfl
    rotate_left
    · simp only [Act.put, List.setIfInBounds_toArray, List.set_cons_zero, List.set_cons_succ, i64_w, i32_w, hjw2]
      rfl
    refine one_ (i := 0) (N := some 13) #[true, true, true, true, false, false, false] rfl rfl (by kernel_rfl) (by decide) (fun K hK => ?_)
    refine goes_ Tryd.func24 (by kernel_rfl) rfl #[] (by rfl) rfl rfl (by (try simp only [List.map_toArray, List.map_cons, List.map_nil]); first | done | rfl) ?_
    with_reducible refine (impl_opNames.calls nmList _ (HT.out.below (by repeat (first | (with_reducible first | exact HB.out | apply below_alloc | apply pw_below_drewN | apply below_drew1 | refine below_set ?_ GEX.out | refine below_set ?_ GER.out) | exact HB.out))) rfl).mono ?_
    rintro e wx5 ⟨v1, rfl, ho0, hb⟩
    refine ⟨_, rfl, ?_⟩
    have HO := Aside0.mk (Kd.R_lower ho0 (below_size (by repeat (first | (with_reducible first | exact HB.out | apply below_alloc | apply pw_below_drewN | apply below_drew1 | refine below_set ?_ GEX.out | refine below_set ?_ GER.out) | exact HB.out))))
    have n1_ := Aside0.mk (blk_below (g := gbX) (o := (.cells #[.int .i64 a0, .int .i64 a1, .int .i64 a2, .int .i64 a3] 27 (0, 0))) (by (with_reducible repeat (first | refine blk_drewN ?_ _ | refine blk_drew ?_ | refine blk_alloc ?_ _)); exact BKX.out) hb); have n2_ := Aside0.mk (blk_below (g := gbR) (o := (.cells #[.int .i64 0, .string (⟨#[]⟩ : ByteArray)] 25 (0, 0))) (by (with_reducible repeat (first | refine blk_drewN ?_ _ | refine blk_drew ?_ | refine blk_alloc ?_ _)); exact BKR.out) hb); have n3_ := Aside0.mk (below_step (by repeat (first | (with_reducible first | exact HB.out | apply below_alloc | apply pw_below_drewN | apply below_drew1 | refine below_set ?_ GEX.out | refine below_set ?_ GER.out) | exact HB.out)) hb); clear BKX; clear BKR; clear HB; have BKX := n1_; have BKR := n2_; have HB := n3_; clear n1_ n2_ n3_
    clear hb ho0
    obtain ⟨Ao, co, eo⟩ := Kd.R_slice HO.out
    subst eo
    obtain ⟨adN, eN, hxN⟩ := Kd.at_string (Kd.R_reads' HO.out).2.2 ji HJ.out.1 HJ.out.2
    cases eN
    have pN := eq_true HJ.out.1
    have qN := eq_true HJ.out.2
    refine hK.out _ _ ⟨(blk_cell BKX.out 0).trans rfl, (blk_cell BKX.out 1).trans rfl, (blk_cell BKX.out 2).trans rfl, (blk_cell BKX.out 3).trans rfl⟩ (fun hHeld => ?_)
    clear hK K
    refine norm_ (a' := ?_) ?_ ?_
    rotate_left
    · show Act.put _ (some 13) _ = _
      simp only [Act.put, List.setIfInBounds_toArray, List.set_cons_zero, List.set_cons_succ, i64_w, i32_w]
      rfl
    refine pure_ (i := 4) (N := some 17) (v := ?_) (a' := ?_) #[true, true, true, true, true, false, false] rfl rfl (by kernel_rfl) (fun _ _ _ h => h) (Or.inl ⟨by rfl, ?_⟩) ?_ ?_
    rotate_left
    · intro w'
      go_simp
      with_reducible rfl
    rotate_left
    · simp only [Act.put, List.setIfInBounds_toArray, List.set_cons_zero, List.set_cons_succ, i64_w, i32_w]
      rfl
    refine one_ (i := 5) (N := some 18) #[true, true, true, true, true, true, false] rfl rfl (by kernel_rfl) (by decide) (fun K hK => ?_)
    refine value_ (w1 := ?_) (v := ?_) (by rfl) rfl ?_ ?_
    rotate_left 2
    · go_simp
      first | (constructor <;> rfl) | rfl
    refine hK.out _ _ hHeld (fun hHeld => ?_)
    clear hK K
    refine norm_ (a' := ?_) ?_ ?_
    rotate_left
    · show Act.put _ (some 18) _ = _
      simp only [Act.put, List.setIfInBounds_toArray, List.set_cons_zero, List.set_cons_succ, i64_w, i32_w]
      rfl
    refine pure_ (i := 6) (N := some 4) (v := ?_) (a' := ?_) #[true, true, true, true, true, true, true] rfl rfl (by kernel_rfl) (fun _ _ _ h => h) (Or.inl ⟨by rfl, ?_⟩) ?_ ?_
    rotate_left
    · intro w'
      go_simp
      with_reducible rfl
    rotate_left
    · simp only [Act.put, List.setIfInBounds_toArray, List.set_cons_zero, List.set_cons_succ, i64_w, i32_w]
      rfl
    refine done_ (by kernel_rfl) ?_
    clear hHeld hxN pN qN HO
    generalize hsv : rdOf ByteArray.empty nmList ji = sv at HS ⊢
    clear hsv
    obtain ⟨n, hn⟩ : ∃ n : Nat, (plcs a0).length = n := ⟨_, rfl⟩
    have HN := Aside0.mk hn
    clear hn
    go_wp2_with ((with_reducible refine gate_callee (f := 25) rfl ?_); refine goesL_ (some 19) rfl rfl Tryd.func25 (by kernel_rfl) rfl #[.pointer (some ⟨gbX, 0, none⟩)] rfl (by (try simp only [List.map_toArray, List.map_cons, List.map_nil]); first | done | rfl) ?_; (with_reducible refine (places.calls a0 a1 a2 a3 gbX _ (by (with_reducible repeat (first | refine blk_drewN ?_ _ | refine blk_drew ?_ | refine blk_alloc ?_ _)); exact BKX.out)).mono ?_); rintro e wx6 ⟨Ap, cp, rfl, hcp, hpts, hb⟩; refine ⟨_, rfl, ?_⟩; have n1_ := Aside0.mk (blk_below (g := gbX) (o := (.cells #[.int .i64 a0, .int .i64 a1, .int .i64 a2, .int .i64 a3] 27 (0, 0))) (by (with_reducible repeat (first | refine blk_drewN ?_ _ | refine blk_drew ?_ | refine blk_alloc ?_ _)); exact BKX.out) hb); have n2_ := Aside0.mk (blk_below (g := gbR) (o := (.cells #[.int .i64 0, .string (⟨#[]⟩ : ByteArray)] 25 (0, 0))) (by (with_reducible repeat (first | refine blk_drewN ?_ _ | refine blk_drew ?_ | refine blk_alloc ?_ _)); exact BKR.out) hb); have n3_ := Aside0.mk (below_step (by repeat (first | (with_reducible first | exact HB.out | apply below_alloc | apply pw_below_drewN | apply below_drew1 | refine below_set ?_ GEX.out | refine below_set ?_ GER.out) | exact HB.out)) hb); clear BKX; clear BKR; clear HB; have BKX := n1_; have BKR := n2_; have HB := n3_; clear n1_ n2_ n3_; clear hb; have HPT := Aside0.mk hpts; have HCP := Aside0.mk hcp; clear hpts hcp; rw [HN.out])
    go_loopg [4, 6, 21] n (fun kq v4 v6 v21 w' => ∃ (i : Nat) (st : ByteArray), v4 = .string st ∧ v21 = .int .i64 (i : Int) ∧ Aside0 (i + kq = n) ∧ Aside0 (insTxt (((plcs a0).map (fld a0 a1 a2 a3)).drop i) st = some s) ∧ Aside0 (w'.heap[gbX]? = some (.cells #[.int .i64 a0, .int .i64 a1, .int .i64 a2, .int .i64 a3] 27 (0, 0))) ∧ Aside0 (w'.heap[gbR]? = some (.cells #[.int .i64 0, .string (⟨#[]⟩ : ByteArray)] 25 (0, 0))) ∧ Aside0 (∀ j o, (plcs a0)[j]? = some o → ∃ ad : Addr, Ap = some ad ∧ w'.cell? (ad.add j) = some (.pointer (some ⟨gbX, o, none⟩))) ∧ Aside0 (Below w.heap.size w w'))
    case atStart => exact ⟨0, sv, rfl, rfl, ⟨by omega⟩, HS, BKX, BKR, HPT, HB⟩
    case round =>
      clear HS BKX BKR HPT HB
      obtain ⟨i, st, rfl, rfl, HK, HI, BKX, BKR, HPT, HB⟩ := hrel
      by_cases hlt : i < n
      · obtain ⟨o, ho⟩ : ∃ o, (plcs a0)[i]? = some o := ⟨_, List.getElem?_eq_getElem (by rw [HN.out]; exact hlt)⟩
        have ho3 := plcs_mem (List.mem_of_getElem? ho)
        have hI := HI.out
        rw [drop_fld ho] at hI
        obtain ⟨x0, x1, xs, hI⟩ := insTxt_inv hI
        obtain ⟨adP, eP, hP⟩ := HPT.out i o ho
        cases eP
        have hX := x_cell BKX.out ho3
        generalize fld a0 a1 a2 a3 o = x at hI x0 x1 xs hX
        have HI2 := Aside0.mk hI
        have HX0 := Aside0.mk x0
        have HX1 := Aside0.mk x1
        have f1 : (9223372036854775807 < 1 + (decB x).size) = False := eq_false (by omega)
        have f2 : (9223372036854775807 < st.size + (1 + (decB x).size)) = False := eq_false (by omega)
        have p101 : 0 ≤ (i : Int) := Int.natCast_nonneg i
        have q101 : (i : Int) < (n : Int) := by omega
        clear hI x0 x1 xs ho ho3 HI
        go_wp2_with (go_at_call 26; refine (decimal.calls x HX0.out HX1.out _ (HT.out.below (by repeat (first | (with_reducible first | exact HB.out | apply below_alloc | apply pw_below_drewN | apply below_drew1 | refine below_set ?_ GEX.out | refine below_set ?_ GER.out) | exact HB.out)))).mono ?_; rintro e wd ⟨rfl, hb⟩; have HPT2 := Aside0.mk (pts_step HPT.out hb); have n1_ := Aside0.mk (blk_below (g := gbX) (o := (.cells #[.int .i64 a0, .int .i64 a1, .int .i64 a2, .int .i64 a3] 27 (0, 0))) (by (with_reducible repeat (first | refine blk_drewN ?_ _ | refine blk_drew ?_ | refine blk_alloc ?_ _)); exact BKX.out) hb); have n2_ := Aside0.mk (blk_below (g := gbR) (o := (.cells #[.int .i64 0, .string (⟨#[]⟩ : ByteArray)] 25 (0, 0))) (by (with_reducible repeat (first | refine blk_drewN ?_ _ | refine blk_drew ?_ | refine blk_alloc ?_ _)); exact BKR.out) hb); have n3_ := Aside0.mk (below_step (by repeat (first | (with_reducible first | exact HB.out | apply below_alloc | apply pw_below_drewN | apply below_drew1 | refine below_set ?_ GEX.out | refine below_set ?_ GER.out) | exact HB.out)) hb); clear BKX; clear BKR; clear HB; have BKX := n1_; have BKR := n2_; have HB := n3_; clear n1_ n2_ n3_; clear hb HPT)
        have hn3 : n ≤ 3 := HN.out ▸ plcs_len a0
        obtain ⟨kq, rfl⟩ : ∃ m, gk = m + 1 := ⟨gk - 1, by have := HK.out; omega⟩
        go_roundg kq
        case measure => omega
        case rel => exact ⟨i + 1, _, rfl, by first | go_num | (congr 1; unfold wrap64; omega) | (simp only [i64_w]; congr 1; unfold wrap64; omega), ⟨by have := HK.out; omega⟩, HI2, ⟨(by (with_reducible repeat (first | refine blk_drewN ?_ _ | refine blk_drew ?_ | refine blk_alloc ?_ _)); exact BKX.out)⟩, ⟨(by (with_reducible repeat (first | refine blk_drewN ?_ _ | refine blk_drew ?_ | refine blk_alloc ?_ _)); exact BKR.out)⟩, HPT2, ⟨(by repeat (first | (with_reducible first | exact HB.out | apply below_alloc | apply pw_below_drewN | apply below_drew1 | refine below_set ?_ GEX.out | refine below_set ?_ GER.out) | exact HB.out))⟩⟩
      · have hI := HI.out
        rw [List.drop_eq_nil_of_le (by rw [List.length_map, HN.out]; omega)] at hI
        obtain rfl : st = s := Option.some.inj hI
        have hczR0 := (blk_cell BKR.out 0).trans rfl
        have hczR1 := (blk_cell BKR.out 1).trans rfl
        have hfzR0 := blk_frozen BKR.out 0
        have hfzR1 := blk_frozen BKR.out 1
        clear hI HI
        go_wp2
        refine bodyPost_ret (results_cell_row rfl _ _ gbR 25 #[.int .i64 0, .string st] (0, 0) _ rfl (by (with_reducible repeat (first | refine blk_drewN ?_ _ | refine blk_drew ?_ | refine blk_alloc ?_ _)); refine blk_put (cs := #[.int .i64 0, .string (⟨#[]⟩ : ByteArray)]) ?_ 1 _ rfl; (with_reducible repeat (first | refine blk_drewN ?_ _ | refine blk_drew ?_ | refine blk_alloc ?_ _)); refine blk_put (cs := #[.int .i64 0, .string (⟨#[]⟩ : ByteArray)]) ?_ 0 _ rfl; (with_reducible repeat (first | refine blk_drewN ?_ _ | refine blk_drew ?_ | refine blk_alloc ?_ _)); exact BKR.out) Tryd.underlying25 rfl (by kernel_rfl)) rfl ?_
        exact ⟨rfl, (by repeat (first | (with_reducible first | exact HB.out | apply below_alloc | apply pw_below_drewN | apply below_drew1 | refine below_set ?_ GEX.out | refine below_set ?_ GER.out) | exact HB.out))⟩
  · rw [if_neg hc] at H
    simp only [Option.some.injEq, Prod.mk.injEq] at H
    obtain ⟨rfl, rfl⟩ := H
    have hb0 : (c0 != 0) = true := bne_iff_ne.mpr hc
    clear hc
    go_enter Tryd.func8, Tryd.ntmps8
    go_wp2_with (first | ((with_reducible refine gate_dst (N := 1) rfl ?_); refine box_event ?hg (N := 1) ?hd (cs := #[.int .i64 a0, .int .i64 a1, .int .i64 a2, .int .i64 a3]) (t := 27) ?hr ?_; (case hd => rfl); (case hg => rfl); (case hr => first | (go_simp; done) | (go_simp; rfl)); intro gbX hg wx1 hbox hb; have n0_ := Aside0.mk (below_step (by repeat (first | (with_reducible first | exact HB.out | apply below_alloc | apply pw_below_drewN | apply below_drew1) | exact HB.out)) hb); have n1_ := Aside0.mk (hbox); have n2_ := Aside0.mk ((by rw [hg]; exact (below_size (by repeat (first | (with_reducible first | exact HB.out | apply below_alloc | apply pw_below_drewN | apply below_drew1) | exact HB.out))) : w.heap.size ≤ gbX)); have n3_ := Aside0.mk ((by rw [hg]; exact (below_size (by repeat (first | (with_reducible first | exact HB.out | apply below_alloc | apply pw_below_drewN | apply below_drew1) | exact HB.out))) : w.heap.size ≤ gbX)); clear HB; have HB := n0_; have BKX := n1_; have GWX := n2_; have GEX := n3_; clear n0_ n1_ n2_ n3_; clear hb hbox hg) | ((with_reducible refine gate_dst (N := 2) rfl ?_); refine box_event ?hg (N := 2) ?hd (cs := #[.int .i64 0, .string (⟨#[]⟩ : ByteArray)]) (t := 25) ?hr ?_; (case hd => rfl); (case hg => rfl); (case hr => first | (go_simp; done) | (go_simp; rfl)); intro gbR hg wx2 hbox hb; have n0_ := Aside0.mk (blk_below (g := gbX) (o := .cells #[.int .i64 a0, .int .i64 a1, .int .i64 a2, .int .i64 a3] 27 (0, 0)) (by (with_reducible repeat (first | refine blk_drewN ?_ _ | refine blk_drew ?_ | refine blk_alloc ?_ _)); exact BKX.out) hb); have n1_ := Aside0.mk (below_step (by repeat (first | (with_reducible first | exact HB.out | apply below_alloc | apply pw_below_drewN | apply below_drew1 | refine below_set ?_ GEX.out) | exact HB.out)) hb); have n2_ := Aside0.mk (hbox); have n3_ := Aside0.mk ((by rw [hg]; exact (below_size (by repeat (first | (with_reducible first | exact HB.out | apply below_alloc | apply pw_below_drewN | apply below_drew1 | refine below_set ?_ GEX.out) | exact HB.out))) : w.heap.size ≤ gbR)); have n4_ := Aside0.mk ((by rw [hg]; exact (below_size (by repeat (first | (with_reducible first | exact HB.out | apply below_alloc | apply pw_below_drewN | apply below_drew1 | refine below_set ?_ GEX.out) | exact HB.out))) : w.heap.size ≤ gbR)); have n5_ := Aside0.mk ((by rw [hg]; exact Nat.ne_of_lt (blk_lt (g := gbX) (o := .cells #[.int .i64 a0, .int .i64 a1, .int .i64 a2, .int .i64 a3] 27 (0, 0)) (by (with_reducible repeat (first | refine blk_drewN ?_ _ | refine blk_drew ?_ | refine blk_alloc ?_ _)); exact BKX.out)) : gbX ≠ gbR)); have n6_ := Aside0.mk ((by rw [hg]; exact Nat.ne_of_gt (blk_lt (g := gbX) (o := .cells #[.int .i64 a0, .int .i64 a1, .int .i64 a2, .int .i64 a3] 27 (0, 0)) (by (with_reducible repeat (first | refine blk_drewN ?_ _ | refine blk_drew ?_ | refine blk_alloc ?_ _)); exact BKX.out)) : gbR ≠ gbX)); clear BKX; clear HB; have BKX := n0_; have HB := n1_; have BKR := n2_; have GWR := n3_; have GER := n4_; have NBXR := n5_; have NBRX := n6_; clear n0_ n1_ n2_ n3_ n4_ n5_ n6_; clear hb hbox hg; have hnb55 := NBXR.out; have hnc55 := NBRX.out; have hcz56_0 : wx2.cell? ⟨gbX, 0, none⟩ = some (.int .i64 a0) := (blk_cell BKX.out 0).trans rfl; have hcz56_1 : wx2.cell? ⟨gbX, 1, none⟩ = some (.int .i64 a1) := (blk_cell BKX.out 1).trans rfl; have hcz56_2 : wx2.cell? ⟨gbX, 2, none⟩ = some (.int .i64 a2) := (blk_cell BKX.out 2).trans rfl; have hcz56_3 : wx2.cell? ⟨gbX, 3, none⟩ = some (.int .i64 a3) := (blk_cell BKX.out 3).trans rfl; have hfz56_0 := blk_frozen BKX.out 0; have hfz56_1 := blk_frozen BKX.out 1; have hfz56_2 := blk_frozen BKX.out 2; have hfz56_3 := blk_frozen BKX.out 3) | ((with_reducible refine gate_callee (f := 23) rfl ?_); refine goesL_ (some 8) rfl rfl Tryd.func23 (by kernel_rfl) rfl #[.agg #[.int .i64 a0, .int .i64 a1, .int .i64 a2, .int .i64 a3]] rfl (by (try simp only [List.map_toArray, List.map_cons, List.map_nil]); first | done | rfl | (simp only [List.length_drop, List.length_take]; rfl)) ?_; (with_reducible refine (impl_InsFault.calls 3 a0 a1 a2 a3 c0 _ A2.out).mono ?_); rintro e wx3 ⟨rfl, hb⟩; refine ⟨_, rfl, ?_⟩; have n0_ := Aside0.mk (blk_below (g := gbX) (o := .cells #[.int .i64 a0, .int .i64 a1, .int .i64 a2, .int .i64 a3] 27 (0, 0)) (by (with_reducible repeat (first | refine blk_drewN ?_ _ | refine blk_drew ?_ | refine blk_alloc ?_ _)); exact BKX.out) hb); have n1_ := Aside0.mk (blk_below (g := gbR) (o := .cells #[.int .i64 0, .string (⟨#[]⟩ : ByteArray)] 25 (0, 0)) (by (with_reducible repeat (first | refine blk_drewN ?_ _ | refine blk_drew ?_ | refine blk_alloc ?_ _)); exact BKR.out) hb); have n2_ := Aside0.mk (below_step (by repeat (first | (with_reducible first | exact HB.out | apply below_alloc | apply pw_below_drewN | apply below_drew1 | refine below_set ?_ GEX.out | refine below_set ?_ GER.out) | exact HB.out)) hb); clear BKX; clear BKR; clear HB; have BKX := n0_; have BKR := n1_; have HB := n2_; clear n0_ n1_ n2_; (try clear hb); (try clear hb2); (try clear hk); (try clear hi); have hcz58_0 : wx3.cell? ⟨gbR, 0, none⟩ = some (.int .i64 0) := (blk_cell BKR.out 0).trans rfl; have hcz58_1 : wx3.cell? ⟨gbR, 1, none⟩ = some (.string (⟨#[]⟩ : ByteArray)) := (blk_cell BKR.out 1).trans rfl; have hfz58_0 := blk_frozen BKR.out 0; have hfz58_1 := blk_frozen BKR.out 1))
    refine bodyPost_ret (results_cell_row rfl _ _ gbR 25 #[.int .i64 c0, .string (⟨#[]⟩ : ByteArray)] (0, 0) _ rfl (by (with_reducible repeat (first | refine blk_drewN ?_ _ | refine blk_drew ?_ | refine blk_alloc ?_ _)); refine blk_put (cs := #[.int .i64 c0, .string (⟨#[]⟩ : ByteArray)]) ?_ 1 _ rfl; (with_reducible repeat (first | refine blk_drewN ?_ _ | refine blk_drew ?_ | refine blk_alloc ?_ _)); refine blk_put (cs := #[.int .i64 0, .string (⟨#[]⟩ : ByteArray)]) ?_ 0 _ rfl; (with_reducible repeat (first | refine blk_drewN ?_ _ | refine blk_drew ?_ | refine blk_alloc ?_ _)); exact BKR.out) Tryd.underlying25 rfl (by kernel_rfl)) rfl ?_
    exact ⟨by first | rfl | (simp [errW_none, errW_some] <;> rfl) | (simp [*, errW_none, errW_some] <;> rfl), by repeat (first | (with_reducible first | exact HB.out | apply below_alloc | apply pw_below_drewN | apply below_drew1 | refine below_set ?_ GEX.out | refine below_set ?_ GER.out) | exact HB.out)⟩

/-! ### laws_lwBig: function 10 -/
def laws_lwBig.f (l0 : List Int) : Option (Bool) := some (decide ((l0.length : Int) > 1048576))
set_option maxHeartbeats 8000000 in
set_option maxRecDepth 100000 in
theorem laws_lwBig.calls (A0 : Option Addr) (c0 : Nat) (l0 : List Int) (r : Bool) (w : World) (hr0 : Kd.C (Kd.int .u8) w A0 l0.length l0) (hc0 : l0.length ≤ c0) (h : laws_lwBig.f l0 = some r) :
    Calls Tryd.prog 10 #[.slice A0 l0.length c0] w fun e w' => e = .returned (.bool r) ∧ Drawn0 w w' := by
  have HR0 := Aside0.mk hr0
  have HC0 := Aside0.mk hc0
  clear hr0 hc0
  have H : (some (decide ((l0.length : Int) > 1048576))) = some r := h
  clear h
  obtain rfl := Option.some.inj H
  go_enter Tryd.func10, Tryd.ntmps10
  go_wp2
  go_ret
  exact ⟨by first | rfl | (simp; done) | (simp [*]; done), by repeat (first | exact Drawn0.refl _ | apply Drawn0.step)⟩

/-- A state of type 66 at block g of W; what its slices lead to came in by w0. -/
def IsS66 (w0 W : World) (g : Nat) (f0 : List Int) (f1 : Int) : Prop := ∃ A0 c0, W.heap[g]? = some (.cells #[.slice A0 f0.length c0, .int .i64 f1] 66 (0, 0)) ∧ w0.heap.size ≤ g ∧ Kd.C (Kd.int .u8) w0 A0 f0.length f0
theorem IsS66.grown {w0 W : World} {g : Nat} {f0 : List Int} {f1 : Int} {W1 : World} {row : Option Nat} (h : IsS66 w0 W g f0 f1) (hw : W.grownBy W1 row) (hne : some g ≠ row) : IsS66 w0 W1 g f0 f1 := by
  obtain ⟨A0, c0, hb, hg, hr0⟩ := h
  exact ⟨A0, c0, blk_grown hb hw hne, hg, hr0⟩
theorem IsS66.own_neN {w0 W : World} {g : Nat} {f0 : List Int} {f1 : Int} {α : Type} {d : Kd α} {e : Nat} {base : Nat} {ok : Nat → Prop} {v : Value} {xs : List α} (h : IsS66 w0 W g f0 f1) (ho : Kd.N d e W base ok v xs) (ht : e ≠ 66) : some g ≠ v.ownBlock := by
  obtain ⟨A0, c0, hb, hg, hr0⟩ := h
  exact Kd.N_ne ho hb ht
theorem IsS66.fresh {w0 W : World} {g : Nat} {f0 : List Int} {f1 : Int} (h : IsS66 w0 W g f0 f1) : ∀ k, W.heap.size ≤ k → k ≠ g := by
  obtain ⟨A0, c0, hb, hg, hr0⟩ := h
  exact Kd.freshB hb
theorem IsS66.kept {w0 W : World} {g : Nat} {f0 : List Int} {f1 : Int} {W1 : World} {S : Nat → Prop} (h : IsS66 w0 W g f0 f1) (hk : Kept W W1 S) (hne : ¬ S g) : IsS66 w0 W1 g f0 f1 := by
  obtain ⟨A0, c0, hb, hg, hr0⟩ := h
  exact ⟨A0, c0, blk_kept hb hk hne, hg, hr0⟩
theorem IsS66.below {w0 W : World} {g : Nat} {f0 : List Int} {f1 : Int} {W1 : World} (h : IsS66 w0 W g f0 f1) (hw : Below W.heap.size W W1) : IsS66 w0 W1 g f0 f1 := h.grown (grown_of_below hw none) (by simp)
theorem IsS66.alloc {w0 W : World} {g : Nat} {f0 : List Int} {f1 : Int} (h : IsS66 w0 W g f0 f1) (o : Obj) : IsS66 w0 (W.alloc o) g f0 f1 := h.below (below_alloc (Below.refl _ _) o)
theorem IsS66.drewN {w0 W : World} {g : Nat} {f0 : List Int} {f1 : Int} (h : IsS66 w0 W g f0 f1) (m : Nat) : IsS66 w0 (W.drewN m) g f0 f1 := h
theorem IsS66.drew {w0 W : World} {g : Nat} {f0 : List Int} {f1 : Int} (h : IsS66 w0 W g f0 f1) : IsS66 w0 W.drew g f0 f1 := h
theorem IsS66.at_ {w0 W : World} {g : Nat} {f0 : List Int} {f1 : Int} {w' : World} {m : Nat} (hq : W.drewN m = w') (h : IsS66 w0 W g f0 f1) : IsS66 w0 w' g f0 f1 := by subst hq; exact IsS66.drewN h m
theorem IsS66.apart {w0 W : World} {g : Nat} {f0 : List Int} {f1 : Int} {α : Type} {d : Kd α} {e : Nat} {base : Nat} {ok : Nat → Prop} {v : Value} {xs : List α} (h : IsS66 w0 W g f0 f1) (ho : d.R e W base ok v xs) (ht : ∀ q, q ∈ e :: d.E → q ≠ 66) : d.R e W base (fun k => ok k ∧ k ≠ g) v xs := by
  obtain ⟨A0, c0, hb, hg, hr0⟩ := h
  exact Kd.R_types ho hb ht
theorem IsS66.own_ne {w0 W : World} {g : Nat} {f0 : List Int} {f1 : Int} {α : Type} {d : Kd α} {e : Nat} {base : Nat} {ok : Nat → Prop} {v : Value} {xs : List α} (h : IsS66 w0 W g f0 f1) (ho : d.R e W base ok v xs) (ht : e ≠ 66) : some g ≠ v.ownBlock := by
  obtain ⟨A0, c0, hb, hg, hr0⟩ := h
  exact Kd.R_ne ho hb ht
theorem IsS66.apartQ {w0 W : World} {g : Nat} {f0 : List Int} {f1 : Int} {α : Type} {d : Kd α} {e : Nat} {base : Nat} {ok : Nat → Prop} {v : Value} {xs : List α} (h : IsS66 w0 W g f0 f1) (ho : d.Q e W base ok v xs) (ht : ∀ q, q ∈ e :: d.E → q ≠ 66) : d.Q e W base (fun k => ok k ∧ k ≠ g) v xs := by
  obtain ⟨A0, c0, hb, hg, hr0⟩ := h
  exact Kd.Q_types ho hb ht
theorem IsS66.own_neQ {w0 W : World} {g : Nat} {f0 : List Int} {f1 : Int} {α : Type} {d : Kd α} {e : Nat} {base : Nat} {ok : Nat → Prop} {v : Value} {xs : List α} (h : IsS66 w0 W g f0 f1) (ho : d.Q e W base ok v xs) (ht : e ≠ 66) : some g ≠ v.ownBlock := by
  obtain ⟨A0, c0, hb, hg, hr0⟩ := h
  exact Kd.Q_ne ho hb ht
theorem IsS66.apartS {w0 W : World} {g : Nat} {f0 : List Int} {f1 : Int} {α : Type} {d : Kd α} {e : Nat} {base : Nat} {ok : Nat → Prop} {v : Value} {xs : List α} (h : IsS66 w0 W g f0 f1) (ho : d.S e W base ok v xs) (ht : ∀ q, q ∈ e :: d.E → q ≠ 66) : d.S e W base (fun k => ok k ∧ k ≠ g) v xs := by
  obtain ⟨A0, c0, hb, hg, hr0⟩ := h
  exact Kd.S_types ho hb ht
theorem IsS66.own_neS {w0 W : World} {g : Nat} {f0 : List Int} {f1 : Int} {α : Type} {d : Kd α} {e : Nat} {base : Nat} {ok : Nat → Prop} {v : Value} {xs : List α} (h : IsS66 w0 W g f0 f1) (ho : d.S e W base ok v xs) (ht : e ≠ 66) : some g ≠ v.ownBlock := by
  obtain ⟨A0, c0, hb, hg, hr0⟩ := h
  exact Kd.S_ne ho hb ht
theorem IsS66.lt {w0 W : World} {g : Nat} {f0 : List Int} {f1 : Int} (h : IsS66 w0 W g f0 f1) : g < W.heap.size := by
  obtain ⟨A0, c0, hb, hg, hr0⟩ := h
  exact blk_lt hb
theorem IsS66.ge {w0 W : World} {g : Nat} {f0 : List Int} {f1 : Int} (h : IsS66 w0 W g f0 f1) : w0.heap.size ≤ g := by
  obtain ⟨A0, c0, hb, hg, hr0⟩ := h
  exact hg
theorem IsS66.ne_blk {w0 W : World} {g : Nat} {f0 : List Int} {f1 : Int} {a : Nat} {cs : Array Value} {t : TypeId} {fr : Nat × Nat} (h : IsS66 w0 W g f0 f1) (hb2 : W.heap[a]? = some (.cells cs t fr)) (ht : t ≠ 66) : g ≠ a := by
  obtain ⟨A0, c0, hb, hg, hr0⟩ := h
  rintro rfl
  rw [hb] at hb2
  injection hb2 with hb2
  injection hb2 with _ ht2
  exact ht ht2.symm
theorem IsS66.far {w0 W : World} {g : Nat} {f0 : List Int} {f1 : Int} {p : Addr} (h : IsS66 w0 W g f0 f1) (hne : g ≠ p.block) (u : Value) : IsS66 w0 (W.setCell p u) g f0 f1 := by
  obtain ⟨A0, c0, hb, hg, hr0⟩ := h
  exact ⟨A0, c0, blk_far hb hne u, hg, hr0⟩
theorem cellS66_0 {W : World} {g : Nat} {A0 : Option Addr} {c0 : Nat} {f0 : List Int} {f1 : Int} (h : W.heap[g]? = some (.cells #[.slice A0 f0.length c0, .int .i64 f1] 66 (0, 0))) : W.cell? ⟨g, 0, none⟩ = some (.slice A0 f0.length c0) := (blk_cell h 0).trans rfl
theorem cellS66_1 {W : World} {g : Nat} {A0 : Option Addr} {c0 : Nat} {f0 : List Int} {f1 : Int} (h : W.heap[g]? = some (.cells #[.slice A0 f0.length c0, .int .i64 f1] 66 (0, 0))) : W.cell? ⟨g, 1, none⟩ = some (.int .i64 f1) := (blk_cell h 1).trans rfl
theorem IsS66.set_1 {w0 W : World} {g : Nat} {f0 : List Int} {f1 : Int} (h : IsS66 w0 W g f0 f1) (x : Int) : IsS66 w0 (W.setCell ⟨g, 1, none⟩ (.int .i64 x)) g f0 x := by
  obtain ⟨A0, c0, hb, hg, hr0⟩ := h
  exact ⟨A0, c0, by simpa using blk_set hb 1 (.int .i64 x), hg, hr0⟩
theorem IsS66.new (w0 W : World) (A0 : Option Addr) (c0 : Nat) (f0 : List Int) (f1 : Int) (hB : Below w0.heap.size w0 W) (hr0 : Kd.C (Kd.int .u8) w0 A0 f0.length f0) : IsS66 w0 (W.alloc (.cells #[.slice A0 f0.length c0, .int .i64 f1] 66)) W.heap.size f0 f1 := ⟨A0, c0, by simpa using heap_alloc_new W _, hB.size, hr0⟩

/-! ### spec_l1Source: function 27 -/
def spec_l1Source.f (l0 : List Int) : Option (List Int × Int) := some (l0, 0)
set_option maxHeartbeats 8000000 in
set_option maxRecDepth 100000 in
theorem spec_l1Source.calls (A0 : Option Addr) (c0 : Nat) (l0 : List Int) (r1 : List Int) (r2 : Int) (w0 w : World) (hB : Below w0.heap.size w0 w) (hr0 : Kd.C (Kd.int .u8) w0 A0 l0.length l0) (hc0 : l0.length ≤ c0) (h : spec_l1Source.f l0 = some (r1, r2)) :
    Calls Tryd.prog 27 #[.slice A0 l0.length c0] w fun e w' => ∃ g_ : Nat, e = .returned (.pointer (some ⟨g_, 0, none⟩)) ∧ IsS66 w0 w' g_ r1 r2 ∧ Below w0.heap.size w0 w' ∧ Below w.heap.size w w' := by
  have hu66 := Tryd.underlying66
  have HR0 := Aside0.mk hr0
  have HC0 := Aside0.mk hc0
  clear hr0 hc0
  have HBW := Aside0.mk (Below.refl w.heap.size w)
  have HW0 := Aside0.mk hB.size
  have HB := Aside0.mk hB
  clear hB
  have H : (some (l0, 0)) = some (r1, r2) := h
  clear h
  simp only [Option.some.injEq, Prod.mk.injEq] at H
  obtain ⟨rfl, rfl⟩ := H
  go_enter Tryd.func27, Tryd.ntmps27
  go_wp2_with (first | ((with_reducible refine gate_dst (N := 5) rfl ?_); refine box_event ?hg (N := 5) ?hd (cs := #[.slice A0 l0.length c0, .int .i64 0]) (t := 66) ?hr ?_; (case hd => rfl); (case hg => rfl); (case hr => first | (go_simp; done) | (go_simp; rfl)); intro gb106 hg w2 hbox hb; have n0_ := Aside0.mk (below_step HBW.out hb); have n1_ := Aside0.mk (below_step (by repeat (first | (with_reducible first | exact HB.out | apply below_alloc | apply pw_below_drewN | apply below_drew1) | exact HB.out)) hb); have n2_ := Aside0.mk (hbox); have n3_ := Aside0.mk ((by rw [hg]; exact (below_size (by repeat (first | (with_reducible first | exact HBW.out | apply below_alloc | apply pw_below_drewN | apply below_drew1) | exact HBW.out))) : w.heap.size ≤ gb106)); have n4_ := Aside0.mk ((Nat.le_trans HW0.out (by rw [hg]; exact (below_size (by repeat (first | (with_reducible first | exact HBW.out | apply below_alloc | apply pw_below_drewN | apply below_drew1) | exact HBW.out))) : w.heap.size ≤ gb106) : w0.heap.size ≤ gb106)); clear HBW; clear HB; have HBW := n0_; have HB := n1_; have BK106 := n2_; have GW106 := n3_; have GE106 := n4_; clear n0_ n1_ n2_ n3_ n4_; clear hb hbox hg))
  go_ret
  exact ⟨_, rfl, (show IsS66 w0 _ gb106 l0 0 from ⟨_, _, by (with_reducible repeat (first | refine blk_drewN ?_ _ | refine blk_drew ?_ | refine blk_alloc ?_ _)); exact BK106.out, GE106.out, HR0.out⟩), by repeat (first | (with_reducible first | exact HB.out | apply below_alloc | apply pw_below_drewN | apply below_drew1 | refine below_set ?_ GE106.out) | exact HB.out), by repeat (first | (with_reducible first | exact HBW.out | apply below_alloc | apply pw_below_drewN | apply below_drew1 | refine below_set ?_ GW106.out) | exact HBW.out)⟩

/-! ### spec_l2Bare: function 21 -/
def spec_l2Bare.j0 : Nat → Int → Bool → Option (Bool × Bool × Bool)
  | 0, _, _ => none
  | k + 1, x5, x6 => if x6 = true then (some (false, true, false)) else (if x5 = 22 then (some (true, false, false)) else (if x5 = 23 then (some (true, true, true)) else (if x5 = 24 then (some (true, true, true)) else (if x5 = 25 then (some (true, true, true)) else (if x5 = 26 then (some (true, true, true)) else (some (false, false, false)))))))
def spec_l2Bare.f (k : Nat) (a0 : Int) : Option (Bool × Bool × Bool) := if a0 = 13 then (spec_l2Bare.j0 k a0 (a0 == 13)) else (if a0 = 19 then (spec_l2Bare.j0 k a0 (a0 == 19)) else (spec_l2Bare.j0 k a0 (a0 == 21)))
theorem spec_l2Bare.mono_l : ∀ k, (∀ y0 y1, LeO (spec_l2Bare.j0 k y0 y1) (spec_l2Bare.j0 (k + 1) y0 y1))
  | 0 => fun _ _ r h => by simp [spec_l2Bare.j0] at h
  | k + 1 => by
    have ih0 := spec_l2Bare.mono_l k
    · intro y0 y1
      unfold spec_l2Bare.j0
      repeat' first
      | (with_reducible exact ih0 _ _)
      | (with_reducible exact LeO.refl _)
      | (with_reducible exact LeO.none _)
      | (with_reducible refine LeO.ite ?_ ?_)
      | (with_reducible refine LeO.bind ?_ (fun _ => ?_))
      | exact ih0 _ _
      | exact LeO.none _
      | refine LeO.ite ?_ ?_
      | refine LeO.bind ?_ (fun _ => ?_)
theorem spec_l2Bare.mono : ∀ a0 k, LeO (spec_l2Bare.f k a0) (spec_l2Bare.f (k + 1) a0) := by
  intro a0 k
  have ih0 := spec_l2Bare.mono_l k
  unfold spec_l2Bare.f
  repeat' first
      | (with_reducible exact ih0 _ _)
      | (with_reducible exact LeO.refl _)
      | (with_reducible exact LeO.none _)
      | (with_reducible refine LeO.ite ?_ ?_)
      | (with_reducible refine LeO.bind ?_ (fun _ => ?_))
      | exact ih0 _ _
      | exact LeO.none _
      | refine LeO.ite ?_ ?_
      | refine LeO.bind ?_ (fun _ => ?_)
set_option maxHeartbeats 8000000 in
set_option maxRecDepth 100000 in
theorem spec_l2Bare.calls (k : Nat) (a0 : Int) (r1 : Bool) (r2 : Bool) (r3 : Bool) (w : World) (h : spec_l2Bare.f k a0 = some (r1, r2, r3)) :
    Calls Tryd.prog 21 #[.int .i64 a0] w fun e w' => e = .returned (.tuple #[.bool r1, .bool r2, .bool r3]) ∧ Drawn0 w w' := by
  have H : (if a0 = 13 then (spec_l2Bare.j0 k a0 (a0 == 13)) else (if a0 = 19 then (spec_l2Bare.j0 k a0 (a0 == 19)) else (spec_l2Bare.j0 k a0 (a0 == 21)))) = some (r1, r2, r3) := h
  clear h
  have HC2 := Aside0.mk H
  clear H
  go_enter Tryd.func21, Tryd.ntmps21
  go_upto_if 6 with (fail)
  go_cut [6] (fun v6 wc => ∃ (kq : Nat) (x6_1 : Bool), v6 = .bool x6_1 ∧ Aside0 (spec_l2Bare.j0 kq a0 x6_1 = some (r1, r2, r3)) ∧ Aside0 (kq ≤ k) ∧ Drawn0 w wc)
  case first =>
    have H := HC2.out
    clear HC2
    by_cases c3 : a0 = 13
    · rw [if_pos c3] at H
      have c3b0 : (a0 == 13) = true := beq_iff_eq.mpr c3
      have c3b1 : (a0 != 13) = false := bne_eq_false_iff_eq.mpr c3
      clear c3
      (first | rw [c3b0] | (simp only [i64_w, i32_w]; rw [c3b0]) | skip)
      have H' := Aside0.mk H
      clear H
      go_wp2
      go_meet
      case rel => exact ⟨_, ((a0 == 13)), (by first | rfl | (simp; done) | (simp [*]; done)), H', ⟨by first | omega | exact Nat.le_refl _⟩, by repeat (first | exact Drawn0.refl _ | apply Drawn0.step)⟩
    · rw [if_neg c3] at H
      have c3b0 : (a0 == 13) = false := beq_eq_false_iff_ne.mpr c3
      have c3b1 : (a0 != 13) = true := bne_iff_ne.mpr c3
      (first | rw [c3b0] | (simp only [i64_w, i32_w]; rw [c3b0]) | skip)
      by_cases c4 : a0 = 19
      · rw [if_pos c4] at H
        have c4b0 : (a0 == 19) = true := beq_iff_eq.mpr c4
        have c4b1 : (a0 != 19) = false := bne_eq_false_iff_eq.mpr c4
        clear c4
        have H' := Aside0.mk H
        clear H
        go_wp2
        go_meet
        case rel => exact ⟨_, ((a0 == 19)), (by first | rfl | (simp; done) | (simp [*]; done)), H', ⟨by first | omega | exact Nat.le_refl _⟩, by repeat (first | exact Drawn0.refl _ | apply Drawn0.step)⟩
      · rw [if_neg c4] at H
        have c4b0 : (a0 == 19) = false := beq_eq_false_iff_ne.mpr c4
        have c4b1 : (a0 != 19) = true := bne_iff_ne.mpr c4
        have H' := Aside0.mk H
        clear H
        go_wp2
        go_meet
        case rel => exact ⟨_, ((a0 == 21)), (by first | rfl | (simp; done) | (simp [*]; done)), H', ⟨by first | omega | exact Nat.le_refl _⟩, by repeat (first | exact Drawn0.refl _ | apply Drawn0.step)⟩
  case rest =>
    clear HC2
    try clear c2
    try clear p2
    try clear c3
    try clear c3b0
    try clear c3b1
    try clear c4
    try clear c4b0
    try clear c4b1
    obtain ⟨kq, x6_1, rfl, HA, HJ1, ⟨mc1, rfl⟩⟩ := hcut
    cases kq with
    | zero => exact absurd HA.out (by simp [spec_l2Bare.j0])
    | succ kj1 =>
      have H := HA.out
      clear HA
      simp only [spec_l2Bare.j0] at H
      by_cases c5 : x6_1 = true
      · subst c5
        have H1 : (some (false, true, false)) = some (r1, r2, r3) := by rw [if_pos rfl] at H; exact H
        clear H
        have H := H1
        clear H1
        simp only [Option.some.injEq, Prod.mk.injEq] at H
        obtain ⟨rfl, rfl, rfl⟩ := H
        go_wp2
        go_ret3
        exact ⟨by first | rfl | (simp; done) | (simp [*]; done), by repeat (first | exact Drawn0.refl _ | apply Drawn0.step)⟩
      · replace c5 := Bool.eq_false_iff.mpr c5
        subst c5
        have H1 : (if a0 = 22 then (some (true, false, false)) else (if a0 = 23 then (some (true, true, true)) else (if a0 = 24 then (some (true, true, true)) else (if a0 = 25 then (some (true, true, true)) else (if a0 = 26 then (some (true, true, true)) else (some (false, false, false))))))) = some (r1, r2, r3) := by rw [if_neg (show ¬ (false = true) by decide)] at H; exact H
        clear H
        have H := H1
        clear H1
        by_cases c6 : a0 = 22
        · rw [if_pos c6] at H
          have c6b0 : (a0 == 22) = true := beq_iff_eq.mpr c6
          have c6b1 : (a0 != 22) = false := bne_eq_false_iff_eq.mpr c6
          clear c6
          simp only [Option.some.injEq, Prod.mk.injEq] at H
          obtain ⟨rfl, rfl, rfl⟩ := H
          go_wp2
          go_ret3
          exact ⟨by first | rfl | (simp; done) | (simp [*]; done), by repeat (first | exact Drawn0.refl _ | apply Drawn0.step)⟩
        · rw [if_neg c6] at H
          have c6b0 : (a0 == 22) = false := beq_eq_false_iff_ne.mpr c6
          have c6b1 : (a0 != 22) = true := bne_iff_ne.mpr c6
          by_cases c7 : a0 = 23
          · rw [if_pos c7] at H
            have c7b0 : (a0 == 23) = true := beq_iff_eq.mpr c7
            have c7b1 : (a0 != 23) = false := bne_eq_false_iff_eq.mpr c7
            clear c7
            simp only [Option.some.injEq, Prod.mk.injEq] at H
            obtain ⟨rfl, rfl, rfl⟩ := H
            go_wp2
            go_ret3
            exact ⟨by first | rfl | (simp; done) | (simp [*]; done), by repeat (first | exact Drawn0.refl _ | apply Drawn0.step)⟩
          · rw [if_neg c7] at H
            have c7b0 : (a0 == 23) = false := beq_eq_false_iff_ne.mpr c7
            have c7b1 : (a0 != 23) = true := bne_iff_ne.mpr c7
            by_cases c8 : a0 = 24
            · rw [if_pos c8] at H
              have c8b0 : (a0 == 24) = true := beq_iff_eq.mpr c8
              have c8b1 : (a0 != 24) = false := bne_eq_false_iff_eq.mpr c8
              clear c8
              simp only [Option.some.injEq, Prod.mk.injEq] at H
              obtain ⟨rfl, rfl, rfl⟩ := H
              go_wp2
              go_ret3
              exact ⟨by first | rfl | (simp; done) | (simp [*]; done), by repeat (first | exact Drawn0.refl _ | apply Drawn0.step)⟩
            · rw [if_neg c8] at H
              have c8b0 : (a0 == 24) = false := beq_eq_false_iff_ne.mpr c8
              have c8b1 : (a0 != 24) = true := bne_iff_ne.mpr c8
              by_cases c9 : a0 = 25
              · rw [if_pos c9] at H
                have c9b0 : (a0 == 25) = true := beq_iff_eq.mpr c9
                have c9b1 : (a0 != 25) = false := bne_eq_false_iff_eq.mpr c9
                clear c9
                simp only [Option.some.injEq, Prod.mk.injEq] at H
                obtain ⟨rfl, rfl, rfl⟩ := H
                go_wp2
                go_ret3
                exact ⟨by first | rfl | (simp; done) | (simp [*]; done), by repeat (first | exact Drawn0.refl _ | apply Drawn0.step)⟩
              · rw [if_neg c9] at H
                have c9b0 : (a0 == 25) = false := beq_eq_false_iff_ne.mpr c9
                have c9b1 : (a0 != 25) = true := bne_iff_ne.mpr c9
                by_cases c10 : a0 = 26
                · rw [if_pos c10] at H
                  have c10b0 : (a0 == 26) = true := beq_iff_eq.mpr c10
                  have c10b1 : (a0 != 26) = false := bne_eq_false_iff_eq.mpr c10
                  clear c10
                  simp only [Option.some.injEq, Prod.mk.injEq] at H
                  obtain ⟨rfl, rfl, rfl⟩ := H
                  go_wp2
                  go_ret3
                  exact ⟨by first | rfl | (simp; done) | (simp [*]; done), by repeat (first | exact Drawn0.refl _ | apply Drawn0.step)⟩
                · rw [if_neg c10] at H
                  have c10b0 : (a0 == 26) = false := beq_eq_false_iff_ne.mpr c10
                  have c10b1 : (a0 != 26) = true := bne_iff_ne.mpr c10
                  simp only [Option.some.injEq, Prod.mk.injEq] at H
                  obtain ⟨rfl, rfl, rfl⟩ := H
                  go_wp2
                  go_ret3
                  exact ⟨by first | rfl | (simp; done) | (simp [*]; done), by repeat (first | exact Drawn0.refl _ | apply Drawn0.step)⟩

/-! ### spec_l1In: function 34 -/
def spec_l1In.f (a0 : Int) (a1 : Int) (a2 : Int) : Option (Bool) := if a0 ≥ a1 then (some (decide (a0 ≤ a2))) else (some false)
set_option maxHeartbeats 8000000 in
set_option maxRecDepth 100000 in
theorem spec_l1In.calls (a0 : Int) (a1 : Int) (a2 : Int) (r : Bool) (w : World) (h : spec_l1In.f a0 a1 a2 = some r) :
    Calls Tryd.prog 34 #[.int .i64 a0, .int .i64 a1, .int .i64 a2] w fun e w' => e = .returned (.bool r) ∧ Drawn0 w w' := by
  have H : (if a0 ≥ a1 then (some (decide (a0 ≤ a2))) else (some false)) = some r := h
  clear h
  by_cases c4 : a0 ≥ a1
  · rw [if_pos c4] at H
    have c4b0 : decide (a1 ≤ a0) = true := decide_eq_true c4
    clear c4
    obtain rfl := Option.some.inj H
    go_enter Tryd.func34, Tryd.ntmps34
    go_wp2
    go_ret
    exact ⟨by first | rfl | (simp; done) | (simp [*]; done), by repeat (first | exact Drawn0.refl _ | apply Drawn0.step)⟩
  · rw [if_neg c4] at H
    have c4b0 : decide (a1 ≤ a0) = false := decide_eq_false c4
    clear c4
    obtain rfl := Option.some.inj H
    go_enter Tryd.func34, Tryd.ntmps34
    go_wp2
    go_ret
    exact ⟨by first | rfl | (simp; done) | (simp [*]; done), by repeat (first | exact Drawn0.refl _ | apply Drawn0.step)⟩

end Go.Proofs.YtpppnnmippngdaaDoor.PFnCodes
