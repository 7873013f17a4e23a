-- The Go functions of FnRegions as Lean functions, each with its proof. Written by the session's own program (wip/gen/hp.py), which drives the kit's print.py.
import Derived.Test.YtddnkakkejeacaaPFnRegionsx0
import Derived.Test.YtddnkakkejeacaaPFnRegionsx8
import Derived.Test.YtddnkakkejeacaaPFnRegionsx15
namespace Go.Proofs.Ytddnkakkejeacaa.PFnRegions
open Go.RowKit Go.Proofs.YtddnkakkejeacaaW.PrintWords Go.Proofs.YtddnkakkejeacaaW.PrintLast Go.Proofs.YtddnkakkejeacaaW.PrintMore
attribute [local go_sem] max2_int min2_int max_two min_two max_three min_three max_four min_four   -- for this text's walks alone
set_option linter.unusedVariables false
set_option linter.unusedSimpArgs false


/-! ### impl_RegionsApart: function 35, by hand -/
theorem within_some (a b c : Int) : ∃ v, impl_within.f a b c = some v := by
  unfold impl_within.f
  by_cases h : a ≥ b
  · rw [if_pos h]; exact ⟨_, rfl⟩
  · rw [if_neg h]; exact ⟨_, rfl⟩
theorem fault_some (a b : Int) : ∃ v, impl_RegionFault.f a b = some v := by
  unfold impl_RegionFault.f
  obtain ⟨v, e⟩ := within_some a 0 192
  obtain ⟨u, e2⟩ := within_some b 0 (wrap64 (192 - a))
  rw [e, Option.bind_some, e2]
  cases v
  · rw [if_neg (by decide)]; exact ⟨_, rfl⟩
  · rw [if_pos rfl, Option.bind_some]
    cases u
    · rw [if_neg (by decide)]; exact ⟨_, rfl⟩
    · rw [if_pos rfl]; exact ⟨_, rfl⟩
def faultI (a b : Int) : Int := (impl_RegionFault.f a b).getD 0
theorem fault_is (a b : Int) : impl_RegionFault.f a b = some (faultI a b) := by
  obtain ⟨v, e⟩ := fault_some a b
  unfold faultI
  rw [e]
  rfl
def meetB (a b c d : Int) : Bool := (impl_RegionsMeet.f a b c d).getD false
theorem meet_is (a b c d : Int) : impl_RegionsMeet.f a b c d = some (meetB a b c d) := by
  have : ∃ v, impl_RegionsMeet.f a b c d = some v := by
    unfold impl_RegionsMeet.f
    rw [fault_is, Option.bind_some, fault_is]
    by_cases h : faultI a b = 0
    · rw [if_pos h, Option.bind_some]
      by_cases g : faultI c d = 0
      · rw [if_pos g]; exact ⟨_, rfl⟩
      · rw [if_neg g]; exact ⟨_, rfl⟩
    · rw [if_neg h]; exact ⟨_, rfl⟩
  obtain ⟨v, e⟩ := this
  unfold meetB
  rw [e]
  rfl
def rIdx (r0 r1 : Int) : List S47 → Int → Int
  | [], _ => -1
  | x :: t, i => if meetB x.f0 x.f1 r0 r1 = true then i else rIdx r0 r1 t (i + 1)
def apD (l : List S47) : Nat → Nat → Bool
  | 0, _ => true
  | d + 1, i => if faultI (rd_T47 l (i : Int)).f0 (rd_T47 l (i : Int)).f1 = 0 then (if 0 ≤ rIdx (rd_T47 l (i : Int)).f0 (rd_T47 l (i : Int)).f1 (l.take i) 0 then false else apD l d (i + 1)) else false
def impl_RegionsApart.f (l0 : List S47) : Option Bool := some (apD l0 l0.length 0)
theorem apart_1.calls (x0 x1 r0 r1 : Int) (b1 : Nat) (b : Bool) (w : World) (h1 : w.cell? ⟨b1, 0, none⟩ = some (.int .i64 r0)) (h2 : w.cell? ⟨b1, 1, none⟩ = some (.int .i64 r1)) (h : meetB x0 x1 r0 r1 = b) :
    Calls Try.prog 60 #[.agg #[.int .i64 x0, .int .i64 x1], .pointer (some ⟨b1, 0, none⟩)] w fun e w' => e = .returned (.bool b) ∧ Below w.heap.size w w' := by
  have hu := Try.underlying47
  have g1 : ∀ o : Obj, (w.alloc o).cell? ⟨b1, 0, none⟩ = some (.int .i64 r0) := fun o => (World.cell?_alloc_lt _ _ _ (World.block_lt_of_cell? w _ h1)).trans h1
  have g2 : ∀ o : Obj, (w.alloc o).cell? ⟨b1, 1, none⟩ = some (.int .i64 r1) := fun o => (World.cell?_alloc_lt _ _ _ (World.block_lt_of_cell? w _ h2)).trans h2
  have hm := Aside0.mk (meet_is x0 x1 r0 r1)
  rw [h] at hm
  clear h1 h2 h
  go_enter Try.func60, Try.ntmps60
  go_wp2_with (go_at_call 33; refine (impl_RegionsMeet.calls x0 x1 r0 r1 b _ hm.out).mono ?_; rintro e w' ⟨rfl, hbb⟩; have HB2 := Aside0.mk (below_step (w := w) (by repeat (first | (with_reducible exact Below.refl _ _) | apply below_alloc | apply pw_below_drewN | apply below_drew1)) hbb); clear hbb)
  go_ret
  exact ⟨rfl, by repeat (first | exact HB2.out | apply pw_below_drewN | apply below_drew1)⟩
theorem rIdx_cons (r0 r1 : Int) (l : List S47) (i : Nat) (h : i < l.length) : rIdx r0 r1 (l.drop i) (i : Int) = if meetB (rd_T47 l (i : Int)).f0 (rd_T47 l (i : Int)).f1 r0 r1 = true then (i : Int) else rIdx r0 r1 (l.drop (i + 1)) ((i + 1 : Nat) : Int) := by
  have e : rd_T47 l (i : Int) = l[i] := by unfold rd_T47; rw [Int.toNat_natCast, List.getD_eq_getElem?_getD, List.getElem?_eq_getElem h]; rfl
  rw [e, List.drop_eq_getElem_cons h]
  rfl
theorem rIdx_end (r0 r1 : Int) (l : List S47) (i : Nat) (h : l.length ≤ i) : rIdx r0 r1 (l.drop i) (i : Int) = -1 := by rw [List.drop_eq_nil_of_le h]; rfl
set_option maxHeartbeats 2000000 in
set_option maxRecDepth 100000 in
theorem indexR.calls (A0 : Option Addr) (c0 : Nat) (l0 : List S47) (r0 r1 r : Int) (b1 : Nat) (w : World) (hr0 : Kd.C k47 w A0 l0.length l0) (hc0 : l0.length ≤ c0) (h1 : w.cell? ⟨b1, 0, none⟩ = some (.int .i64 r0)) (h2 : w.cell? ⟨b1, 1, none⟩ = some (.int .i64 r1)) (h : rIdx r0 r1 (l0.drop 0) ((0 : Nat) : Int) = r) :
    Calls Try.prog 74 #[.slice A0 l0.length c0, .func (.func 60) #[] #[.pointer (some ⟨b1, 0, none⟩)]] w fun e w' => e = .returned (.int .i64 r) ∧ Below w.heap.size w w' := by
  have hu := Try.underlying47
  have HM := hr0.2.1
  have HR0 := Aside0.mk hr0
  have HC0 := Aside0.mk hc0
  have H0 := Aside0.mk h
  have H1 := Aside0.mk h1
  have H2 := Aside0.mk h2
  clear hr0 hc0 h h1 h2
  go_enter Try.func74, Try.ntmps74
  go_wp2
  go_loopg [5, 8] l0.length (fun kq v5 v8 w' => ∃ (i : Nat), v8 = .int .i64 (i : Int) ∧ Aside0 (i + kq = l0.length) ∧ Aside0 (rIdx r0 r1 (l0.drop i) (i : Int) = r) ∧ Aside0 (Below w.heap.size w w'))
  case atStart => exact ⟨0, rfl, ⟨by omega⟩, H0, ⟨Below.refl _ _⟩⟩
  case round =>
    obtain ⟨i, rfl, HK, HI, HB⟩ := hrel
    have g1 := Aside0.mk ((HB.out.cell (World.block_lt_of_cell? w _ H1.out)).trans H1.out)
    have g2 := Aside0.mk ((HB.out.cell (World.block_lt_of_cell? w _ H2.out)).trans H2.out)
    by_cases hlt : i < l0.length
    · have hc := rIdx_cons r0 r1 l0 i hlt
      rw [HI.out] at hc
      clear HI
      have p101 : 0 ≤ (i : Int) := Int.natCast_nonneg i
      have q101 : (i : Int) < (l0.length : Int) := by omega
      obtain ⟨ad101, e101, hx0, hx1⟩ := at_T47 (Kd.C_below HR0.out HB.out) (i : Int) p101 q101
      cases e101
      rw [Int.toNat_natCast] at hx0 hx1
      cases hb : meetB (rd_T47 l0 (i : Int)).f0 (rd_T47 l0 (i : Int)).f1 r0 r1 with
      | false =>
        rw [hb, if_neg (by decide)] at hc
        have HN := Aside0.mk hc.symm
        have Hb := Aside0.mk hb
        clear hc hb
        go_wp2_with (go_at_call 60; refine (apart_1.calls _ _ r0 r1 b1 false _ g1.out g2.out Hb.out).mono ?_; rintro e w' ⟨rfl, hbb⟩; have HB2 := Aside0.mk (below_step HB.out hbb); clear hbb HB)
        obtain ⟨kq, rfl⟩ : ∃ m, gk = m + 1 := ⟨gk - 1, by have := HK.out; omega⟩
        go_roundg kq
        case measure => omega
        case rel => exact ⟨i + 1, by go_num, ⟨by have := HK.out; omega⟩, HN, ⟨by repeat (first | exact HB2.out | apply pw_below_drewN | apply below_drew1)⟩⟩
      | true =>
        rw [hb, if_pos rfl] at hc
        subst hc
        have Hb := Aside0.mk hb
        clear hb
        go_wp2_with (go_at_call 60; refine (apart_1.calls _ _ r0 r1 b1 true _ g1.out g2.out Hb.out).mono ?_; rintro e w' ⟨rfl, hbb⟩; have HB2 := Aside0.mk (below_step HB.out hbb); clear hbb HB)
        go_ret
        exact ⟨rfl, by repeat (first | exact HB2.out | apply pw_below_drewN | apply below_drew1)⟩
    · have hc := rIdx_end r0 r1 l0 i (by omega)
      rw [HI.out] at hc
      subst hc
      clear HI
      go_wp2
      go_ret
      exact ⟨rfl, by repeat (first | exact HB.out | apply pw_below_drewN | apply below_drew1)⟩
theorem containsR.calls (A0 : Option Addr) (c0 n : Nat) (l0 : List S47) (r0 r1 : Int) (b : Bool) (b1 : Nat) (w : World) (hn : l0.length = n) (hr0 : Kd.C k47 w A0 l0.length l0) (hc0 : l0.length ≤ c0) (h1 : w.cell? ⟨b1, 0, none⟩ = some (.int .i64 r0)) (h2 : w.cell? ⟨b1, 1, none⟩ = some (.int .i64 r1)) (h : decide (0 ≤ rIdx r0 r1 l0 0) = b) :
    Calls Try.prog 59 #[.slice A0 n c0, .func (.func 60) #[] #[.pointer (some ⟨b1, 0, none⟩)]] w fun e w' => e = .returned (.bool b) ∧ Below w.heap.size w w' := by
  subst hn
  have HI := Aside0.mk (indexR.calls A0 c0 l0 r0 r1 (rIdx r0 r1 (l0.drop 0) ((0 : Nat) : Int)) b1 w hr0 hc0 h1 h2 rfl)
  rw [show rIdx r0 r1 (l0.drop 0) ((0 : Nat) : Int) = rIdx r0 r1 l0 0 from rfl] at HI
  clear hr0 hc0 h1 h2
  generalize rIdx r0 r1 l0 0 = q at *
  subst h
  go_enter Try.func59, Try.ntmps59
  go_wp2_with (go_at_call 74; refine HI.out.mono ?_; rintro e w' ⟨rfl, hbb⟩; have HB2 := Aside0.mk hbb; clear hbb)
  go_ret
  exact ⟨by first | rfl | simp, by repeat (first | exact HB2.out | apply pw_below_drewN | apply below_drew1)⟩
set_option maxHeartbeats 4000000 in
set_option maxRecDepth 100000 in
theorem impl_RegionsApart.calls (A0 : Option Addr) (c0 : Nat) (l0 : List S47) (r : Bool) (w : World) (hr0 : Kd.C k47 w A0 l0.length l0) (hc0 : l0.length ≤ c0) (h : impl_RegionsApart.f l0 = some r) :
    Calls Try.prog 35 #[.slice A0 l0.length c0] w fun e w' => e = .returned (.bool r) ∧ Below w.heap.size w w' := by
  have hu := Try.underlying47
  have h' : apD l0 l0.length 0 = r := Option.some.inj h
  have HM := hr0.2.1
  have HR0 := Aside0.mk hr0
  have HC0 := Aside0.mk hc0
  have H0 := Aside0.mk h'
  clear hr0 hc0 h h'
  go_enter Try.func35, Try.ntmps35
  go_wp2
  go_loopg [3, 4, 7] l0.length (fun kq v3 v4 v7 w' => ∃ (i : Nat), v7 = .int .i64 (i : Int) ∧ Aside0 (i + kq = l0.length) ∧ Aside0 (apD l0 kq i = r) ∧ Aside0 (Below w.heap.size w w'))
  case atStart => exact ⟨0, rfl, ⟨by omega⟩, H0, ⟨Below.refl _ _⟩⟩
  case round =>
    obtain ⟨i, rfl, HK, HI, HB⟩ := hrel
    by_cases hlt : i < l0.length
    · obtain ⟨kq, rfl⟩ : ∃ m, gk = m + 1 := ⟨gk - 1, by have := HK.out; omega⟩
      have hc := HI.out
      rw [apD] at hc
      clear HI
      have p101 : 0 ≤ (i : Int) := Int.natCast_nonneg i
      have q101 : (i : Int) < (l0.length : Int) := by omega
      have hic : (i : Int) ≤ (c0 : Int) := by have := HC0.out; omega
      have HT := Aside0.mk (show (l0.take i).length = i by rw [List.length_take]; omega)
      obtain ⟨ad101, e101, hx0, hx1⟩ := at_T47 (Kd.C_below HR0.out HB.out) (i : Int) p101 q101
      cases e101
      rw [Int.toNat_natCast] at hx0 hx1
      generalize (rd_T47 l0 (i : Int)).f0 = R0 at *
      generalize (rd_T47 l0 (i : Int)).f1 = R1 at *
      by_cases hf : faultI R0 R1 = 0
      · rw [if_pos hf] at hc
        have HF := Aside0.mk hf
        clear hf
        by_cases hi : 0 ≤ rIdx R0 R1 (l0.take i) 0
        · rw [if_pos hi] at hc
          subst hc
          have HX := Aside0.mk (decide_eq_true hi)
          clear hi
          go_wp2_with (first | ((with_reducible refine gate_dst (N := 4) rfl ?_); refine box_event ?hg (N := 4) ?hd (cs := #[.int .i64 0, .int .i64 0]) (t := 47) ?hr ?_; (case hd => rfl); (case hg => rfl); (case hr => first | (go_simp; done) | (go_simp; rfl)); intro gb hg w1 hbox hb; have n1_ := Aside0.mk (below_step (by repeat (first | (with_reducible first | exact HB.out | apply below_alloc | apply pw_below_drewN | apply below_drew1) | exact HB.out)) hb); have BK := Aside0.mk hbox; have GE := Aside0.mk ((by rw [hg]; exact (below_size (by repeat (first | (with_reducible first | exact HB.out | apply below_alloc | apply pw_below_drewN | apply below_drew1) | exact HB.out))) : w.heap.size ≤ gb)); clear HB; have HB := n1_; clear n1_ hb hbox hg; have hcz0 : w1.cell? ⟨gb, 0, none⟩ = some (.int .i64 0) := (blk_cell BK.out 0).trans rfl; have hcz1 : w1.cell? ⟨gb, 1, none⟩ = some (.int .i64 0) := (blk_cell BK.out 1).trans rfl; have hfz0 := blk_frozen BK.out 0; have hfz1 := blk_frozen BK.out 1) | (go_at_call 56; refine (impl_RegionFault.calls _ _ 0 _ (by rw [fault_is, HF.out])).mono ?_; rintro e w2 ⟨rfl, hb⟩; have n0_ := Aside0.mk (blk_below (g := gb) (o := .cells #[.int .i64 R0, .int .i64 R1] 47 (0, 0)) (by (with_reducible repeat (first | refine blk_drewN ?_ _ | refine blk_drew ?_ | refine blk_alloc ?_ _)); refine blk_put (cs := #[.int .i64 R0, .int .i64 0]) ?_ 1 _ rfl; (with_reducible repeat (first | refine blk_drewN ?_ _ | refine blk_drew ?_ | refine blk_alloc ?_ _)); refine blk_put (cs := #[.int .i64 0, .int .i64 0]) ?_ 0 _ rfl; (with_reducible repeat (first | refine blk_drewN ?_ _ | refine blk_drew ?_ | refine blk_alloc ?_ _)); exact BK.out) hb); have n1_ := Aside0.mk (below_step (by repeat (first | (with_reducible first | exact HB.out | apply below_alloc | apply pw_below_drewN | apply below_drew1 | refine below_set ?_ GE.out) | exact HB.out)) hb); clear BK HB; have BK := n0_; have HB := n1_; clear n0_ n1_ hb) | (go_at_call 59; refine (containsR.calls _ _ _ (l0.take i) R0 R1 true gb _ HT.out ?hcc ?hcl ?hh1 ?hh2 HX.out).mono ?_; (case hcc => exact Kd.C_take (Kd.C_below HR0.out (by repeat (first | (with_reducible first | exact HB.out | apply below_alloc | apply pw_below_drewN | apply below_drew1) | exact HB.out))) (by omega)); (case hcl => have := HC0.out; have := HT.out; omega); (case hh1 => exact (blk_cell BK.out 0).trans rfl); (case hh2 => exact (blk_cell BK.out 1).trans rfl); rintro e w' ⟨rfl, hbb⟩; have HB2 := Aside0.mk (below_step HB.out hbb); clear hbb HB))
          go_ret
          exact ⟨rfl, by repeat (first | exact HB2.out | apply pw_below_drewN | apply below_drew1)⟩
        · rw [if_neg hi] at hc
          have HX := Aside0.mk (decide_eq_false hi)
          have HN := Aside0.mk hc
          clear hi hc
          go_wp2_with (first | ((with_reducible refine gate_dst (N := 4) rfl ?_); refine box_event ?hg (N := 4) ?hd (cs := #[.int .i64 0, .int .i64 0]) (t := 47) ?hr ?_; (case hd => rfl); (case hg => rfl); (case hr => first | (go_simp; done) | (go_simp; rfl)); intro gb hg w1 hbox hb; have n1_ := Aside0.mk (below_step (by repeat (first | (with_reducible first | exact HB.out | apply below_alloc | apply pw_below_drewN | apply below_drew1) | exact HB.out)) hb); have BK := Aside0.mk hbox; have GE := Aside0.mk ((by rw [hg]; exact (below_size (by repeat (first | (with_reducible first | exact HB.out | apply below_alloc | apply pw_below_drewN | apply below_drew1) | exact HB.out))) : w.heap.size ≤ gb)); clear HB; have HB := n1_; clear n1_ hb hbox hg; have hcz0 : w1.cell? ⟨gb, 0, none⟩ = some (.int .i64 0) := (blk_cell BK.out 0).trans rfl; have hcz1 : w1.cell? ⟨gb, 1, none⟩ = some (.int .i64 0) := (blk_cell BK.out 1).trans rfl; have hfz0 := blk_frozen BK.out 0; have hfz1 := blk_frozen BK.out 1) | (go_at_call 56; refine (impl_RegionFault.calls _ _ 0 _ (by rw [fault_is, HF.out])).mono ?_; rintro e w2 ⟨rfl, hb⟩; have n0_ := Aside0.mk (blk_below (g := gb) (o := .cells #[.int .i64 R0, .int .i64 R1] 47 (0, 0)) (by (with_reducible repeat (first | refine blk_drewN ?_ _ | refine blk_drew ?_ | refine blk_alloc ?_ _)); refine blk_put (cs := #[.int .i64 R0, .int .i64 0]) ?_ 1 _ rfl; (with_reducible repeat (first | refine blk_drewN ?_ _ | refine blk_drew ?_ | refine blk_alloc ?_ _)); refine blk_put (cs := #[.int .i64 0, .int .i64 0]) ?_ 0 _ rfl; (with_reducible repeat (first | refine blk_drewN ?_ _ | refine blk_drew ?_ | refine blk_alloc ?_ _)); exact BK.out) hb); have n1_ := Aside0.mk (below_step (by repeat (first | (with_reducible first | exact HB.out | apply below_alloc | apply pw_below_drewN | apply below_drew1 | refine below_set ?_ GE.out) | exact HB.out)) hb); clear BK HB; have BK := n0_; have HB := n1_; clear n0_ n1_ hb) | (go_at_call 59; refine (containsR.calls _ _ _ (l0.take i) R0 R1 false gb _ HT.out ?hcc ?hcl ?hh1 ?hh2 HX.out).mono ?_; (case hcc => exact Kd.C_take (Kd.C_below HR0.out (by repeat (first | (with_reducible first | exact HB.out | apply below_alloc | apply pw_below_drewN | apply below_drew1) | exact HB.out))) (by omega)); (case hcl => have := HC0.out; have := HT.out; omega); (case hh1 => exact (blk_cell BK.out 0).trans rfl); (case hh2 => exact (blk_cell BK.out 1).trans rfl); rintro e w' ⟨rfl, hbb⟩; have HB2 := Aside0.mk (below_step HB.out hbb); clear hbb HB))
          go_roundg kq
          case measure => omega
          case rel => exact ⟨i + 1, by go_num, ⟨by have := HK.out; omega⟩, HN, ⟨by repeat (first | exact HB2.out | apply pw_below_drewN | apply below_drew1)⟩⟩
      · rw [if_neg hf] at hc
        subst hc
        obtain ⟨F, hF⟩ : ∃ F, faultI R0 R1 = F := ⟨_, rfl⟩
        rw [hF] at hf
        have HF := Aside0.mk hF
        have hfb : (F != 0) = true := bne_iff_ne.mpr hf
        clear hF
        go_wp2_with (first | ((with_reducible refine gate_dst (N := 4) rfl ?_); refine box_event ?hg (N := 4) ?hd (cs := #[.int .i64 0, .int .i64 0]) (t := 47) ?hr ?_; (case hd => rfl); (case hg => rfl); (case hr => first | (go_simp; done) | (go_simp; rfl)); intro gb hg w1 hbox hb; have n1_ := Aside0.mk (below_step (by repeat (first | (with_reducible first | exact HB.out | apply below_alloc | apply pw_below_drewN | apply below_drew1) | exact HB.out)) hb); have BK := Aside0.mk hbox; have GE := Aside0.mk ((by rw [hg]; exact (below_size (by repeat (first | (with_reducible first | exact HB.out | apply below_alloc | apply pw_below_drewN | apply below_drew1) | exact HB.out))) : w.heap.size ≤ gb)); clear HB; have HB := n1_; clear n1_ hb hbox hg; have hcz0 : w1.cell? ⟨gb, 0, none⟩ = some (.int .i64 0) := (blk_cell BK.out 0).trans rfl; have hcz1 : w1.cell? ⟨gb, 1, none⟩ = some (.int .i64 0) := (blk_cell BK.out 1).trans rfl; have hfz0 := blk_frozen BK.out 0; have hfz1 := blk_frozen BK.out 1) | (go_at_call 56; refine (impl_RegionFault.calls _ _ F _ (by rw [fault_is, HF.out])).mono ?_; rintro e w2 ⟨rfl, hb⟩; have n1_ := Aside0.mk (below_step (by repeat (first | (with_reducible first | exact HB.out | apply below_alloc | apply pw_below_drewN | apply below_drew1 | refine below_set ?_ GE.out) | exact HB.out)) hb); clear HB; have HB2 := n1_; clear n1_ hb))
        go_ret
        exact ⟨rfl, by repeat (first | exact HB2.out | apply pw_below_drewN | apply below_drew1)⟩
    · obtain rfl : gk = 0 := by have := HK.out; omega
      have hc := HI.out
      rw [apD] at hc
      subst hc
      clear HI
      go_wp2
      go_ret
      exact ⟨rfl, by repeat (first | exact HB.out | apply pw_below_drewN | apply below_drew1)⟩

end Go.Proofs.Ytddnkakkejeacaa.PFnRegions
