-- The Go functions of FnExactCacheFits as Lean functions, each with its proof. Written by the session's own program (wip/gen/hp.py), which drives the kit's print.py.
import Derived.Test.YtoojkiihbpnfdaaPFnExactCacheFitsx0
namespace Go.Proofs.Ytoojkiihbpnfdaa.PFnExactCacheFits
open Go.RowKit Go.Proofs.YtoojkiihbpnfdaaW.PrintWords Go.Proofs.YtoojkiihbpnfdaaW.PrintLast Go.Proofs.YtoojkiihbpnfdaaW.PrintMore
attribute [local go_sem] max2_int min2_int max_two min_two max_three min_three max_four min_four   -- for this text's walks alone
set_option linter.unusedVariables false
set_option linter.unusedSimpArgs false


/-! ### impl_hitAt: function 41, by hand -/
def hAt (tag page : Int) (x : S31) : Bool := x.f0 == tag && x.f1 == page
def hIdx (tag page : Int) : List S31 → Int → Int
  | [], _ => -1
  | x :: t, i => if hAt tag page x = true then i else hIdx tag page t (i + 1)
def impl_hitAt.f (l0 : List S31) (a1 : Int) (a2 : Int) : Option Int := some (hIdx a1 a2 l0 0)
theorem hitAt_1.calls (x0 x1 x2 x3 tag page : Int) (b1 b2 : Nat) (b : Bool) (w : World) (h1 : w.cell? ⟨b1, 0, none⟩ = some (.int .i64 tag)) (h2 : w.cell? ⟨b2, 0, none⟩ = some (.int .i64 page)) (h : (x0 == tag && x1 == page) = b) :
    Calls Try.prog 60 #[.agg #[.int .i64 x0, .int .i64 x1, .int .i64 x2, .int .i64 x3], .pointer (some ⟨b1, 0, none⟩), .pointer (some ⟨b2, 0, none⟩)] w fun e w' => e = .returned (.bool b) ∧ Below w.heap.size w w' := by
  have g1 : ∀ o : Obj, (w.alloc o).cell? ⟨b1, 0, none⟩ = some (.int .i64 tag) := fun o => (World.cell?_alloc_lt _ _ _ (World.block_lt_of_cell? w _ h1)).trans h1
  have g2 : ∀ o : Obj, (w.alloc o).cell? ⟨b2, 0, none⟩ = some (.int .i64 page) := fun o => (World.cell?_alloc_lt _ _ _ (World.block_lt_of_cell? w _ h2)).trans h2
  clear h1 h2
  cases e1 : (x0 == tag) with
  | true =>
    cases e2 : (x1 == page) with
    | true =>
      rw [e1, e2] at h
      subst h
      go_enter Try.func60, Try.ntmps60
      go_wp2
      go_ret
      exact ⟨rfl, by repeat (first | exact Below.refl _ _ | apply below_alloc | apply pw_below_drewN | apply below_drew)⟩
    | false =>
      rw [e1, e2] at h
      subst h
      go_enter Try.func60, Try.ntmps60
      go_wp2
      go_ret
      exact ⟨rfl, by repeat (first | exact Below.refl _ _ | apply below_alloc | apply pw_below_drewN | apply below_drew)⟩
  | false =>
    rw [e1, Bool.false_and] at h
    subst h
    go_enter Try.func60, Try.ntmps60
    go_wp2
    go_ret
    exact ⟨rfl, by repeat (first | exact Below.refl _ _ | apply below_alloc | apply pw_below_drewN | apply below_drew)⟩
theorem hIdx_cons (tag page : Int) (l : List S31) (i : Nat) (h : i < l.length) : hIdx tag page (l.drop i) (i : Int) = if ((rd_T31 l (i : Int)).f0 == tag && (rd_T31 l (i : Int)).f1 == page) = true then (i : Int) else hIdx tag page (l.drop (i + 1)) ((i + 1 : Nat) : Int) := by
  have e : rd_T31 l (i : Int) = l[i] := by unfold rd_T31; rw [Int.toNat_natCast, List.getD_eq_getElem?_getD, List.getElem?_eq_getElem h]; rfl
  rw [e, List.drop_eq_getElem_cons h]
  rfl
theorem hIdx_end (tag page : Int) (l : List S31) (i : Nat) (h : l.length ≤ i) : hIdx tag page (l.drop i) (i : Int) = -1 := by rw [List.drop_eq_nil_of_le h]; rfl
set_option maxHeartbeats 2000000 in
set_option maxRecDepth 100000 in
theorem indexH.calls (A0 : Option Addr) (c0 : Nat) (l0 : List S31) (tag page r : Int) (b1 b2 : Nat) (w : World) (hr0 : Kd.C k31 w A0 l0.length l0) (hc0 : l0.length ≤ c0) (h1 : w.cell? ⟨b1, 0, none⟩ = some (.int .i64 tag)) (h2 : w.cell? ⟨b2, 0, none⟩ = some (.int .i64 page)) (h : hIdx tag page (l0.drop 0) ((0 : Nat) : Int) = r) :
    Calls Try.prog 59 #[.slice A0 l0.length c0, .func (.func 60) #[] #[.pointer (some ⟨b1, 0, none⟩), .pointer (some ⟨b2, 0, none⟩)]] w fun e w' => e = .returned (.int .i64 r) ∧ Below w.heap.size w w' := by
  have hu := Try.underlying31
  have HM := hr0.2.1
  have HR0 := Aside0.mk hr0
  have HC0 := Aside0.mk hc0
  have H0 := Aside0.mk h
  have H1 := Aside0.mk h1
  have H2 := Aside0.mk h2
  clear hr0 hc0 h h1 h2
  go_enter Try.func59, Try.ntmps59
  go_wp2
  go_loopg [5, 8] l0.length (fun kq v5 v8 w' => ∃ (i : Nat), v8 = .int .i64 (i : Int) ∧ Aside0 (i + kq = l0.length) ∧ Aside0 (hIdx tag page (l0.drop i) (i : Int) = r) ∧ Aside0 (Below w.heap.size w w'))
  case atStart => exact ⟨0, rfl, ⟨by omega⟩, H0, ⟨Below.refl _ _⟩⟩
  case round =>
    obtain ⟨i, rfl, HK, HI, HB⟩ := hrel
    have g1 := Aside0.mk ((HB.out.cell (World.block_lt_of_cell? w _ H1.out)).trans H1.out)
    have g2 := Aside0.mk ((HB.out.cell (World.block_lt_of_cell? w _ H2.out)).trans H2.out)
    by_cases hlt : i < l0.length
    · have hc := hIdx_cons tag page l0 i hlt
      rw [HI.out] at hc
      clear HI
      have p101 : 0 ≤ (i : Int) := Int.natCast_nonneg i
      have q101 : (i : Int) < (l0.length : Int) := by omega
      obtain ⟨ad101, e101, hx0, hx1, hx2, hx3⟩ := at_T31 (Kd.C_below HR0.out HB.out) (i : Int) p101 q101
      cases e101
      rw [Int.toNat_natCast] at hx0 hx1 hx2 hx3
      cases hb : ((rd_T31 l0 (i : Int)).f0 == tag && (rd_T31 l0 (i : Int)).f1 == page) with
      | false =>
        rw [hb, if_neg (by decide)] at hc
        have HN := Aside0.mk hc.symm
        have Hb := Aside0.mk hb
        clear hc hb
        go_wp2_with (go_at_call 60; refine (hitAt_1.calls _ _ _ _ tag page b1 b2 false _ g1.out g2.out Hb.out).mono ?_; rintro e w' ⟨rfl, hbb⟩; have HB2 := Aside0.mk (below_step HB.out hbb); clear hbb HB)
        obtain ⟨kq, rfl⟩ : ∃ m, gk = m + 1 := ⟨gk - 1, by have := HK.out; omega⟩
        go_roundg kq
        case measure => omega
        case rel => exact ⟨i + 1, by go_num, ⟨by have := HK.out; omega⟩, HN, ⟨by repeat (first | exact HB2.out | apply pw_below_drewN | apply below_drew1)⟩⟩
      | true =>
        rw [hb, if_pos rfl] at hc
        subst hc
        have Hb := Aside0.mk hb
        clear hb
        go_wp2_with (go_at_call 60; refine (hitAt_1.calls _ _ _ _ tag page b1 b2 true _ g1.out g2.out Hb.out).mono ?_; rintro e w' ⟨rfl, hbb⟩; have HB2 := Aside0.mk (below_step HB.out hbb); clear hbb HB)
        go_ret
        exact ⟨rfl, by repeat (first | exact HB2.out | apply pw_below_drewN | apply below_drew1)⟩
    · have hc := hIdx_end tag page l0 i (by omega)
      rw [HI.out] at hc
      subst hc
      clear HI
      go_wp2
      go_ret
      exact ⟨rfl, by repeat (first | exact HB.out | apply pw_below_drewN | apply below_drew1)⟩
theorem impl_hitAt.calls (A0 : Option Addr) (c0 : Nat) (l0 : List S31) (a1 : Int) (a2 : Int) (r : Int) (w : World) (hr0 : Kd.C k31 w A0 l0.length l0) (hc0 : l0.length ≤ c0) (h : impl_hitAt.f l0 a1 a2 = some r) :
    Calls Try.prog 41 #[.slice A0 l0.length c0, .int .i64 a1, .int .i64 a2] w fun e w' => e = .returned (.int .i64 r) ∧ Below w.heap.size w w' := by
  have h' : hIdx a1 a2 (l0.drop 0) ((0 : Nat) : Int) = r := Option.some.inj h
  have HR0 := Aside0.mk hr0
  have HC0 := Aside0.mk hc0
  have HE := Aside0.mk h'
  clear hr0 hc0 h' h
  go_enter Try.func41, Try.ntmps41
  go_wp2_with (go_at_call 59; refine (indexH.calls _ _ l0 a1 a2 r _ _ _ ?hcc HC0.out ?hh1 ?hh2 HE.out).mono ?_; (case hcc => exact Kd.C_alloc (Kd.C_alloc HR0.out _) _); (case hh1 => first | rfl | simp); (case hh2 => first | rfl | simp); rintro e w' ⟨rfl, hbb⟩; have HB2 := Aside0.mk (below_step (w := w) (by repeat (first | (with_reducible exact Below.refl _ _) | apply below_alloc | apply pw_below_drewN | apply below_drew1)) hbb); clear hbb)
  go_ret
  exact ⟨by first | rfl | simp, by repeat (first | exact HB2.out | apply pw_below_drewN | apply below_drew1)⟩

end Go.Proofs.Ytoojkiihbpnfdaa.PFnExactCacheFits
