-- The Go functions of FnRegions as Lean functions, each with its proof. Written by the session's own program (wip/gen/hp.py), which drives the kit's print.py.
import Derived.Test.YtddnkakkejeacaaPFnRegionsx0
namespace Go.Proofs.Ytddnkakkejeacaa.PFnRegions
open Go.RowKit Go.Proofs.YtddnkakkejeacaaW.PrintWords Go.Proofs.YtddnkakkejeacaaW.PrintLast Go.Proofs.YtddnkakkejeacaaW.PrintMore
attribute [local go_sem] max2_int min2_int max_two min_two max_three min_three max_four min_four   -- for this text's walks alone
set_option linter.unusedVariables false
set_option linter.unusedSimpArgs false


/-! ### impl_areWords: function 55, by hand -/
def isW (n : Int) : Bool := decide (0 ≤ n ∧ n ≤ 4294967295)
def idxW : List Int → Int → Int
  | [], _ => -1
  | n :: t, i => if isW n = true then idxW t (i + 1) else i
def impl_areWords.f (l0 : List Int) : Option Bool := some (l0.all isW)
theorem isW_true {n : Int} (h0 : 0 ≤ n) (h1 : n ≤ 4294967295) : isW n = true := decide_eq_true ⟨h0, h1⟩
theorem isW_lo {n : Int} (h : n < 0) : isW n = false := decide_eq_false (by omega)
theorem isW_hi {n : Int} (h : 4294967295 < n) : isW n = false := decide_eq_false (by omega)
theorem areWords_1.calls (n : Int) (b : Bool) (w : World) (h : isW n = b) :
    Calls Try.prog 72 #[.int .i64 n] w fun e w' => e = .returned (.bool (!b)) ∧ w = w' := by
  by_cases h0 : 0 ≤ n
  · by_cases h1 : n ≤ 4294967295
    · obtain rfl : true = b := (isW_true h0 h1).symm.trans h
      clear h
      have q0 : decide (0 ≤ n) = true := decide_eq_true h0
      have q1 : decide (n ≤ 4294967295) = true := decide_eq_true h1
      go_enter Try.func72, Try.ntmps72
      go_wp2
      go_ret
      exact ⟨rfl, rfl⟩
    · obtain rfl : false = b := (isW_hi (by omega)).symm.trans h
      clear h
      have q0 : decide (0 ≤ n) = true := decide_eq_true h0
      have q1 : decide (n ≤ 4294967295) = false := decide_eq_false h1
      go_enter Try.func72, Try.ntmps72
      go_wp2
      go_ret
      exact ⟨rfl, rfl⟩
  · obtain rfl : false = b := (isW_lo (by omega)).symm.trans h
    clear h
    have q0 : decide (0 ≤ n) = false := decide_eq_false h0
    go_enter Try.func72, Try.ntmps72
    go_wp2
    go_ret
    exact ⟨rfl, rfl⟩
theorem idxW_cons (l : List Int) (i : Nat) (h : i < l.length) : idxW (l.drop i) (i : Int) = if isW (rd l (i : Int)) = true then idxW (l.drop (i + 1)) ((i + 1 : Nat) : Int) else (i : Int) := by
  have e : rd l (i : Int) = l[i] := by unfold rd; rw [Int.toNat_natCast, List.getD_eq_getElem?_getD, List.getElem?_eq_getElem h]; rfl
  rw [e, List.drop_eq_getElem_cons h]
  rfl
theorem idxW_end (l : List Int) (i : Nat) (h : l.length ≤ i) : idxW (l.drop i) (i : Int) = -1 := by rw [List.drop_eq_nil_of_le h]; rfl
theorem idxW_all (l : List Int) : ∀ i : Int, 0 ≤ i → decide (idxW l i ≥ 0) = !l.all isW := by
  induction l with
  | nil => intro i _; rfl
  | cons n t ih =>
    intro i hi
    unfold idxW
    cases e : isW n with
    | true => rw [if_pos rfl, ih (i + 1) (by omega)]; simp [e]
    | false => rw [if_neg (by decide)]; simp [e]; omega
set_option maxHeartbeats 2000000 in
set_option maxRecDepth 100000 in
theorem indexW.calls (A0 : Option Addr) (c0 : Nat) (l0 : List Int) (r : Int) (w : World) (hr0 : Kd.C (Kd.int .i64) w A0 l0.length l0) (hc0 : l0.length ≤ c0) (h : idxW (l0.drop 0) ((0 : Nat) : Int) = r) :
    Calls Try.prog 75 #[.slice A0 l0.length c0, .func (.func 72) #[] #[]] w fun e w' => e = .returned (.int .i64 r) ∧ Drawn0 w w' := by
  have HM := hr0.2.1
  have HR0 := Aside0.mk hr0
  have HC0 := Aside0.mk hc0
  have H0 := Aside0.mk h
  clear hr0 hc0 h
  go_enter Try.func75, Try.ntmps75
  go_wp2
  go_loopg [5, 8] l0.length (fun kq v5 v8 w' => ∃ (i : Nat), v8 = .int .i64 (i : Int) ∧ Aside0 (i + kq = l0.length) ∧ Aside0 (idxW (l0.drop i) (i : Int) = r) ∧ Drawn0 w w')
  case atStart => exact ⟨0, rfl, ⟨by omega⟩, H0, Drawn0.refl _⟩
  case round =>
    obtain ⟨i, rfl, HK, HI, ⟨m2, rfl⟩⟩ := hrel
    by_cases hlt : i < l0.length
    · have hc := idxW_cons l0 i hlt
      rw [HI.out] at hc
      clear HI
      have p101 : 0 ≤ (i : Int) := Int.natCast_nonneg i
      have q101 : (i : Int) < (l0.length : Int) := by omega
      obtain ⟨ad101, e101, hx101_0⟩ := Kd.at_int HR0.out (i : Int) p101 q101
      cases e101
      rw [Int.toNat_natCast] at hx101_0
      cases hb : isW (rd l0 (i : Int)) with
      | true =>
        rw [hb, if_pos rfl] at hc
        have HN := Aside0.mk hc.symm
        have HB := Aside0.mk hb
        clear hc hb
        go_wp2_with (go_at_call 72; refine (areWords_1.calls (rd l0 (i : Int)) true _ HB.out).mono ?_; rintro e w' ⟨rfl, rfl⟩)
        obtain ⟨kq, rfl⟩ : ∃ m, gk = m + 1 := ⟨gk - 1, by have := HK.out; omega⟩
        go_roundg kq
        case measure => omega
        case rel => exact ⟨i + 1, by go_num, ⟨by have := HK.out; omega⟩, HN, by repeat (first | exact Drawn0.refl _ | apply Drawn0.step)⟩
      | false =>
        rw [hb, if_neg (by decide)] at hc
        subst hc
        have HB := Aside0.mk hb
        clear hb
        go_wp2_with (go_at_call 72; refine (areWords_1.calls (rd l0 (i : Int)) false _ HB.out).mono ?_; rintro e w' ⟨rfl, rfl⟩)
        go_ret
        exact ⟨rfl, by repeat (first | exact Drawn0.refl _ | apply Drawn0.step)⟩
    · have hc := idxW_end l0 i (by omega)
      rw [HI.out] at hc
      subst hc
      clear HI
      go_wp2
      go_ret
      exact ⟨rfl, by repeat (first | exact Drawn0.refl _ | apply Drawn0.step)⟩
theorem containsW.calls (A0 : Option Addr) (c0 : Nat) (l0 : List Int) (r : Bool) (w : World) (hr0 : Kd.C (Kd.int .i64) w A0 l0.length l0) (hc0 : l0.length ≤ c0) (h : decide (idxW (l0.drop 0) ((0 : Nat) : Int) ≥ 0) = r) :
    Calls Try.prog 71 #[.slice A0 l0.length c0, .func (.func 72) #[] #[]] w fun e w' => e = .returned (.bool r) ∧ Drawn0 w w' := by
  have HR0 := Aside0.mk hr0
  have HC0 := Aside0.mk hc0
  subst h
  clear hr0 hc0
  go_enter Try.func71, Try.ntmps71
  go_wp2_with (go_at_call 75; refine (indexW.calls _ _ l0 _ _ HR0.out HC0.out rfl).mono ?_; rintro e w' ⟨rfl, ⟨nd, rfl⟩⟩)
  go_ret
  exact ⟨by first | rfl | simp, by repeat (first | exact Drawn0.refl _ | apply Drawn0.step)⟩
theorem impl_areWords.calls (A0 : Option Addr) (c0 : Nat) (l0 : List Int) (r : Bool) (w : World) (hr0 : Kd.C (Kd.int .i64) w A0 l0.length l0) (hc0 : l0.length ≤ c0) (h : impl_areWords.f l0 = some r) :
    Calls Try.prog 55 #[.slice A0 l0.length c0] w fun e w' => e = .returned (.bool r) ∧ Drawn0 w w' := by
  have e := idxW_all l0 0 (by omega)
  have h' := Option.some.inj h
  rw [h'] at e
  have HR0 := Aside0.mk hr0
  have HC0 := Aside0.mk hc0
  have HE := Aside0.mk (show decide (idxW (l0.drop 0) ((0 : Nat) : Int) ≥ 0) = !r from e)
  clear hr0 hc0 e h' h
  go_enter Try.func55, Try.ntmps55
  go_wp2_with (go_at_call 71; refine (containsW.calls _ _ l0 _ _ HR0.out HC0.out HE.out).mono ?_; rintro e w' ⟨rfl, ⟨nd, rfl⟩⟩)
  go_ret
  exact ⟨by first | rfl | simp, by repeat (first | exact Drawn0.refl _ | apply Drawn0.step)⟩

end Go.Proofs.Ytddnkakkejeacaa.PFnRegions
