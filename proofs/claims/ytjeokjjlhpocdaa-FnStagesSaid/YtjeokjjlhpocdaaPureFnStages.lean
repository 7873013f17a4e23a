/- FnStages: two stages lead where the composed one leads, at every input of bytes. No condition. -/
import Derived.Test.YtjeokjjlhpocdaaPFnStagesx17
import Derived.Test.YtjeokjjlhpocdaaLem
namespace Go.Proofs.Ytjeokjjlhpocdaa.Pure
open Go.RowKit Go.Proofs.Ytjeokjjlhpocdaa.PFnStages Go.Proofs.YtjeokjjlhpocdaaW.PrintWords Go.Proofs.YtjeokjjlhpocdaaW.PrintLast Go.Proofs.YtjeokjjlhpocdaaW.PrintMore
open Go.Proofs.Ytjeokjjlhpocdaa.Lem
set_option linter.unusedVariables false
set_option linter.unusedSimpArgs false
def Src (s : List Int) : Prop := s.length ≤ 2000000 ∧ ∀ x ∈ s, 0 ≤ x ∧ x ≤ 255
theorem src_of {s : List Int} (hs : s.length ≤ 2000000) (hw : ∀ x ∈ s, (Lit.int .u8 x).wf = true) : Src s :=
  ⟨hs, fun x hx => by have := hw x hx; simp [Lit.wf, IntKind.min, IntKind.max, IntKind.bits, IntKind.signed] at this; omega⟩
theorem src_rd {s : List Int} (h : Src s) (i : Int) : 0 ≤ rd s i ∧ rd s i ≤ 255 := by
  unfold rd
  by_cases hi : i.toNat < s.length
  · rw [List.getD_eq_getElem?_getD, List.getElem?_eq_getElem hi]
    exact h.2 _ (List.getElem_mem hi)
  · rw [List.getD_eq_getElem?_getD, List.getElem?_eq_none (by omega)]
    exact ⟨by simp, by simp⟩
theorem wr1 {a : Int} (h0 : 0 ≤ a) (h1 : a ≤ 1000000) : wrap64 (a + 1) = a + 1 := by unfold wrap64; omega
theorem wr2 {a : Int} (h0 : 0 ≤ a) (h1 : a ≤ 1000000) : wrap64 (a + 1 - 1) = a := by unfold wrap64; omega
theorem l1Next_some {s : List Int} (hs : Src s) (a n : Int) (h0 : 0 ≤ a) (h1 : a ≤ 1000000) :
    ∃ v, spec_l1Next.f s a n = some (v, a + 1) ∧ 0 ≤ v ∧ (1 ≤ n → v < n) ∧ (n < 1 → v = 0) := by
  unfold spec_l1Next.f
  by_cases hn : n < 1
  · exact ⟨0, by rw [if_pos hn, wr1 h0 h1], by omega, by omega, by omega⟩
  rw [if_neg hn]
  have hn0 : ¬ n = 0 := by omega
  rw [wr1 h0 h1, wr2 h0 h1, wr1 h0 h1]
  have key : ∀ e : Int, 0 ≤ e → 0 ≤ Int.tmod e n ∧ Int.tmod e n < n := fun e he => by
    rw [Int.tmod_eq_emod_of_nonneg he]
    exact ⟨Int.emod_nonneg _ hn0, Int.emod_lt_of_pos _ (by omega)⟩
  by_cases hl : (s.length : Int) = 0
  · rw [if_pos hl, if_neg hn0]
    have e : wrap64 (a * 7) = a * 7 := by unfold wrap64; omega
    rw [e]
    have := key (a * 7) (by omega)
    exact ⟨_, rfl, this.1, fun _ => this.2, by omega⟩
  rw [if_neg hl]
  have hlen := hs.1
  have m1 : ∀ e : Int, 0 ≤ e → 0 ≤ Int.tmod e (s.length : Int) ∧ Int.tmod e (s.length : Int) < (s.length : Int) := fun e he => by
    rw [Int.tmod_eq_emod_of_nonneg he]
    exact ⟨Int.emod_nonneg _ hl, Int.emod_lt_of_pos _ (by omega)⟩
  have q1 := m1 a h0
  have q2 := m1 (a + 1) (by omega)
  rw [if_pos q1.1, if_pos q1.2]
  have d1 : 0 ≤ Int.tdiv a (s.length : Int) ∧ Int.tdiv a (s.length : Int) ≤ a := by
    rw [Int.tdiv_eq_ediv_of_nonneg h0]
    exact ⟨Int.ediv_nonneg h0 (by omega), Int.ediv_le_self _ h0⟩
  have r1 := src_rd hs (Int.tmod a (s.length : Int))
  have r2 := src_rd hs (Int.tmod (a + 1) (s.length : Int))
  generalize Int.tdiv a (s.length : Int) = D at *
  generalize rd s (Int.tmod a (s.length : Int)) = X at *
  generalize rd s (Int.tmod (a + 1) (s.length : Int)) = Y at *
  have w1 : wrap64 D = D := by unfold wrap64; omega
  have w2 : wrap64 (D * 37) = D * 37 := by unfold wrap64; omega
  have w3 : wrap64 X = X := by unfold wrap64; omega
  have w4 : wrap64 Y = Y := by unfold wrap64; omega
  have w5 : wrap64 (X + D * 37) = X + D * 37 := by unfold wrap64; omega
  by_cases hb : n > 200
  · rw [if_pos hb, if_pos q2.1, if_pos q2.2, if_neg hn0, w1, w2, w3, w4, w5]
    have w6 : wrap64 ((X + D * 37) * 251) = (X + D * 37) * 251 := by unfold wrap64; omega
    have w7 : wrap64 (Y * 13) = Y * 13 := by unfold wrap64; omega
    have w8 : wrap64 ((X + D * 37) * 251 + Y * 13) = (X + D * 37) * 251 + Y * 13 := by unfold wrap64; omega
    have w9 : wrap64 ((X + D * 37) * 251 + Y * 13 + a) = (X + D * 37) * 251 + Y * 13 + a := by unfold wrap64; omega
    rw [w6, w7, w8, w9]
    have := key ((X + D * 37) * 251 + Y * 13 + a) (by omega)
    exact ⟨_, rfl, this.1, fun _ => this.2, by omega⟩
  · rw [if_neg hb, if_neg hn0, w1, w2, w3, w5]
    have := key (X + D * 37) (by omega)
    exact ⟨_, rfl, this.1, fun _ => this.2, by omega⟩
theorem l1Pick_some {s : List Int} (hs : Src s) (a : Int) (h0 : 0 ≤ a) (h1 : a ≤ 1000000) (l : List Int) (hl : l ≠ []) :
    ∃ v, spec_l1Pick.f s a l = some (v, a + 1) ∧ v ∈ l := by
  have hp : 0 < l.length := List.length_pos_iff.mpr hl
  obtain ⟨i, hi, b0, b1, _⟩ := l1Next_some hs a (l.length : Int) h0 h1
  unfold spec_l1Pick.f
  rw [hi]
  simp only [Option.bind_some]
  rw [if_pos b0, if_pos (b1 (by omega))]
  refine ⟨_, rfl, ?_⟩
  unfold rd
  have hlt : i.toNat < l.length := by have := b1 (by omega); omega
  rw [List.getD_eq_getElem?_getD, List.getElem?_eq_getElem hlt]
  exact List.getElem_mem hlt
theorem l1Chance_some {s : List Int} (hs : Src s) (a n : Int) (h0 : 0 ≤ a) (h1 : a ≤ 1000000) : ∃ b, spec_l1Chance.f s a n = some (b, a + 1) := by
  obtain ⟨v, e, _⟩ := l1Next_some hs a n h0 h1
  refine ⟨v == 0, ?_⟩
  unfold spec_l1Chance.f
  rw [e, Option.bind_some]
theorem within_eq (a x y : Int) : impl_within.f a x y = some (decide (x ≤ a ∧ a ≤ y)) := by
  unfold impl_within.f
  split <;> rename_i h <;> simp <;> omega
theorem l1In_eq (a x y : Int) : spec_l1In.f a x y = some (decide (x ≤ a ∧ a ≤ y)) := by
  unfold spec_l1In.f
  split <;> rename_i h <;> simp <;> omega
theorem rdP_at (l : List S59) (i : Nat) (h : i < l.length) : rd_T59 l (i : Int) = l[i] := by
  unfold rd_T59
  rw [Int.toNat_natCast, List.getD_eq_getElem?_getD, List.getElem?_eq_getElem h]
  rfl
theorem wsucc {i n : Nat} (h : i < n) (hn : n ≤ 1000000000) : wrap64 ((i : Int) + 1) = ((i + 1 : Nat) : Int) := by unfold wrap64; omega
def pfl (top : Int) : List S59 → Int
  | [] => 0
  | p :: t => if -1 ≤ p.f0 ∧ p.f0 ≤ top - 1 ∧ 0 ≤ p.f1 ∧ p.f1 ≤ 7 then (if p.f0 = -1 ∧ p.f1 ≠ 0 then 1 else pfl top t) else 3
def pf (top : Int) (l : List S59) : Int := if 1 ≤ top ∧ top ≤ 24 then (if l.length = 8 then pfl top l else 1) else 3
theorem drop_at {α : Type} (l : List α) (i : Nat) (h : i < l.length) : l.drop i = l[i] :: l.drop (i + 1) := List.drop_eq_getElem_cons h
theorem specPF_from (l : List S59) (hl : l.length ≤ 1000000000) (top : Int) (h1 : 1 ≤ top) (h2 : top ≤ 24) (d : Nat) : ∀ (k i : Nat), l.length = i + d → 2 * d < k → spec_PagesFault.l0 k l top (i : Int) = some (pfl top (l.drop i)) := by
  have ew : wrap64 (top - 1) = top - 1 := by unfold wrap64; omega
  induction d with
  | zero =>
    intro k i hd hk
    obtain ⟨k, rfl⟩ : ∃ m, k = m + 1 := ⟨k - 1, by omega⟩
    simp only [spec_PagesFault.l0]
    rw [if_neg (by omega), List.drop_eq_nil_of_le (by omega)]
    rfl
  | succ d ih =>
    intro k i hd hk
    obtain ⟨k, rfl⟩ : ∃ m, k = m + 1 + 1 := ⟨k - 2, by omega⟩
    have hi : i < l.length := by omega
    have hi' := ih k (i + 1) (by omega) (by omega)
    rw [drop_at l i hi]
    simp only [spec_PagesFault.l0, spec_PagesFault.j1, l1In_eq, Option.bind_some, ew, decide_eq_true_eq, pfl]
    have p0 : (0 : Int) ≤ (i : Int) := Int.natCast_nonneg _
    have p1 : (i : Int) < (l.length : Int) := by omega
    simp only [rdP_at l i hi, wsucc hi hl, hi', if_pos p0, if_pos p1]
    generalize l[i].f0 = F0
    generalize l[i].f1 = F1
    by_cases c1 : -1 ≤ F0 ∧ F0 ≤ top - 1
    · by_cases c2 : 0 ≤ F1 ∧ F1 ≤ 7
      · have c : -1 ≤ F0 ∧ F0 ≤ top - 1 ∧ 0 ≤ F1 ∧ F1 ≤ 7 := ⟨c1.1, c1.2, c2.1, c2.2⟩
        have c2' : decide (0 ≤ F1 ∧ F1 ≤ 7) = true := decide_eq_true c2
        simp only [if_pos c1, c2', if_pos c, Bool.not_true, Bool.false_eq_true, if_false]
        by_cases c3 : F0 = -1
        · have c3' : F0 < 0 := by omega
          by_cases c4 : F1 = 0
          · first | rw [if_pos c3', if_pos c4, if_neg (fun h => h.2 c4)] | rw [if_pos c3, if_pos c4, if_neg (fun h => h.2 c4)]
          · first | rw [if_pos c3', if_neg c4, if_pos ⟨c3, c4⟩] | rw [if_pos c3, if_neg c4, if_pos ⟨c3, c4⟩]
        · have c3' : ¬ F0 < 0 := by omega
          first | rw [if_neg c3', if_neg (fun h => c3 h.1)] | rw [if_neg c3, if_neg (fun h => c3 h.1)]
      · have c : ¬ (-1 ≤ F0 ∧ F0 ≤ top - 1 ∧ 0 ≤ F1 ∧ F1 ≤ 7) := fun h => c2 ⟨h.2.2.1, h.2.2.2⟩
        have c2' : decide (0 ≤ F1 ∧ F1 ≤ 7) = false := decide_eq_false c2
        rw [if_pos c1, if_neg c, c2']
        rfl
    · have c : ¬ (-1 ≤ F0 ∧ F0 ≤ top - 1 ∧ 0 ≤ F1 ∧ F1 ≤ 7) := fun h => c1 ⟨h.1, h.2.1⟩
      rw [if_neg c1, if_neg c]
      rfl
theorem implPF_from (l : List S59) (hl : l.length ≤ 1000000000) (top : Int) (h1 : 1 ≤ top) (h2 : top ≤ 24) (d : Nat) : ∀ (k i : Nat), l.length = i + d → 2 * d < k → impl_PagesFault.l0 k top l (l.length : Int) (i : Int) = some (pfl top (l.drop i)) := by
  have ew : wrap64 (top - 1) = top - 1 := by unfold wrap64; omega
  induction d with
  | zero =>
    intro k i hd hk
    obtain ⟨k, rfl⟩ : ∃ m, k = m + 1 := ⟨k - 1, by omega⟩
    simp only [impl_PagesFault.l0]
    rw [if_neg (by omega), List.drop_eq_nil_of_le (by omega)]
    rfl
  | succ d ih =>
    intro k i hd hk
    obtain ⟨k, rfl⟩ : ∃ m, k = m + 1 + 1 := ⟨k - 2, by omega⟩
    have hi : i < l.length := by omega
    have hi' := ih k (i + 1) (by omega) (by omega)
    rw [drop_at l i hi]
    simp only [impl_PagesFault.l0, impl_PagesFault.j1, within_eq, Option.bind_some, ew, decide_eq_true_eq, pfl]
    have p0 : (0 : Int) ≤ (i : Int) := Int.natCast_nonneg _
    have p1 : (i : Int) < (l.length : Int) := by omega
    simp only [rdP_at l i hi, wsucc hi hl, hi', if_pos p0, if_pos p1]
    generalize l[i].f0 = F0
    generalize l[i].f1 = F1
    by_cases c1 : -1 ≤ F0 ∧ F0 ≤ top - 1
    · by_cases c2 : 0 ≤ F1 ∧ F1 ≤ 7
      · have c : -1 ≤ F0 ∧ F0 ≤ top - 1 ∧ 0 ≤ F1 ∧ F1 ≤ 7 := ⟨c1.1, c1.2, c2.1, c2.2⟩
        have c2' : decide (0 ≤ F1 ∧ F1 ≤ 7) = true := decide_eq_true c2
        simp only [if_pos c1, c2', if_pos c, Bool.not_true, Bool.false_eq_true, if_false]
        by_cases c3 : F0 = -1
        · have c3' : F0 < 0 := by omega
          by_cases c4 : F1 = 0
          · first | rw [if_pos c3', if_pos c4, if_neg (fun h => h.2 c4)] | rw [if_pos c3, if_pos c4, if_neg (fun h => h.2 c4)]
          · first | rw [if_pos c3', if_neg c4, if_pos ⟨c3, c4⟩] | rw [if_pos c3, if_neg c4, if_pos ⟨c3, c4⟩]
        · have c3' : ¬ F0 < 0 := by omega
          first | rw [if_neg c3', if_neg (fun h => c3 h.1)] | rw [if_neg c3, if_neg (fun h => c3 h.1)]
      · have c : ¬ (-1 ≤ F0 ∧ F0 ≤ top - 1 ∧ 0 ≤ F1 ∧ F1 ≤ 7) := fun h => c2 ⟨h.2.2.1, h.2.2.2⟩
        have c2' : decide (0 ≤ F1 ∧ F1 ≤ 7) = false := decide_eq_false c2
        rw [if_pos c1, if_neg c, c2']
        rfl
    · have c : ¬ (-1 ≤ F0 ∧ F0 ≤ top - 1 ∧ 0 ≤ F1 ∧ F1 ≤ 7) := fun h => c1 ⟨h.1, h.2.1⟩
      rw [if_neg c1, if_neg c]
      rfl
theorem specPF (k : Nat) (l : List S59) (hl : l.length ≤ 1048576) (top : Int) (hk : 16 < k) : spec_PagesFault.f k l top = some (pf top l) := by
  unfold spec_PagesFault.f pf
  rw [l1In_eq]
  simp only [Option.bind_some, decide_eq_true_eq]
  by_cases c : 1 ≤ top ∧ top ≤ 24
  · rw [if_pos c, if_pos c]
    by_cases h8 : l.length = 8
    · rw [if_pos (by omega), if_pos h8]
      exact specPF_from l (by omega) top c.1 c.2 l.length k 0 (by omega) (by omega)
    · rw [if_neg (by omega), if_neg h8]
  · rw [if_neg c, if_neg c]
theorem implPF (k : Nat) (l : List S59) (hl : l.length ≤ 1048576) (top : Int) (hk : 16 < k) : impl_PagesFault.f k l top = some (pf top l) := by
  unfold impl_PagesFault.f pf
  rw [within_eq]
  simp only [Option.bind_some, decide_eq_true_eq]
  by_cases c : 1 ≤ top ∧ top ≤ 24
  · rw [if_pos c, if_pos c]
    by_cases h8 : l.length = 8
    · rw [if_pos (by omega), if_pos h8]
      exact implPF_from l (by omega) top c.1 c.2 l.length k 0 (by omega) (by omega)
    · rw [if_neg (by omega), if_neg h8]
  · rw [if_neg c, if_neg c]
theorem pfl_ok (top : Int) (l : List S59) (h : pfl top l = 0) : ∀ p ∈ l, (-1 ≤ p.f0 ∧ p.f0 ≤ top - 1 ∧ 0 ≤ p.f1 ∧ p.f1 ≤ 7) ∧ (p.f0 = -1 → p.f1 = 0) := by
  induction l with
  | nil => intro p hp; simp at hp
  | cons q t ih =>
    intro p hp
    unfold pfl at h
    by_cases c : -1 ≤ q.f0 ∧ q.f0 ≤ top - 1 ∧ 0 ≤ q.f1 ∧ q.f1 ≤ 7
    · rw [if_pos c] at h
      by_cases d : q.f0 = -1 ∧ q.f1 ≠ 0
      · rw [if_pos d] at h; exact absurd h (by decide)
      · rw [if_neg d] at h
        rcases List.mem_cons.mp hp with e | e
        · subst e
          exact ⟨c, fun h1 => by
            by_cases h2 : p.f1 = 0
            · exact h2
            · exact absurd ⟨h1, h2⟩ d⟩
        · exact ih h p e
    · rw [if_neg c] at h; exact absurd h (by decide)
theorem pf_ok {top : Int} {l : List S59} (h : pf top l = 0) : l.length = 8 ∧ ∀ p ∈ l, (-1 ≤ p.f0 ∧ p.f0 ≤ top - 1 ∧ 0 ≤ p.f1 ∧ p.f1 ≤ 7) ∧ (p.f0 = -1 → p.f1 = 0) := by
  unfold pf at h
  by_cases c : 1 ≤ top ∧ top ≤ 24
  · rw [if_pos c] at h
    by_cases d : l.length = 8
    · rw [if_pos d] at h
      exact ⟨d, pfl_ok top l h⟩
    · rw [if_neg d] at h; exact absurd h (by decide)
  · rw [if_neg c] at h; exact absurd h (by decide)
theorem rdP_mem (l : List S59) (i : Int) (h0 : 0 ≤ i) (h1 : i < (l.length : Int)) : rd_T59 l i ∈ l := by
  obtain ⟨n, rfl⟩ := Int.eq_ofNat_of_zero_le h0
  have hn : n < l.length := by omega
  have e := rdP_at l n hn
  rw [e]
  exact List.getElem_mem hn
def code (k : Int) : Int := if k = 1 then 7 else if k = 2 then 8 else 9
def isKind (k : Int) : Prop := k = 1 ∨ k = 2 ∨ k = 4
instance (k : Int) : Decidable (isKind k) := by unfold isKind; infer_instance
def wv (l : List S59) (i k : Int) : Option Int :=
  if 0 ≤ i ∧ i ≤ 63 then (if (rd_T59 l (i / 8)).f0 < 0 then none else if bits .and .i64 (rd_T59 l (i / 8)).f1 k = 0 then none else some ((rd_T59 l (i / 8)).f0 * 8 + i % 8)) else none
def wr (l : List S59) (i k : Int) : Int × Int := match wv l i k with
  | none => (code k, 0)
  | some v => (0, v)
def wp (l : List S59) (i k : Int) : Int × Int := if pf 24 l = 0 then (if isKind k then wr l i k else (3, 0)) else (pf 24 l, 0)
theorem kindCode_is (k : Int) : impl_kindCode.f k = some (if isKind k then code k else 0) := by
  unfold impl_kindCode.f
  by_cases h1 : k = 1
  · subst h1; rfl
  by_cases h2 : k = 2
  · subst h2; rfl
  by_cases h4 : k = 4
  · subst h4; rfl
  have hk : ¬ isKind k := by unfold isKind; omega
  rw [if_neg h1, if_neg h2, if_neg h4, if_neg hk]
theorem code_pos (k : Int) : ¬ code k = 0 := by
  unfold code
  by_cases h1 : k = 1
  · rw [if_pos h1]; decide
  · rw [if_neg h1]
    by_cases h2 : k = 2
    · rw [if_pos h2]; decide
    · rw [if_neg h2]; decide
theorem wv_lo {l : List S59} {i k v : Int} (h : wv l i k = some v) : 0 ≤ v := by
  unfold wv at h
  by_cases c : 0 ≤ i ∧ i ≤ 63
  · rw [if_pos c] at h
    by_cases d : (rd_T59 l (i / 8)).f0 < 0
    · rw [if_pos d] at h; cases h
    · rw [if_neg d] at h
      by_cases e : bits .and .i64 (rd_T59 l (i / 8)).f1 k = 0
      · rw [if_pos e] at h; cases h
      · rw [if_neg e] at h
        have := Option.some.inj h
        omega
  · rw [if_neg c] at h; cases h
theorem implW (l : List S59) (hl : l.length = 8) (hp : ∀ p ∈ l, p.f0 ≤ 23) (i k : Int) (hk : isKind k) : impl_walk.f l i k = some (wr l i k) := by
  unfold impl_walk.f impl_hasPage.f wr wv
  rw [within_eq, Option.bind_some, Option.bind_some, kindCode_is, if_pos hk]
  by_cases c : 0 ≤ i ∧ i ≤ 63
  · have e1 : Int.tdiv i 8 = i / 8 := Int.tdiv_eq_ediv_of_nonneg c.1
    have e2 : wrap64 (i / 8) = i / 8 := by unfold wrap64; omega
    have e3 : Int.tmod i 8 = i % 8 := Int.tmod_eq_emod_of_nonneg c.1
    have q1 : 0 ≤ i / 8 := by omega
    have q2 : i / 8 < (l.length : Int) := by omega
    have hm := hp _ (rdP_mem l (i / 8) q1 q2)
    rw [decide_eq_true c, if_pos rfl, if_pos c, e1, e2, e3, if_pos q1, if_pos q2]
    generalize rd_T59 l (i / 8) = P at *
    by_cases d : P.f0 < 0
    · rw [if_pos d, if_pos d]; rfl
    · rw [if_neg d, if_neg d]
      by_cases e : bits .and .i64 P.f1 k = 0
      · rw [if_pos e, if_pos e]; rfl
      · rw [if_neg e, if_neg e]
        have e4 : wrap64 (P.f0 * 8) = P.f0 * 8 := by unfold wrap64; omega
        have e5 : wrap64 (P.f0 * 8 + i % 8) = P.f0 * 8 + i % 8 := by unfold wrap64; omega
        rw [e4, e5]
  · rw [decide_eq_false c, if_neg (by decide), if_neg c]; rfl
theorem implWP (k : Nat) (l : List S59) (hl : l.length ≤ 1048576) (i q : Int) (hk : 16 < k) : impl_WalkPages.f k l i q = some (wp l i q) := by
  unfold impl_WalkPages.f wp
  rw [implPF k l hl 24 hk, Option.bind_some]
  by_cases h : pf 24 l = 0
  · obtain ⟨h8, hp⟩ := pf_ok h
    rw [if_pos h, if_pos h, kindCode_is, Option.bind_some]
    by_cases g : isKind q
    · rw [if_pos g, if_neg (code_pos q), implW l h8 (fun p hq => by have := (hp p hq).1.2.1; omega) i q g, Option.bind_some, if_pos g]
    · rw [if_neg g, if_pos rfl, if_neg g]
  · rw [if_neg h, if_neg h]
def bf (a b : List S59) : Int := if pf 8 a = 0 then pf 24 b else pf 8 a
theorem firstOf_two (k : Nat) (x y : Int) : impl_firstOf.f (k + 3) [x, y] = some (if x = 0 then y else x) := by
  have w0 : wrap64 (0 + 1) = 1 := by unfold wrap64; omega
  have w1 : wrap64 (1 + 1) = 2 := by unfold wrap64; omega
  have r0 : rd [x, y] 0 = x := rfl
  have r1 : rd [x, y] 1 = y := rfl
  have hl : (([x, y] : List Int).length : Int) = 2 := rfl
  unfold impl_firstOf.f
  simp only [impl_firstOf.l0, hl, w0, w1, r0, r1]
  rw [if_pos (show (0 : Int) < 2 by decide), if_pos (show (0 : Int) ≤ 0 by decide), if_pos (show (0 : Int) < 2 by decide)]
  by_cases h : x = 0
  · rw [if_pos h, if_pos h, if_pos (show (1 : Int) < 2 by decide), if_pos (show (0 : Int) ≤ 1 by decide), if_pos (show (1 : Int) < 2 by decide)]
    by_cases g : y = 0
    · rw [if_pos g, if_neg (show ¬ (2 : Int) < 2 by decide), g]
    · rw [if_neg g]
  · rw [if_neg h, if_neg h]
theorem implBF (k : Nat) (a b : List S59) (ha : a.length ≤ 1048576) (hb : b.length ≤ 1048576) (hk : 20 < k) : impl_bothFault.f k a b = some (bf a b) := by
  obtain ⟨m, rfl⟩ : ∃ m, k = m + 3 := ⟨k - 3, by omega⟩
  unfold impl_bothFault.f bf
  rw [implPF _ a ha 8 (by omega), Option.bind_some, implPF _ b hb 24 (by omega), Option.bind_some, firstOf_two, Option.bind_some]
theorem specBF (k : Nat) (a b : List S59) (ha : a.length ≤ 1048576) (hb : b.length ≤ 1048576) (hk : 20 < k) : spec_l4Both.f k a b = some (bf a b) := by
  unfold spec_l4Both.f bf
  rw [specPF _ a ha 8 (by omega), Option.bind_some]
  by_cases h : pf 8 a = 0
  · rw [if_pos h, if_pos h, specPF _ b hb 24 (by omega), Option.bind_some]
  · rw [if_neg h, if_neg h]
def wb (a b : List S59) (i q : Int) : Int × Int := if bf a b = 0 then (if (wp a i q).1 = 0 then wp b (wp a i q).2 q else wp a i q) else (bf a b, 0)
theorem implWB (k : Nat) (a b : List S59) (ha : a.length ≤ 1048576) (hb : b.length ≤ 1048576) (i q : Int) (hk : 20 < k) : impl_WalkBoth.f k a b i q = some (wb a b i q) := by
  unfold impl_WalkBoth.f wb
  rw [implBF k a b ha hb hk, Option.bind_some]
  by_cases h : bf a b = 0
  · rw [if_pos h, if_pos h, implWP k a ha i q (by omega), Option.bind_some]
    by_cases g : (wp a i q).1 = 0
    · rw [if_pos g, if_pos g, implWP k b hb _ q (by omega), Option.bind_some]
    · rw [if_neg g, if_neg g]
  · rw [if_neg h, if_neg h]
def cell (b : List S59) (p : S59) : S59 :=
  if p.f0 ≥ 0 then (if (rd_T59 b p.f0).f0 ≥ 0 then (if Go.bits .and .i64 p.f1 (rd_T59 b p.f0).f1 = 0 then ⟨-1, 0⟩ else ⟨(rd_T59 b p.f0).f0, Go.bits .and .i64 p.f1 (rd_T59 b p.f0).f1⟩) else ⟨-1, 0⟩) else ⟨-1, 0⟩
def comp (a b : List S59) : Int × List S59 := if bf a b = 0 then (0, a.map (cell b)) else (bf a b, [])
theorem bf_ok {a b : List S59} (h : bf a b = 0) : pf 8 a = 0 ∧ pf 24 b = 0 := by
  unfold bf at h
  by_cases c : pf 8 a = 0
  · rw [if_pos c] at h; exact ⟨c, h⟩
  · rw [if_neg c] at h; exact absurd h c
theorem comp_len (a b : List S59) : (comp a b).2.length ≤ 8 := by
  unfold comp
  by_cases h : bf a b = 0
  · rw [if_pos h]
    have := (pf_ok (bf_ok h).1).1
    simp [this]
  · rw [if_neg h]; simp
theorem cell_take (b l : List S59) (i : Nat) (h : i < l.length) : (l.take i).map (cell b) ++ [cell b l[i]] = (l.take (i + 1)).map (cell b) := by
  rw [List.take_succ_eq_append_getElem h, List.map_append]
  rfl
theorem specCP_from (b l : List S59) (hb : b.length = 8) (hl : l.length = 8) (hp : ∀ p ∈ l, -1 ≤ p.f0 ∧ p.f0 ≤ 7) (d : Nat) : ∀ (k i : Nat), l.length = i + d → d < k →
    spec_ComposePages.l0 k l b (i : Int) 0 ((l.take i).map (cell b)) = some (0, l.map (cell b)) := by
  induction d with
  | zero =>
    intro k i hd hk
    obtain ⟨k, rfl⟩ : ∃ m, k = m + 1 := ⟨k - 1, by omega⟩
    simp only [spec_ComposePages.l0]
    rw [if_neg (by omega), List.take_of_length_le (by omega)]
  | succ d ih =>
    intro k i hd hk
    obtain ⟨k, rfl⟩ : ∃ m, k = m + 1 := ⟨k - 1, by omega⟩
    have hi : i < l.length := by omega
    have hi' := ih k (i + 1) (by omega) (by omega)
    have hlen : ((l.take i).map (cell b)).length < 8796093022208 := by rw [List.length_map, List.length_take]; omega
    have p0 : (i : Int) < (l.length : Int) := by omega
    have p1 : (0 : Int) ≤ (i : Int) := by omega
    have hx := hp l[i] (List.getElem_mem hi)
    rw [← cell_take b l i hi] at hi'
    simp only [spec_ComposePages.l0, spec_l4None.f, Option.bind_some]
    rw [if_pos p0, if_pos p1, rdP_at l i hi, wsucc hi (by omega), if_pos hlen, if_pos hlen]
    generalize l[i] = P at *
    unfold cell at hi' ⊢
    by_cases c1 : P.f0 ≥ 0
    · have c2 : P.f0 < (b.length : Int) := by omega
      rw [if_pos c1] at hi' ⊢
      rw [if_pos c1, if_pos c2]
      by_cases c3 : (rd_T59 b P.f0).f0 ≥ 0
      · rw [if_pos c3] at hi' ⊢
        by_cases c4 : Go.bits .and .i64 P.f1 (rd_T59 b P.f0).f1 = 0
        · rw [if_pos c4] at hi' ⊢
          exact hi'
        · rw [if_neg c4] at hi' ⊢
          exact hi'
      · rw [if_neg c3] at hi' ⊢
        exact hi'
    · rw [if_neg c1] at hi' ⊢
      exact hi'
theorem implCP_from (b l : List S59) (hb : b.length = 8) (hl : l.length = 8) (hp : ∀ p ∈ l, -1 ≤ p.f0 ∧ p.f0 ≤ 7) (d : Nat) : ∀ (k i : Nat), l.length = i + d → d < k →
    impl_ComposePages.l0 k b ((l.take i).map (cell b)) l (l.length : Int) (i : Int) = some (0, l.map (cell b)) := by
  induction d with
  | zero =>
    intro k i hd hk
    obtain ⟨k, rfl⟩ : ∃ m, k = m + 1 := ⟨k - 1, by omega⟩
    simp only [impl_ComposePages.l0]
    rw [if_neg (by omega), List.take_of_length_le (by omega)]
  | succ d ih =>
    intro k i hd hk
    obtain ⟨k, rfl⟩ : ∃ m, k = m + 1 := ⟨k - 1, by omega⟩
    have hi : i < l.length := by omega
    have hi' := ih k (i + 1) (by omega) (by omega)
    have hlen : ((l.take i).map (cell b)).length < 8796093022208 := by rw [List.length_map, List.length_take]; omega
    have p0 : (i : Int) < (l.length : Int) := by omega
    have p1 : (0 : Int) ≤ (i : Int) := by omega
    have hx := hp l[i] (List.getElem_mem hi)
    rw [← cell_take b l i hi] at hi'
    simp only [impl_ComposePages.l0, impl_nowhere.f, Option.bind_some]
    rw [if_pos p0, if_pos p1, if_pos p0, rdP_at l i hi, wsucc hi (by omega), if_pos hlen, if_pos hlen]
    generalize l[i] = P at *
    unfold cell at hi' ⊢
    by_cases c1 : P.f0 ≥ 0
    · have c2 : P.f0 < (b.length : Int) := by omega
      rw [if_pos c1] at hi' ⊢
      rw [if_pos c1, if_pos c2]
      by_cases c3 : (rd_T59 b P.f0).f0 ≥ 0
      · rw [if_pos c3] at hi' ⊢
        by_cases c4 : Go.bits .and .i64 P.f1 (rd_T59 b P.f0).f1 = 0
        · rw [if_pos c4] at hi' ⊢
          exact hi'
        · rw [if_neg c4] at hi' ⊢
          exact hi'
      · rw [if_neg c3] at hi' ⊢
        exact hi'
    · rw [if_neg c1] at hi' ⊢
      exact hi'
theorem specCP (k : Nat) (a b : List S59) (ha : a.length ≤ 1048576) (hb : b.length ≤ 1048576) (hk : 20 < k) : spec_ComposePages.f k a b = some (comp a b) := by
  unfold spec_ComposePages.f comp
  rw [specBF k a b ha hb hk, Option.bind_some]
  by_cases h : bf a b = 0
  · obtain ⟨h1, h2⟩ := bf_ok h
    obtain ⟨l8, hp⟩ := pf_ok h1
    rw [if_pos h, if_pos h]
    exact specCP_from b a (pf_ok h2).1 l8 (fun p hq => by have := (hp p hq).1; omega) a.length k 0 (by omega) (by omega)
  · rw [if_neg h, if_neg h]
theorem implCP (k : Nat) (a b : List S59) (ha : a.length ≤ 1048576) (hb : b.length ≤ 1048576) (hk : 20 < k) : impl_ComposePages.f k a b = some (comp a b) := by
  unfold impl_ComposePages.f comp
  rw [implBF k a b ha hb hk, Option.bind_some]
  by_cases h : bf a b = 0
  · obtain ⟨h1, h2⟩ := bf_ok h
    obtain ⟨l8, hp⟩ := pf_ok h1
    rw [if_pos h, if_pos h]
    exact implCP_from b a (pf_ok h2).1 l8 (fun p hq => by have := (hp p hq).1; omega) a.length k 0 (by omega) (by omega)
  · rw [if_neg h, if_neg h]
theorem l4Pages_from {s : List Int} (hs : Src s) (top : Int) (d : Nat) : ∀ (k : Nat) (xs : List S59) (i : Nat) (a : Int), xs.length = i → 8 = i + d → d < k → 0 ≤ a → a + 3 * d ≤ 900000 →
    ∃ m b, spec_l4Pages.l0 k top xs (i : Int) s a = some (m, b) ∧ m.length = 8 ∧ 0 ≤ b ∧ b ≤ a + 3 * d := by
  induction d with
  | zero =>
    intro k xs i a hx hd hk h0 ha
    obtain ⟨k, rfl⟩ : ∃ m, k = m + 1 := ⟨k - 1, by omega⟩
    simp only [spec_l4Pages.l0]
    rw [if_neg (by omega)]
    exact ⟨_, _, rfl, by omega, by omega, by omega⟩
  | succ d ih =>
    intro k xs i a hx hd hk h0 ha
    obtain ⟨k, rfl⟩ : ∃ m, k = m + 1 := ⟨k - 1, by omega⟩
    obtain ⟨v, e1, _⟩ := l1Next_some hs a top h0 (by omega)
    obtain ⟨u, e2, _⟩ := l1Pick_some hs (a + 1) (by omega) (by omega) [7, 3, 1, 5, 2, 4] (by simp)
    obtain ⟨c, e3⟩ := l1Chance_some hs (a + 1 + 1) 4 (by omega) (by omega)
    have hlen : xs.length < 8796093022208 := by omega
    simp only [spec_l4Pages.l0]
    rw [if_pos (by omega), e1, Option.bind_some]
    dsimp only
    rw [e2, Option.bind_some]
    dsimp only
    rw [e3, Option.bind_some]
    dsimp only
    have hw : wrap64 ((i : Int) + 1) = ((i + 1 : Nat) : Int) := by unfold wrap64; omega
    cases c with
    | true =>
      rw [if_pos rfl]
      unfold spec_l4None.f
      rw [Option.bind_some, if_pos hlen, hw]
      obtain ⟨m, b, q1, q2, q3, q4⟩ := ih k (xs ++ [⟨-1, 0⟩]) (i + 1) (a + 1 + 1 + 1) (by rw [List.length_append, hx]; rfl) (by omega) (by omega) (by omega) (by omega)
      exact ⟨m, b, q1, q2, q3, by omega⟩
    | false =>
      rw [if_neg (by decide), if_pos hlen, hw]
      obtain ⟨m, b, q1, q2, q3, q4⟩ := ih k (xs ++ [⟨v, u⟩]) (i + 1) (a + 1 + 1 + 1) (by rw [List.length_append, hx]; rfl) (by omega) (by omega) (by omega) (by omega)
      exact ⟨m, b, q1, q2, q3, by omega⟩
theorem l4Bent_some {s : List Int} (hs : Src s) (top : Int) (k : Nat) (hk : 10 < k) (a : Int) (h0 : 0 ≤ a) (h1 : a ≤ 1000) : ∃ m b, spec_l4Bent.f k s a top = some (m, b) ∧ m.length ≤ 8 ∧ 0 ≤ b ∧ b ≤ a + 100 := by
  obtain ⟨m, b, e1, hm, b0, b1⟩ := l4Pages_from hs top 8 k [] 0 a rfl rfl (by omega) h0 (by omega)
  obtain ⟨i, e2, i0, i1, _⟩ := l1Next_some hs b 8 b0 (by omega)
  obtain ⟨j, e3, _⟩ := l1Next_some hs (b + 1) 20 (by omega) (by omega)
  obtain ⟨u, e4, _⟩ := l1Pick_some hs (b + 1 + 1) (by omega) (by omega) [-2, top, -1] (by simp)
  obtain ⟨v, e5, _⟩ := l1Pick_some hs (b + 1 + 1) (by omega) (by omega) [-1, 8, 0, 7] (by simp)
  have i1 := i1 (by omega)
  have e1' : spec_l4Pages.f k s a top = some (m, b) := e1
  unfold spec_l4Bent.f
  rw [e1', Option.bind_some]
  dsimp only
  rw [e2, Option.bind_some]
  dsimp only
  rw [e3, Option.bind_some]
  dsimp only
  have p1 : i < (m.length : Int) := by omega
  by_cases c0 : j = 0
  · rw [if_pos c0, e4, Option.bind_some, if_pos i0, if_pos p1]
    exact ⟨_, _, rfl, by rw [List.length_set]; omega, by show 0 ≤ b + 1 + 1 + 1; omega, by show b + 1 + 1 + 1 ≤ a + 100; omega⟩
  · rw [if_neg c0]
    by_cases c1 : j = 1
    · rw [if_pos c1, e5, Option.bind_some, if_pos i0, if_pos p1]
      exact ⟨_, _, rfl, by rw [List.length_set]; omega, by show 0 ≤ b + 1 + 1 + 1; omega, by show b + 1 + 1 + 1 ≤ a + 100; omega⟩
    · rw [if_neg c1]
      by_cases c2 : j = 2
      · rw [if_pos c2, if_pos (by omega)]
        exact ⟨_, _, rfl, by rw [List.length_drop]; omega, by omega, by omega⟩
      · rw [if_neg c2]
        exact ⟨_, _, rfl, by omega, by omega, by omega⟩
theorem bitsK : ∀ x y : Int, 0 ≤ x → x ≤ 7 → 0 ≤ y → y ≤ 7 → (0 ≤ Go.bits .and .i64 x y ∧ Go.bits .and .i64 x y ≤ 7) ∧ ∀ q, isKind q → (Go.bits .and .i64 (Go.bits .and .i64 x y) q = 0 ↔ Go.bits .and .i64 x q = 0 ∨ Go.bits .and .i64 y q = 0) := by
  intro x y hx hx7 hy hy7
  have key : ∀ a b : Fin 8, (0 ≤ Go.bits .and .i64 (a.val : Int) (b.val : Int) ∧ Go.bits .and .i64 (a.val : Int) (b.val : Int) ≤ 7) ∧ (∀ q : Fin 5, isKind (q.val : Int) → (Go.bits .and .i64 (Go.bits .and .i64 (a.val : Int) (b.val : Int)) (q.val : Int) = 0 ↔ Go.bits .and .i64 (a.val : Int) (q.val : Int) = 0 ∨ Go.bits .and .i64 (b.val : Int) (q.val : Int) = 0)) := by decide +kernel
  have k1 := key ⟨x.toNat, by omega⟩ ⟨y.toNat, by omega⟩
  have e1 : ((x.toNat : Nat) : Int) = x := by omega
  have e2 : ((y.toNat : Nat) : Int) = y := by omega
  dsimp only at k1
  rw [e1, e2] at k1
  refine ⟨k1.1, fun q hq => ?_⟩
  have hq5 : 0 ≤ q ∧ q < 5 := by unfold isKind at hq; omega
  have k2 := k1.2 ⟨q.toNat, by omega⟩
  have e3 : ((q.toNat : Nat) : Int) = q := by omega
  dsimp only at k2
  rw [e3] at k2
  exact k2 hq
theorem pfl_of (top : Int) (l : List S59) (h : ∀ p ∈ l, (-1 ≤ p.f0 ∧ p.f0 ≤ top - 1 ∧ 0 ≤ p.f1 ∧ p.f1 ≤ 7) ∧ (p.f0 = -1 → p.f1 = 0)) : pfl top l = 0 := by
  induction l with
  | nil => rfl
  | cons q t ih =>
    have hq := h q List.mem_cons_self
    unfold pfl
    rw [if_pos hq.1, if_neg (fun g => g.2 (hq.2 g.1))]
    exact ih (fun p hp => h p (List.mem_cons_of_mem _ hp))
theorem pf_of {top : Int} {l : List S59} (h1 : 1 ≤ top) (h2 : top ≤ 24) (h8 : l.length = 8) (h : ∀ p ∈ l, (-1 ≤ p.f0 ∧ p.f0 ≤ top - 1 ∧ 0 ≤ p.f1 ∧ p.f1 ≤ 7) ∧ (p.f0 = -1 → p.f1 = 0)) : pf top l = 0 := by
  unfold pf
  rw [if_pos ⟨h1, h2⟩, if_pos h8]
  exact pfl_of top l h
theorem pf_mono {l : List S59} (h : pf 8 l = 0) : pf 24 l = 0 := by
  obtain ⟨h8, hp⟩ := pf_ok h
  exact pf_of (by decide) (by decide) h8 (fun p hq => ⟨by have := (hp p hq).1; omega, (hp p hq).2⟩)
theorem cell_ok (b : List S59) (hb : pf 24 b = 0) (p : S59) (h0 : -1 ≤ p.f0) (h1 : p.f0 ≤ 7) (h2 : 0 ≤ p.f1) (h3 : p.f1 ≤ 7) : (-1 ≤ (cell b p).f0 ∧ (cell b p).f0 ≤ 24 - 1 ∧ 0 ≤ (cell b p).f1 ∧ (cell b p).f1 ≤ 7) ∧ ((cell b p).f0 = -1 → (cell b p).f1 = 0) := by
  obtain ⟨b8, hbp⟩ := pf_ok hb
  unfold cell
  by_cases c1 : p.f0 ≥ 0
  · have hm := hbp _ (rdP_mem b p.f0 c1 (by omega))
    rw [if_pos c1]
    generalize rd_T59 b p.f0 = Q at *
    by_cases c3 : Q.f0 ≥ 0
    · rw [if_pos c3]
      have hb := (bitsK p.f1 Q.f1 h2 h3 hm.1.2.2.1 hm.1.2.2.2).1
      by_cases c4 : Go.bits .and .i64 p.f1 Q.f1 = 0
      · rw [if_pos c4]; exact ⟨by decide, fun _ => rfl⟩
      · rw [if_neg c4]
        dsimp only
        exact ⟨by omega, by omega⟩
    · rw [if_neg c3]; exact ⟨by decide, fun _ => rfl⟩
  · rw [if_neg c1]; exact ⟨by decide, fun _ => rfl⟩
theorem rd_map (b a : List S59) (i : Int) (h0 : 0 ≤ i) (h1 : i < (a.length : Int)) : rd_T59 (a.map (cell b)) i = cell b (rd_T59 a i) := by
  obtain ⟨n, rfl⟩ := Int.eq_ofNat_of_zero_le h0
  have hn : n < a.length := by omega
  have e1 := rdP_at a n hn
  have e2 := rdP_at (a.map (cell b)) n (by rw [List.length_map]; exact hn)
  rw [e1, e2, List.getElem_map]
theorem wv_comp (a b : List S59) (ha : pf 8 a = 0) (hb : pf 24 b = 0) (i q : Int) (hq : isKind q) : wv (a.map (cell b)) i q = (wv a i q).bind (fun v => wv b v q) := by
  obtain ⟨a8, hap⟩ := pf_ok ha
  obtain ⟨b8, hbp⟩ := pf_ok hb
  have z0 : Go.bits .and .i64 0 q = 0 := by
    rcases hq with e | e | e <;> subst e <;> decide +kernel
  unfold wv
  by_cases c : 0 ≤ i ∧ i ≤ 63
  · rw [if_pos c, if_pos c, rd_map b a (i / 8) (by omega) (by omega)]
    have hm := hap _ (rdP_mem a (i / 8) (by omega) (by omega))
    generalize rd_T59 a (i / 8) = P at *
    by_cases c1 : P.f0 ≥ 0
    · have c1' : ¬ P.f0 < 0 := by omega
      have hn := hbp _ (rdP_mem b P.f0 c1 (by omega))
      have hk := bitsK P.f1 (rd_T59 b P.f0).f1 hm.1.2.2.1 hm.1.2.2.2 hn.1.2.2.1 hn.1.2.2.2
      have hk2 := hk.2 q hq
      rw [if_neg c1']
      have ev : (P.f0 * 8 + i % 8) / 8 = P.f0 := by omega
      have em : (P.f0 * 8 + i % 8) % 8 = i % 8 := by omega
      have ei : 0 ≤ P.f0 * 8 + i % 8 ∧ P.f0 * 8 + i % 8 ≤ 63 := by omega
      unfold cell
      rw [if_pos c1]
      by_cases d1 : Go.bits .and .i64 P.f1 q = 0
      · rw [if_pos d1, Option.bind_none]
        by_cases c3 : (rd_T59 b P.f0).f0 ≥ 0
        · rw [if_pos c3]
          by_cases c4 : Go.bits .and .i64 P.f1 (rd_T59 b P.f0).f1 = 0
          · rw [if_pos c4]; rfl
          · rw [if_neg c4]
            dsimp only
            rw [if_pos (hk2.mpr (.inl d1))]
            split <;> rfl
        · rw [if_neg c3]; rfl
      · rw [if_neg d1, Option.bind_some, if_pos ei, ev, em]
        by_cases c3 : (rd_T59 b P.f0).f0 ≥ 0
        · have c3' : ¬ (rd_T59 b P.f0).f0 < 0 := by omega
          rw [if_pos c3, if_neg c3']
          by_cases c4 : Go.bits .and .i64 P.f1 (rd_T59 b P.f0).f1 = 0
          · have : Go.bits .and .i64 (rd_T59 b P.f0).f1 q = 0 := by
              rw [c4] at hk2
              exact (hk2.mp z0).resolve_left d1
            rw [if_pos c4, if_pos this]; rfl
          · rw [if_neg c4]
            dsimp only
            rw [if_neg c3']
            by_cases d2 : Go.bits .and .i64 (rd_T59 b P.f0).f1 q = 0
            · rw [if_pos (hk2.mpr (.inr d2)), if_pos d2]
            · rw [if_neg (fun h => (hk2.mp h).elim d1 d2), if_neg d2]
        · have c3' : (rd_T59 b P.f0).f0 < 0 := by omega
          rw [if_neg c3, if_pos c3']; rfl
    · have c1' : P.f0 < 0 := by omega
      rw [if_pos c1', Option.bind_none]
      unfold cell
      rw [if_neg c1]; rfl
  · rw [if_neg c, if_neg c, Option.bind_none]
theorem comp_ok (a b : List S59) (h : bf a b = 0) : pf 24 (a.map (cell b)) = 0 := by
  obtain ⟨h1, h2⟩ := bf_ok h
  obtain ⟨a8, hap⟩ := pf_ok h1
  refine pf_of (by decide) (by decide) (by rw [List.length_map]; exact a8) (fun p hp => ?_)
  obtain ⟨p', hp', rfl⟩ := List.mem_map.mp hp
  have := (hap p' hp').1
  exact cell_ok b h2 p' (by omega) (by omega) (by omega) (by omega)
theorem leads (a b : List S59) (h : bf a b = 0) (i q : Int) : wb a b i q = wp (a.map (cell b)) i q := by
  obtain ⟨h1, h2⟩ := bf_ok h
  have h3 := comp_ok a b h
  unfold wb wp
  rw [if_pos h, pf_mono h1, h2, h3, if_pos rfl, if_pos rfl, if_pos rfl]
  by_cases g : isKind q
  · rw [if_pos g, if_pos g, if_pos g]
    have e := wv_comp a b h1 h2 i q g
    unfold wr
    cases ev : wv a i q with
    | none =>
      rw [ev, Option.bind_none] at e
      rw [e]
      dsimp only
      rw [if_neg (code_pos q)]
    | some v =>
      rw [ev, Option.bind_some] at e
      rw [e]
      dsimp only
      rw [if_pos rfl]
  · rw [if_neg g, if_neg g, if_neg g, if_neg (by decide)]
theorem run1 (a b c : List S59) (ha : a.length ≤ 1048576) (hb : b.length ≤ 1048576) (hc : c.length ≤ 1048576) (z : Int) (hwb : ∀ i q, wb a b i q = wp c i q) (i : Int) (k : Nat) (hk : 30 < k) (hn : laws_FnStages.l0 k a b (wrap64 (i + 3)) z c = some true) (n : Nat) (h7 : n ≤ 8) :
    laws_FnStages.l1 (k + n + 1) a b i (8 - (n : Int)) z c = some true := by
  induction n with
  | zero =>
    simp only [laws_FnStages.l1]
    rw [if_neg (by omega)]
    exact hn
  | succ n ih =>
    have ih := ih (by omega)
    rw [show k + (n + 1) + 1 = (k + n + 1) + 1 by omega]
    simp only [laws_FnStages.l1]
    have e : wrap64 (8 - ((n + 1 : Nat) : Int) + 1) = 8 - (n : Int) := by unfold wrap64; omega
    rw [if_pos (by omega), implWB _ a b ha hb _ _ (by omega), Option.bind_some, implWP _ c hc _ _ (by omega), Option.bind_some, hwb, beq_self_eq_true, beq_self_eq_true, if_neg (by decide), e]
    exact ih
theorem run0 (a b c : List S59) (ha : a.length ≤ 1048576) (hb : b.length ≤ 1048576) (hc : c.length ≤ 1048576) (z : Int) (hwb : ∀ i q, wb a b i q = wp c i q) (hp : pf 24 c = 0) (hl : c.length = (comp a b).2.length) (m : Nat) (hm : m ≤ 22) : ∀ (k : Nat), 40 < k → laws_FnStages.l0 (k + 9 * m + 1) a b (65 - 3 * (m : Int)) z c = some true := by
  induction m with
  | zero =>
    intro k hk
    simp only [laws_FnStages.l0]
    rw [if_neg (by omega), implPF _ c hc 24 (by omega), Option.bind_some, hp, if_pos rfl, specCP _ a b ha hb (by omega), Option.bind_some, hl, beq_self_eq_true]
  | succ m ih =>
    intro k hk
    have ih := ih (by omega) k hk
    have e : wrap64 (65 - 3 * ((m + 1 : Nat) : Int) + 3) = 65 - 3 * (m : Int) := by unfold wrap64; omega
    have r := run1 a b c ha hb hc z hwb (65 - 3 * ((m + 1 : Nat) : Int)) (k + 9 * m + 1) (by omega) (by rw [e]; exact ih) 7 (by omega)
    rw [show k + 9 * (m + 1) + 1 = (k + 9 * m + 1 + 7 + 1) + 1 by omega]
    simp only [laws_FnStages.l0]
    rw [if_pos (by omega)]
    exact r
theorem draw_some {s : List Int} (hs : Src s) (k : Nat) (hk : 10 < k) : ∃ a b, spec_DrawComposePages.f k s = some (a, b) ∧ a.length ≤ 8 ∧ b.length ≤ 8 := by
  obtain ⟨a, p, e1, ha, p0, p1⟩ := l4Bent_some hs 8 k hk 0 (by omega) (by omega)
  obtain ⟨b, q, e2, hb, q0, q1⟩ := l4Bent_some hs 24 k hk p p0 (by omega)
  refine ⟨a, b, ?_, ha, hb⟩
  unfold spec_DrawComposePages.f spec_l1Source.f
  rw [Option.bind_some]
  dsimp only
  rw [e1, Option.bind_some]
  dsimp only
  rw [e2, Option.bind_some]
theorem FnStages : laws_FnStages.Pure := by
  intro l hm hr hw
  refine ⟨400 + 9 * 22 + 1, ?_⟩
  unfold laws_FnStages.f laws_lwBig.f
  rw [Option.bind_some]
  by_cases hb : (l.length : Int) > 1048576
  · rw [if_pos (by simpa using hb)]
  rw [if_neg (by simpa using hb)]
  have hs : Src l := src_of (by omega) hw
  obtain ⟨a, b, e, ha, hb⟩ := draw_some hs (400 + 9 * 22 + 1) (by omega)
  rw [e, Option.bind_some]
  dsimp only
  rw [implCP _ a b (by omega) (by omega) (by omega), Option.bind_some]
  by_cases h : bf a b = 0
  · have ec : comp a b = (0, a.map (cell b)) := by unfold comp; rw [if_pos h]
    rw [ec]
    dsimp only
    rw [if_pos rfl]
    exact run0 a b (a.map (cell b)) (by omega) (by omega) (by rw [List.length_map]; omega) 0 (leads a b h) (comp_ok a b h) (by rw [ec]) 22 (by omega) 400 (by omega)
  · have ec : comp a b = (bf a b, []) := by unfold comp; rw [if_neg h]
    rw [ec]
    dsimp only
    rw [if_neg h, specCP _ a b (by omega) (by omega) (by omega), Option.bind_some, ec, beq_self_eq_true]

end Go.Proofs.Ytjeokjjlhpocdaa.Pure
