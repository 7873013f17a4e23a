/- FnFills: what is filled in is found, what is flushed is not, and others stay, at every input of bytes. No condition. -/
import Derived.Test.YtoojkiihbpnfdaaPFnFillsx8
import Derived.Test.YtoojkiihbpnfdaaLem
namespace Go.Proofs.Ytoojkiihbpnfdaa.Pure
open Go.RowKit Go.Proofs.Ytoojkiihbpnfdaa.PFnFills Go.Proofs.YtoojkiihbpnfdaaW.PrintWords Go.Proofs.YtoojkiihbpnfdaaW.PrintLast Go.Proofs.YtoojkiihbpnfdaaW.PrintMore
open Go.Proofs.Ytoojkiihbpnfdaa.Lem
set_option linter.unusedVariables false
set_option linter.unusedSimpArgs false
def Src (s : List Int) : Prop := s.length ≤ 2000000 ∧ ∀ x ∈ s, 0 ≤ x ∧ x ≤ 255
theorem src_of {s : List Int} (hs : s.length ≤ 2000000) (hw : ∀ x ∈ s, (Lit.int .u8 x).wf = true) : Src s :=
 ⟨hs, fun x hx => by have := hw x hx; simp [Lit.wf, IntKind.min, IntKind.max, IntKind.bits, IntKind.signed] at this; omega⟩
theorem src_rd {s : List Int} (h : Src s) (i : Int) : 0 ≤ rd s i ∧ rd s i ≤ 255 := by
 unfold rd
 by_cases hi : i.toNat < s.length
 ·rw [List.getD_eq_getElem?_getD, List.getElem?_eq_getElem hi]
  exact h.2 _ (List.getElem_mem hi)
 ·rw [List.getD_eq_getElem?_getD, List.getElem?_eq_none (by omega)]
  exact ⟨by simp, by simp⟩
theorem wr1 {a : Int} (h0 : 0 ≤ a) (h1 : a ≤ 1000000) : wrap64 (a + 1) = a + 1 := by unfold wrap64; omega
theorem wr2 {a : Int} (h0 : 0 ≤ a) (h1 : a ≤ 1000000) : wrap64 (a + 1 - 1) = a := by unfold wrap64; omega
theorem l1Next_some {s : List Int} (hs : Src s) (a n : Int) (h0 : 0 ≤ a) (h1 : a ≤ 1000000) :
  ∃ v, spec_l1Next.f s a n = some (v, a + 1) ∧ 0 ≤ v ∧ (1 ≤ n → v < n) ∧ (n < 1 → v = 0) := by
 unfold spec_l1Next.f
 by_cases hn : n < 1
 ·exact ⟨0, by rw [if_pos hn, wr1 h0 h1], by omega, by omega, by omega⟩
 rw [if_neg hn]
 have hn0 : ¬ n = 0 := by omega
 rw [wr1 h0 h1, wr2 h0 h1, wr1 h0 h1]
 have key : ∀ e : Int, 0 ≤ e → 0 ≤ Int.tmod e n ∧ Int.tmod e n < n := fun e he => by
  rw [Int.tmod_eq_emod_of_nonneg he]
  exact ⟨Int.emod_nonneg _ hn0, Int.emod_lt_of_pos _ (by omega)⟩
 by_cases hl : (s.length : Int) = 0
 ·rw [if_pos hl, if_neg hn0]
  have e : wrap64 (a * 7) = a * 7 := by unfold wrap64; omega
  rw [e]
  have := key (a * 7) (by omega)
  exact ⟨_, rfl, this.1, fun _ => this.2, by omega⟩
 rw [if_neg hl]
 have hlen := hs.1
 have m1 : ∀ e : Int, 0 ≤ e → 0 ≤ Int.tmod e (s.length : Int) ∧ Int.tmod e (s.length : Int) < (s.length : Int) := fun e he => by
  rw [Int.tmod_eq_emod_of_nonneg he]
  exact ⟨Int.emod_nonneg _ hl, Int.emod_lt_of_pos _ (by omega)⟩
 have q1 := m1 a h0
 have q2 := m1 (a + 1) (by omega)
 rw [if_pos q1.1, if_pos q1.2]
 have d1 : 0 ≤ Int.tdiv a (s.length : Int) ∧ Int.tdiv a (s.length : Int) ≤ a := by
  rw [Int.tdiv_eq_ediv_of_nonneg h0]
  exact ⟨Int.ediv_nonneg h0 (by omega), Int.ediv_le_self _ h0⟩
 have r1 := src_rd hs (Int.tmod a (s.length : Int))
 have r2 := src_rd hs (Int.tmod (a + 1) (s.length : Int))
 generalize Int.tdiv a (s.length : Int) = D at *
 generalize rd s (Int.tmod a (s.length : Int)) = X at *
 generalize rd s (Int.tmod (a + 1) (s.length : Int)) = Y at *
 have w1 : wrap64 D = D := by unfold wrap64; omega
 have w2 : wrap64 (D * 37) = D * 37 := by unfold wrap64; omega
 have w3 : wrap64 X = X := by unfold wrap64; omega
 have w4 : wrap64 Y = Y := by unfold wrap64; omega
 have w5 : wrap64 (X + D * 37) = X + D * 37 := by unfold wrap64; omega
 by_cases hb : n > 200
 ·rw [if_pos hb, if_pos q2.1, if_pos q2.2, if_neg hn0, w1, w2, w3, w4, w5]
  have w6 : wrap64 ((X + D * 37) * 251) = (X + D * 37) * 251 := by unfold wrap64; omega
  have w7 : wrap64 (Y * 13) = Y * 13 := by unfold wrap64; omega
  have w8 : wrap64 ((X + D * 37) * 251 + Y * 13) = (X + D * 37) * 251 + Y * 13 := by unfold wrap64; omega
  have w9 : wrap64 ((X + D * 37) * 251 + Y * 13 + a) = (X + D * 37) * 251 + Y * 13 + a := by unfold wrap64; omega
  rw [w6, w7, w8, w9]
  have := key ((X + D * 37) * 251 + Y * 13 + a) (by omega)
  exact ⟨_, rfl, this.1, fun _ => this.2, by omega⟩
 ·rw [if_neg hb, if_neg hn0, w1, w2, w3, w5]
  have := key (X + D * 37) (by omega)
  exact ⟨_, rfl, this.1, fun _ => this.2, by omega⟩
theorem l1Pick_some {s : List Int} (hs : Src s) (a : Int) (h0 : 0 ≤ a) (h1 : a ≤ 1000000) (l : List Int) (hl : l ≠ []) :
  ∃ v, spec_l1Pick.f s a l = some (v, a + 1) ∧ v ∈ l := by
 have hp : 0 < l.length := List.length_pos_iff.mpr hl
 obtain ⟨i, hi, b0, b1, _⟩ := l1Next_some hs a (l.length : Int) h0 h1
 unfold spec_l1Pick.f
 rw [hi]
 simp only [Option.bind_some]
 rw [if_pos b0, if_pos (b1 (by omega))]
 refine ⟨_, rfl, ?_⟩
 unfold rd
 have hlt : i.toNat < l.length := by have := b1 (by omega); omega
 rw [List.getD_eq_getElem?_getD, List.getElem?_eq_getElem hlt]
 exact List.getElem_mem hlt
theorem within_eq (a x y : Int) : impl_within.f a x y = some (decide (x ≤ a ∧ a ≤ y)) := by
 unfold impl_within.f
 split <;> rename_i h <;> simp <;> omega
theorem l1In_eq (a x y : Int) : spec_l1In.f a x y = some (decide (x ≤ a ∧ a ≤ y)) := by
 unfold spec_l1In.f
 split <;> rename_i h <;> simp <;> omega
theorem rdH_at (l : List S31) (i : Nat) (h : i < l.length) : rd_T31 l (i : Int) = l[i] := by
 unfold rd_T31
 rw [Int.toNat_natCast, List.getD_eq_getElem?_getD, List.getElem?_eq_getElem h]
 rfl
theorem wsuccH {i n : Nat} (h : i < n) (hn : n ≤ 1000000000) : wrap64 ((i : Int) + 1) = ((i + 1 : Nat) : Int) := by unfold wrap64; omega
def hOk (x : S31) : Prop := (0 ≤ x.f0 ∧ x.f0 ≤ 9) ∧ (0 ≤ x.f1 ∧ x.f1 ≤ 7) ∧ (0 ≤ x.f2 ∧ x.f2 ≤ 23) ∧ (1 ≤ x.f3 ∧ x.f3 ≤ 7)
instance (x : S31) : Decidable (hOk x) := by unfold hOk; infer_instance
theorem hitOk_spec (x : S31) : spec_l5Hit.f x.f0 x.f1 x.f2 x.f3 = some (decide (hOk x)) := by
 unfold spec_l5Hit.f
 simp only [l1In_eq, Option.bind_some, decide_eq_true_eq]
 by_cases a : 0 ≤ x.f0 ∧ x.f0 ≤ 9
 ·by_cases b : 0 ≤ x.f1 ∧ x.f1 ≤ 7
  ·by_cases c : 0 ≤ x.f2 ∧ x.f2 ≤ 23
   ·rw [if_pos a, if_pos b, if_pos c]
    exact congrArg some (decide_eq_decide.mpr ⟨fun d => ⟨a, b, c, d⟩, fun h => h.2.2.2⟩)
   ·rw [if_pos a, if_pos b, if_neg c, decide_eq_false (fun h : hOk x => c h.2.2.1)]
  ·rw [if_pos a, if_neg b, decide_eq_false (fun h : hOk x => b h.2.1)]
 ·rw [if_neg a, decide_eq_false (fun h : hOk x => a h.1)]
theorem hitOk_impl (x : S31) : impl_hitFault.f x.f0 x.f1 x.f2 x.f3 = some (if hOk x then 0 else 3) := by
 unfold impl_hitFault.f
 simp only [within_eq, Option.bind_some, decide_eq_true_eq]
 by_cases a : 0 ≤ x.f0 ∧ x.f0 ≤ 9
 ·by_cases b : 0 ≤ x.f1 ∧ x.f1 ≤ 7
  ·by_cases c : 0 ≤ x.f2 ∧ x.f2 ≤ 23
   ·by_cases d : 1 ≤ x.f3 ∧ x.f3 ≤ 7
    ·rw [if_pos a, if_pos b, if_pos c, if_pos d, if_pos (show hOk x from ⟨a, b, c, d⟩)]
    ·rw [if_pos a, if_pos b, if_pos c, if_neg d, if_neg (fun h : hOk x => d h.2.2.2)]
   ·rw [if_pos a, if_pos b, if_neg c, if_neg (fun h : hOk x => c h.2.2.1)]
  ·rw [if_pos a, if_neg b, if_neg (fun h : hOk x => b h.2.1)]
 ·rw [if_neg a, if_neg (fun h : hOk x => a h.1)]
theorem find_from (l : List S31) (hl : l.length ≤ 1000000000) (t p : Int) (d : Nat) : ∀ (k i : Nat), l.length = i + d → d < k → spec_l5Find.l0 k l t p (i : Int) = some (hIdx t p (l.drop i) (i : Int)) := by
 induction d with
 | zero =>
  intro k i hd hk
  obtain ⟨k, rfl⟩ : ∃ m, k = m + 1 := ⟨k - 1, by omega⟩
  simp only [spec_l5Find.l0]
  rw [if_neg (by omega), hIdx_end _ _ _ _ (by omega)]
 | succ d ih =>
  intro k i hd hk
  obtain ⟨k, rfl⟩ : ∃ m, k = m + 1 := ⟨k - 1, by omega⟩
  have hi : i < l.length := by omega
  have hi' := ih k (i + 1) (by omega) (by omega)
  have p0 : (i : Int) < (l.length : Int) := by omega
  have p1 : (0 : Int) ≤ (i : Int) := by omega
  rw [hIdx_cons t p l i hi]
  simp only [spec_l5Find.l0]
  rw [if_pos p0, if_pos p1, wsuccH hi hl, hi']
  generalize (rd_T31 l (i : Int)).f0 = F0
  generalize (rd_T31 l (i : Int)).f1 = F1
  by_cases c1 : F0 = t
  ·have e1 : (F0 == t) = true := beq_iff_eq.mpr c1
   rw [if_pos c1, e1, Bool.true_and]
   by_cases c2 : F1 = p
   ·rw [if_pos c2, if_pos (beq_iff_eq.mpr c2)]
   ·rw [if_neg c2, beq_eq_false_iff_ne.mpr c2, if_neg (by decide)]
  ·rw [if_neg c1, beq_eq_false_iff_ne.mpr c1, Bool.false_and, if_neg (by decide)]
theorem find_is (k : Nat) (l : List S31) (hl : l.length ≤ 1000000000) (t p : Int) (hk : l.length < k) : spec_l5Find.f k l t p = some (hIdx t p l 0) := by
 unfold spec_l5Find.f
 exact find_from l hl t p l.length k 0 (by omega) hk
def cfl (pre : List S31) : List S31 → Int
 | [] => 0
 | x :: t => if hOk x then (if hIdx x.f0 x.f1 pre 0 ≥ 0 then 6 else cfl (pre ++ [x]) t) else 3
def cf (l : List S31) : Int := if 12 < l.length then 2 else cfl [] l
theorem cfl_at (l : List S31) (i : Nat) (h : i < l.length) : cfl (l.take i) (l.drop i) = if hOk l[i] then (if hIdx l[i].f0 l[i].f1 (l.take i) 0 ≥ 0 then 6 else cfl (l.take (i + 1)) (l.drop (i + 1))) else 3 := by
 rw [List.drop_eq_getElem_cons h, List.take_succ_eq_append_getElem h]
 rfl
theorem specCF_from (l : List S31) (hl : l.length ≤ 12) (d : Nat) : ∀ (k i : Nat), l.length = i + d → d + 20 < k → spec_CacheFault.l0 k l (i : Int) = some (cfl (l.take i) (l.drop i)) := by
 induction d with
 | zero =>
  intro k i hd hk
  obtain ⟨k, rfl⟩ : ∃ m, k = m + 1 := ⟨k - 1, by omega⟩
  simp only [spec_CacheFault.l0]
  rw [if_neg (by omega), List.drop_eq_nil_of_le (by omega)]
  rfl
 | succ d ih =>
  intro k i hd hk
  obtain ⟨k, rfl⟩ : ∃ m, k = m + 1 := ⟨k - 1, by omega⟩
  have hi : i < l.length := by omega
  have hi' := ih k (i + 1) (by omega) (by omega)
  have p0 : (i : Int) < (l.length : Int) := by omega
  have p1 : (0 : Int) ≤ (i : Int) := by omega
  have p2 : (i : Int) ≤ (l.length : Int) := by omega
  rw [cfl_at l i hi]
  simp only [spec_CacheFault.l0]
  rw [if_pos p0, if_pos p1, rdH_at l i hi, hitOk_spec, Option.bind_some, wsuccH hi (by omega), hi', Int.toNat_natCast]
  by_cases c : hOk l[i]
  ·rw [decide_eq_true c, if_pos rfl, if_pos p2, if_pos c, find_is k _ (by rw [List.length_take]; omega) _ _ (by rw [List.length_take]; omega), Option.bind_some]
   by_cases g : hIdx l[i].f0 l[i].f1 (l.take i) 0 ≥ 0
   ·rw [if_pos g, if_pos g]
   ·rw [if_neg g, if_neg g]
  ·rw [decide_eq_false c, if_neg (by decide), if_neg c]
theorem implCF_from (l : List S31) (hl : l.length ≤ 12) (d : Nat) : ∀ (k i : Nat), l.length = i + d → d < k → impl_CacheFault.l0 k l l (l.length : Int) (i : Int) = some (cfl (l.take i) (l.drop i)) := by
 induction d with
 | zero =>
  intro k i hd hk
  obtain ⟨k, rfl⟩ : ∃ m, k = m + 1 := ⟨k - 1, by omega⟩
  simp only [impl_CacheFault.l0]
  rw [if_neg (by omega), List.drop_eq_nil_of_le (by omega)]
  rfl
 | succ d ih =>
  intro k i hd hk
  obtain ⟨k, rfl⟩ : ∃ m, k = m + 1 := ⟨k - 1, by omega⟩
  have hi : i < l.length := by omega
  have hi' := ih k (i + 1) (by omega) (by omega)
  have p0 : (i : Int) < (l.length : Int) := by omega
  have p1 : (0 : Int) ≤ (i : Int) := by omega
  have p2 : (i : Int) ≤ (l.length : Int) := by omega
  rw [cfl_at l i hi]
  simp only [impl_CacheFault.l0, impl_hitAt.f]
  rw [if_pos p0, if_pos p1, if_pos p0, rdH_at l i hi, hitOk_impl, Option.bind_some, wsuccH hi (by omega), hi', Int.toNat_natCast]
  by_cases c : hOk l[i]
  ·rw [if_pos c, if_pos rfl, if_pos p2, Option.bind_some, if_pos c]
   by_cases g : hIdx l[i].f0 l[i].f1 (l.take i) 0 ≥ 0
   ·rw [if_pos g, if_pos g]
   ·rw [if_neg g, if_neg g]
  ·rw [if_neg c, if_neg (by decide), if_neg c]
theorem specCF (k : Nat) (l : List S31) (hk : 40 < k) : spec_CacheFault.f k l = some (cf l) := by
 unfold spec_CacheFault.f cf
 by_cases h : 12 < l.length
 ·rw [if_pos (by omega), if_pos h]
 ·rw [if_neg (by omega), if_neg h]
  exact specCF_from l (by omega) l.length k 0 (by omega) (by omega)
theorem implCF (k : Nat) (l : List S31) (hk : 40 < k) : impl_CacheFault.f k l = some (cf l) := by
 unfold impl_CacheFault.f cf
 by_cases h : 12 < l.length
 ·rw [if_pos (by omega), if_pos h]
 ·rw [if_neg (by omega), if_neg h]
  exact implCF_from l (by omega) l.length k 0 (by omega) (by omega)
theorem hIdx_lt (t p : Int) (l : List S31) : ∀ i : Int, 0 ≤ i → hIdx t p l i = -1 ∨ (i ≤ hIdx t p l i ∧ hIdx t p l i < i + l.length) := by
 induction l with
 | nil => intro i _; exact .inl rfl
 | cons x r ih =>
  intro i hi
  unfold hIdx
  by_cases c : hAt t p x = true
  ·rw [if_pos c]
   exact .inr ⟨by omega, by rw [List.length_cons]; omega⟩
  ·rw [if_neg c, List.length_cons]
   rcases ih (i + 1) (by omega) with h | h
   ·exact .inl h
   ·exact .inr ⟨by omega, by omega⟩
def skp (at_ : Int) : List S31 → Int → List S31
 | [], _ => []
 | x :: r, i => if i = at_ then skp at_ r (i + 1) else x :: skp at_ r (i + 1)
theorem skp_lt (at_ : Int) (l : List S31) : ∀ i : Int, at_ < i → skp at_ l i = l := by
 induction l with
 | nil => intro i _; rfl
 | cons x r ih => intro i h; rw [skp, if_neg (by omega), ih (i + 1) (by omega)]
theorem skp_at (l : List S31) : ∀ (i : Int) (j : Nat), j < l.length → skp (i + j) l i = delAt l j := by
 induction l with
 | nil => intro i j h; simp at h
 | cons x r ih =>
  intro i j h
  cases j with
  | zero => rw [skp, if_pos (by omega), skp_lt _ _ _ (by omega)]; rfl
  | succ j =>
   have := ih (i + 1) j (by simpa using h)
   rw [skp, if_neg (by omega), show i + ((j + 1 : Nat) : Int) = i + 1 + (j : Int) by omega, this]
   rfl
def fillL (l : List S31) (h : S31) : List S31 := if 0 ≤ hIdx h.f0 h.f1 l 0 then delAt l (hIdx h.f0 h.f1 l 0).toNat ++ [h] else if l.length = 12 then delAt l 0 ++ [h] else l ++ [h]
theorem fillL_len (l : List S31) (h : S31) : (fillL l h).length ≤ l.length + 1 := by
 unfold fillL delAt
 split
 ·rw [List.length_append, List.length_append, List.length_take, List.length_drop]; simp; omega
 ·split
  ·rw [List.length_append, List.length_append, List.length_take, List.length_drop]; simp
  ·rw [List.length_append]; simp
theorem specFill_from (l : List S31) (hl : l.length ≤ 100) (a : Int) (h : S31) (d : Nat) : ∀ (k : Nat) (xs : List S31) (i : Nat), l.length = i + d → xs.length ≤ i → d < k → spec_l5Fill.l0 k l a xs (i : Int) h.f0 h.f1 h.f2 h.f3 = some (xs ++ skp a (l.drop i) (i : Int) ++ [h]) := by
 induction d with
 | zero =>
  intro k xs i hd hx hk
  obtain ⟨k, rfl⟩ : ∃ m, k = m + 1 := ⟨k - 1, by omega⟩
  simp only [spec_l5Fill.l0]
  rw [if_neg (by omega), if_pos (by omega), List.drop_eq_nil_of_le (by omega)]
  simp [skp]
 | succ d ih =>
  intro k xs i hd hx hk
  obtain ⟨k, rfl⟩ : ∃ m, k = m + 1 := ⟨k - 1, by omega⟩
  have hi : i < l.length := by omega
  have p0 : (i : Int) < (l.length : Int) := by omega
  have p1 : (0 : Int) ≤ (i : Int) := by omega
  have p2 : xs.length < 4398046511104 := by omega
  simp only [spec_l5Fill.l0]
  rw [if_pos p0, wsuccH hi (by omega), rdH_at l i hi, List.drop_eq_getElem_cons hi, skp]
  by_cases c : (i : Int) = a
  ·rw [if_pos c, if_pos c, ih k xs (i + 1) (by omega) (by omega) (by omega)]
   rfl
  ·rw [if_neg c, if_neg c, if_pos p1, if_pos p2]
   have := ih k (xs ++ [l[i]]) (i + 1) (by omega) (by rw [List.length_append]; show xs.length + 1 ≤ i + 1; omega) (by omega)
   refine this.trans ?_
   rw [List.append_assoc xs, List.singleton_append]
   rfl
theorem specFill (k : Nat) (l : List S31) (hl : l.length ≤ 12) (h : S31) (hk : 60 < k) : spec_l5Fill.f k l h.f0 h.f1 h.f2 h.f3 = some (fillL l h) := by
 obtain ⟨k, rfl⟩ : ∃ m, k = m + 1 + 1 := ⟨k - 2, by omega⟩
 unfold spec_l5Fill.f fillL
 rw [find_is _ l (by omega) _ _ (by omega), Option.bind_some]
 have run : ∀ a : Int, spec_l5Fill.l0 k l a [] 0 h.f0 h.f1 h.f2 h.f3 = some (skp a l 0 ++ [h]) := fun a => specFill_from l (by omega) a h l.length k [] 0 (by omega) (by simp) (by omega)
 have hb := hIdx_lt h.f0 h.f1 l 0 (by decide)
 generalize hIdx h.f0 h.f1 l 0 = A at *
 by_cases c : A < 0
 ·rw [if_pos c, if_neg (show ¬ 0 ≤ A by omega)]
  by_cases g : l.length = 12
  ·simp only [spec_l5Fill.j0, spec_l5Fill.j1]
   have e := skp_at l 0 0 (by omega)
   rw [show (0 : Int) + ((0 : Nat) : Int) = 0 from rfl] at e
   rw [if_pos (decide_eq_true (by omega)), run, if_pos g, e]
  ·simp only [spec_l5Fill.j0, spec_l5Fill.j1]
   rw [decide_eq_false (by omega), if_neg (by decide), run, if_neg g, skp_lt _ _ _ c]
 ·rw [if_neg c, if_pos (show 0 ≤ A by omega)]
  simp only [spec_l5Fill.j0, spec_l5Fill.j1]
  have e := skp_at l 0 A.toNat (by omega)
  rw [show (0 : Int) + ((A.toNat : Nat) : Int) = A by omega] at e
  rw [if_neg (by decide), run, e]
theorem implClone (l : List S31) (hl : l.length ≤ 1048576) : impl_Hit_45.f l = some l := by
 unfold impl_Hit_45.f
 rw [if_neg (by decide), Option.bind_some, if_pos (by simp; omega), List.nil_append]
theorem implFill (l : List S31) (hl : l.length ≤ 12) (h : S31) : impl_filled.f l h.f0 h.f1 h.f2 h.f3 = some (fillL l h) := by
 unfold impl_filled.f impl_hitAt.f impl_Hit_58.f fillL
 rw [implClone l (by omega), Option.bind_some, Option.bind_some]
 have hb := hIdx_lt h.f0 h.f1 l 0 (by decide)
 generalize hIdx h.f0 h.f1 l 0 = A at *
 by_cases c : A ≥ 0
 ·have w : wrap64 (A + 1) = A + 1 := by unfold wrap64; omega
  have hlen := delAt_length l A.toNat (by omega)
  rw [if_pos c, w, if_pos ⟨c, by omega, rfl⟩, Option.bind_some, if_pos (by omega), if_pos (show 0 ≤ A from c)]
 ·rw [if_neg c, if_neg (show ¬ 0 ≤ A from c)]
  by_cases g : l.length = 12
  ·have hlen := delAt_length l 0 (by omega)
   rw [if_pos (by omega), if_pos ⟨by decide, by omega, rfl⟩, Option.bind_some, show ((0 : Int)).toNat = 0 from rfl, if_pos (by omega), if_pos g]
  ·rw [if_neg (by omega), if_pos (by omega), if_neg g]
def fc (l : List S31) (h : S31) : Int × Int × Bool × List S31 := if cf l = 0 then (if hOk h then (0, 0, false, fillL l h) else (3, 0, false, [])) else (cf l, 0, false, [])
theorem cf_le {l : List S31} (h : cf l = 0) : l.length ≤ 12 := by
 unfold cf at h
 by_cases g : 12 < l.length
 ·rw [if_pos g] at h; exact absurd h (by decide)
 ·omega
theorem fc_len (l : List S31) (h : S31) : (fc l h).2.2.2.length ≤ 13 := by
 unfold fc
 by_cases c : cf l = 0
 ·have := cf_le c
  have := fillL_len l h
  rw [if_pos c]
  split
  ·show (fillL l h).length ≤ 13; omega
  ·simp
 ·rw [if_neg c]; simp
theorem specFC (k : Nat) (l : List S31) (h : S31) (hk : 60 < k) : spec_FillCache.f k l h.f0 h.f1 h.f2 h.f3 = some (fc l h) := by
 unfold spec_FillCache.f fc
 rw [specCF k l (by omega), Option.bind_some]
 by_cases c : cf l = 0
 ·rw [if_pos c, if_pos c, hitOk_spec, Option.bind_some]
  by_cases g : hOk h
  ·rw [decide_eq_true g, if_pos rfl, if_pos g, specFill k l (cf_le c) h hk, Option.bind_some]
  ·rw [decide_eq_false g, if_neg (by decide), if_neg g]
 ·rw [if_neg c, if_neg c]
theorem firstOf_two (k : Nat) (x y : Int) : impl_firstOf.f (k + 3) [x, y] = some (if x = 0 then y else x) := by
 have w0 : wrap64 (0 + 1) = 1 := by unfold wrap64; omega
 have w1 : wrap64 (1 + 1) = 2 := by unfold wrap64; omega
 have r0 : rd [x, y] 0 = x := rfl
 have r1 : rd [x, y] 1 = y := rfl
 have hl : (([x, y] : List Int).length : Int) = 2 := rfl
 unfold impl_firstOf.f
 simp only [impl_firstOf.l0, hl, w0, w1, r0, r1]
 rw [if_pos (show (0 : Int) < 2 by decide), if_pos (show (0 : Int) ≤ 0 by decide), if_pos (show (0 : Int) < 2 by decide)]
 by_cases h : x = 0
 ·rw [if_pos h, if_pos h, if_pos (show (1 : Int) < 2 by decide), if_pos (show (0 : Int) ≤ 1 by decide), if_pos (show (1 : Int) < 2 by decide)]
  by_cases g : y = 0
  ·rw [if_pos g, if_neg (show ¬ (2 : Int) < 2 by decide), g]
  ·rw [if_neg g]
 ·rw [if_neg h, if_neg h]
theorem implFC (k : Nat) (l : List S31) (h : S31) (hk : 60 < k) : impl_FillCache.f k l h.f0 h.f1 h.f2 h.f3 = some (fc l h) := by
 obtain ⟨k, rfl⟩ : ∃ m, k = m + 3 := ⟨k - 3, by omega⟩
 unfold impl_FillCache.f fc
 rw [implCF _ l (by omega), Option.bind_some, hitOk_impl, Option.bind_some, firstOf_two, Option.bind_some]
 by_cases c : cf l = 0
 ·rw [if_pos c, if_pos c]
  by_cases g : hOk h
  ·rw [if_pos g, if_pos rfl, implFill l (cf_le c) h, Option.bind_some, if_pos g]
  ·rw [if_neg g, if_neg (by decide), if_neg g]
 ·rw [if_neg c, if_neg c, if_neg c]
def keepT (tag : Int) (x : S31) : Bool := !flB tag x
def flc (l : List S31) (tag : Int) : Int × Int × Bool × List S31 := if cf l = 0 then (if 0 ≤ tag ∧ tag ≤ 9 then (0, 0, false, l.filter (keepT tag)) else (3, 0, false, [])) else (cf l, 0, false, [])
theorem flc_len (l : List S31) (tag : Int) : (flc l tag).2.2.2.length ≤ 12 := by
 unfold flc
 by_cases c : cf l = 0
 ·have := cf_le c
  have := List.length_filter_le (keepT tag) l
  rw [if_pos c]
  split
  ·show (l.filter (keepT tag)).length ≤ 12; omega
  ·simp
 ·rw [if_neg c]; simp
theorem implFlush (k : Nat) (l : List S31) (tag : Int) (hk : 60 < k) : impl_FlushCache.f k l tag = some (flc l tag) := by
 unfold impl_FlushCache.f flc
 rw [implCF k l (by omega), Option.bind_some]
 by_cases c : cf l = 0
 ·rw [if_pos c, if_pos c, within_eq, Option.bind_some]
  by_cases g : 0 ≤ tag ∧ tag ≤ 9
  ·rw [decide_eq_true g, if_pos rfl, if_pos g, implClone l (by have := cf_le c; omega), Option.bind_some]
   rfl
  ·rw [decide_eq_false g, if_neg (by decide), if_neg g]
 ·rw [if_neg c, if_neg c]
def fh (l : List S31) (t p : Int) : Int × Int := if cf l = 0 then (if hIdx t p l 0 < 0 then (4, 0) else (0, hIdx t p l 0)) else (cf l, 0)
theorem implFH (k : Nat) (l : List S31) (t p : Int) (hk : 40 < k) : impl_FindHit.f k l t p = some (fh l t p) := by
 unfold impl_FindHit.f fh impl_hitAt.f
 rw [implCF k l hk, Option.bind_some]
 by_cases h : cf l = 0
 ·rw [if_pos h, if_pos h, Option.bind_some]
  by_cases g : hIdx t p l 0 < 0
  ·rw [if_pos g, if_pos g]
  ·rw [if_neg g, if_neg g]
 ·rw [if_neg h, if_neg h]
theorem l1Chance_some {s : List Int} (hs : Src s) (a n : Int) (h0 : 0 ≤ a) (h1 : a ≤ 1000000) : ∃ b, spec_l1Chance.f s a n = some (b, a + 1) := by
 obtain ⟨v, e, _⟩ := l1Next_some hs a n h0 h1
 refine ⟨v == 0, ?_⟩
 unfold spec_l1Chance.f
 rw [e, Option.bind_some]
theorem l4Pages_from {s : List Int} (hs : Src s) (top : Int) (d : Nat) : ∀ (k : Nat) (xs : List S69) (i : Nat) (a : Int), xs.length = i → 8 = i + d → d < k → 0 ≤ a → a + 3 * d ≤ 900000 →
  ∃ m b, spec_l4Pages.l0 k top xs (i : Int) s a = some (m, b) ∧ m.length = 8 ∧ 0 ≤ b ∧ b ≤ a + 3 * d := by
 induction d with
 | zero =>
  intro k xs i a hx hd hk h0 ha
  obtain ⟨k, rfl⟩ : ∃ m, k = m + 1 := ⟨k - 1, by omega⟩
  simp only [spec_l4Pages.l0]
  rw [if_neg (by omega)]
  exact ⟨_, _, rfl, by omega, by omega, by omega⟩
 | succ d ih =>
  intro k xs i a hx hd hk h0 ha
  obtain ⟨k, rfl⟩ : ∃ m, k = m + 1 := ⟨k - 1, by omega⟩
  obtain ⟨v, e1, _⟩ := l1Next_some hs a top h0 (by omega)
  obtain ⟨u, e2, _⟩ := l1Pick_some hs (a + 1) (by omega) (by omega) [7, 3, 1, 5, 2, 4] (by simp)
  obtain ⟨c, e3⟩ := l1Chance_some hs (a + 1 + 1) 4 (by omega) (by omega)
  have hlen : xs.length < 8796093022208 := by omega
  simp only [spec_l4Pages.l0]
  rw [if_pos (by omega), e1, Option.bind_some]
  dsimp only
  rw [e2, Option.bind_some]
  dsimp only
  rw [e3, Option.bind_some]
  dsimp only
  have hw : wrap64 ((i : Int) + 1) = ((i + 1 : Nat) : Int) := by unfold wrap64; omega
  cases c with
  | true =>
   rw [if_pos rfl]
   unfold spec_l4None.f
   rw [Option.bind_some, if_pos hlen, hw]
   obtain ⟨m, b, q1, q2, q3, q4⟩ := ih k (xs ++ [⟨-1, 0⟩]) (i + 1) (a + 1 + 1 + 1) (by rw [List.length_append, hx]; rfl) (by omega) (by omega) (by omega) (by omega)
   exact ⟨m, b, q1, q2, q3, by omega⟩
  | false =>
   rw [if_neg (by decide), if_pos hlen, hw]
   obtain ⟨m, b, q1, q2, q3, q4⟩ := ih k (xs ++ [⟨v, u⟩]) (i + 1) (a + 1 + 1 + 1) (by rw [List.length_append, hx]; rfl) (by omega) (by omega) (by omega) (by omega)
   exact ⟨m, b, q1, q2, q3, by omega⟩
theorem fillL_len12 (l : List S31) (h : S31) (hl : l.length ≤ 12) : (fillL l h).length ≤ 12 ∧ l.length ≤ (fillL l h).length := by
 unfold fillL
 have hb := hIdx_lt h.f0 h.f1 l 0 (by decide)
 by_cases c : 0 ≤ hIdx h.f0 h.f1 l 0
 ·have := delAt_length l (hIdx h.f0 h.f1 l 0).toNat (by omega)
  rw [if_pos c, List.length_append, this]
  show l.length - 1 + 1 ≤ 12 ∧ l.length ≤ l.length - 1 + 1
  omega
 ·rw [if_neg c]
  by_cases g : l.length = 12
  ·have := delAt_length l 0 (by omega)
   rw [if_pos g, List.length_append, this]
   show l.length - 1 + 1 ≤ 12 ∧ l.length ≤ l.length - 1 + 1
   omega
  ·rw [if_neg g, List.length_append]
   show l.length + 1 ≤ 12 ∧ l.length ≤ l.length + 1
   omega
theorem l5_from {s : List Int} (hs : Src s) (pg : List S69) (hpg : pg.length = 8) (d : Nat) : ∀ (k : Nat) (xs : List S31) (n a : Int), xs.length ≤ 12 → n ≤ d → d + 100 < k → 0 ≤ a → a + 6 * d ≤ 900000 →
  ∃ m b, spec_l5Cache.l0 k pg xs n s a = some (m, b) ∧ m.length ≤ 13 ∧ 0 ≤ b ∧ b ≤ a + 6 * d + 10 := by
 induction d with
 | zero =>
  intro k xs n a hx hn hk h0 ha
  obtain ⟨k, rfl⟩ : ∃ m, k = m + 1 := ⟨k - 1, by omega⟩
  simp only [spec_l5Cache.l0]
  rw [if_neg (by omega)]
  by_cases c : (xs.length : Int) = 0
  ·rw [if_pos c]
   exact ⟨_, _, rfl, by omega, by omega, by omega⟩
  ·obtain ⟨v, e1, _⟩ := l1Next_some hs a 24 h0 (by omega)
   obtain ⟨u, e2, _⟩ := l1Pick_some hs (a + 1) (by omega) (by omega) [-1, 10] (by simp)
   obtain ⟨y, e3, _⟩ := l1Pick_some hs (a + 1) (by omega) (by omega) [0, 8] (by simp)
   rw [if_neg c, e1, Option.bind_some]
   dsimp only
   by_cases c0 : v = 0
   ·rw [if_pos c0, e2, Option.bind_some, if_pos (by omega)]
    exact ⟨_, _, rfl, by rw [List.length_set]; omega, by show 0 ≤ a + 1 + 1; omega, by show a + 1 + 1 ≤ _; omega⟩
   ·rw [if_neg c0]
    by_cases c1 : v = 1
    ·rw [if_pos c1, e3, Option.bind_some, if_pos (by omega)]
     exact ⟨_, _, rfl, by rw [List.length_set]; omega, by show 0 ≤ a + 1 + 1; omega, by show a + 1 + 1 ≤ _; omega⟩
    ·rw [if_neg c1]
     by_cases c2 : v = 2
     ·rw [if_pos c2, if_pos (by omega), if_pos (by omega)]
      exact ⟨_, _, rfl, by rw [List.length_append]; show xs.length + 1 ≤ 13; omega, by omega, by omega⟩
     ·rw [if_neg c2]
      by_cases c3 : v = 3
      ·rw [if_pos c3, if_pos (by decide)]
       exact ⟨_, _, rfl, by rw [List.length_replicate]; decide, by omega, by omega⟩
      ·rw [if_neg c3]
       exact ⟨_, _, rfl, by omega, by omega, by omega⟩
 | succ d ih =>
  intro k xs n a hx hn hk h0 ha
  by_cases hz : n > 0
  ·obtain ⟨k, rfl⟩ : ∃ m, k = m + 1 := ⟨k - 1, by omega⟩
   obtain ⟨v1, e1, _⟩ := l1Next_some hs a 3 h0 (by omega)
   obtain ⟨v2, e2, p0, p1, _⟩ := l1Next_some hs (a + 1) 8 (by omega) (by omega)
   obtain ⟨v3, e3, _⟩ := l1Next_some hs (a + 1 + 1) 24 (by omega) (by omega)
   obtain ⟨v4, e4, _⟩ := l1Next_some hs (a + 1 + 1 + 1) 7 (by omega) (by omega)
   have p1 := p1 (by omega)
   obtain ⟨c, e5⟩ := l1Chance_some hs (a + 1 + 1 + 1 + 1) 6 (by omega) (by omega)
   have hfill : ∀ p q : Int, ∃ ys, spec_l5Fill.f k xs v1 v2 p q = some ys ∧ ys.length ≤ 12 := fun p q =>
    ⟨_, specFill k xs hx ⟨v1, v2, p, q⟩ (by omega), (fillL_len12 xs ⟨v1, v2, p, q⟩ hx).1⟩
   have next : ∀ (ys : List S31) (b : Int), ys.length ≤ 12 → a ≤ b → b ≤ a + 6 → ∃ m b', spec_l5Cache.l0 k pg ys (wrap64 (n - 1)) s b = some (m, b') ∧ m.length ≤ 13 ∧ 0 ≤ b' ∧ b' ≤ a + 6 * ((d + 1 : Nat) : Int) + 10 := by
    intro ys b hy hb0 hb1
    have hw : wrap64 (n - 1) = n - 1 := by unfold wrap64; omega
    obtain ⟨m, b', q1, q2, q3, q4⟩ := ih k ys (n - 1) b hy (by omega) (by omega) (by omega) (by omega)
    rw [hw]
    exact ⟨m, b', q1, q2, q3, by omega⟩
   simp only [spec_l5Cache.l0]
   rw [if_pos hz, e1, Option.bind_some]
   dsimp only
   rw [e2, Option.bind_some]
   dsimp only
   rw [e3, Option.bind_some]
   dsimp only
   rw [e4, Option.bind_some]
   dsimp only
   rw [if_pos (by omega), if_pos p0, if_pos (by omega)]
   have eh := hitOk_spec ⟨0, 0, (rd_T69 pg v2).f0, (rd_T69 pg v2).f1⟩
   dsimp only at eh
   rw [eh, Option.bind_some]
   by_cases g : decide (hOk ⟨0, 0, (rd_T69 pg v2).f0, (rd_T69 pg v2).f1⟩) = true
   ·rw [if_pos g, e5, Option.bind_some]
    dsimp only
    cases c with
    | true =>
     obtain ⟨ys, f1, f2⟩ := hfill v3 (wrap64 (1 + v4))
     rw [if_pos rfl, f1, Option.bind_some]
     exact next ys _ f2 (by omega) (by omega)
    | false =>
     obtain ⟨ys, f1, f2⟩ := hfill (rd_T69 pg v2).f0 (rd_T69 pg v2).f1
     rw [if_neg (by decide), f1, Option.bind_some]
     exact next ys _ f2 (by omega) (by omega)
   ·obtain ⟨ys, f1, f2⟩ := hfill v3 (wrap64 (1 + v4))
    rw [if_neg g, f1, Option.bind_some]
    exact next ys _ f2 (by omega) (by omega)
  ·obtain ⟨m, b, q1, q2, q3, q4⟩ := ih k xs n a hx (by omega) (by omega) h0 (by omega)
   exact ⟨m, b, q1, q2, q3, by omega⟩
theorem drawFC_some {s : List Int} (hs : Src s) (k : Nat) (hk : 200 < k) : ∃ m a b c d, spec_DrawFillCache.f k s = some (m, a, b, c, d) ∧ m.length ≤ 13 := by
 obtain ⟨pg, b1, e1, hpg, p0, p1⟩ := l4Pages_from hs 24 8 k [] 0 0 rfl rfl (by omega) (by omega) (by omega)
 obtain ⟨u1, e2, _, q1, _⟩ := l1Next_some hs b1 6 p0 (by omega)
 obtain ⟨u2, e3, _, q2, _⟩ := l1Next_some hs (b1 + 1) 6 (by omega) (by omega)
 obtain ⟨u3, e4, hm⟩ := l1Pick_some hs (b1 + 1 + 1) (by omega) (by omega) [u1, u2, 14] (by simp)
 have hu3 : u3 ≤ 14 := by
  have := q1 (by omega)
  have := q2 (by omega)
  simp at hm
  omega
 obtain ⟨m, b2, e5, hl, r0, r1⟩ := l5_from hs pg hpg 14 k [] u3 (b1 + 1 + 1 + 1) (by simp) (by omega) (by omega) (by omega) (by omega)
 obtain ⟨w1, e6, _⟩ := l1Pick_some hs b2 r0 (by omega) [0, 1, 2, 9, 10] (by simp)
 obtain ⟨w2, e7, _⟩ := l1Next_some hs (b2 + 1) 9 (by omega) (by omega)
 obtain ⟨w3, e8, _⟩ := l1Next_some hs (b2 + 1 + 1) 25 (by omega) (by omega)
 obtain ⟨w4, e9, _⟩ := l1Next_some hs (b2 + 1 + 1 + 1) 9 (by omega) (by omega)
 have e1' : spec_l4Pages.f k s 0 24 = some (pg, b1) := e1
 refine ⟨m, w1, w2, w3, w4, ?_, hl⟩
 unfold spec_DrawFillCache.f spec_l1Source.f spec_l5Cache.f
 rw [Option.bind_some]
 dsimp only
 rw [e1', Option.bind_some]
 dsimp only
 rw [e2, Option.bind_some]
 dsimp only
 rw [e3, Option.bind_some]
 dsimp only
 rw [e4, Option.bind_some]
 dsimp only
 rw [e5, Option.bind_some]
 dsimp only
 rw [e6, Option.bind_some]
 dsimp only
 rw [e7, Option.bind_some]
 dsimp only
 rw [e8, Option.bind_some]
 dsimp only
 rw [e9, Option.bind_some]
def kq (t p : Int) (x : S31) : Prop := x.f0 = t ∧ x.f1 = p
theorem hAt_iff (t p : Int) (x : S31) : hAt t p x = true ↔ kq t p x := by
 unfold hAt kq
 rw [Bool.and_eq_true, beq_iff_eq, beq_iff_eq]
theorem hIdx_none (t p : Int) (l : List S31) : ∀ i : Int, 0 ≤ i → (hIdx t p l i < 0 ↔ ∀ x ∈ l, ¬ kq t p x) := by
 induction l with
 | nil => intro i _; exact ⟨fun _ x hx => by simp at hx, fun _ => by unfold hIdx; decide⟩
 | cons x r ih =>
  intro i hi
  unfold hIdx
  by_cases c : hAt t p x = true
  ·rw [if_pos c]
   exact ⟨fun h => by omega, fun h => absurd ((hAt_iff t p x).mp c) (h x (List.mem_cons_self ..))⟩
  ·rw [if_neg c, ih (i + 1) (by omega)]
   exact ⟨fun h y hy => by
    rcases List.mem_cons.mp hy with e | e
    ·rw [e]; exact fun g => c ((hAt_iff t p x).mpr g)
    ·exact h y e, fun h y hy => h y (List.mem_cons_of_mem _ hy)⟩
theorem hIdx_get (t p : Int) (l : List S31) : ∀ i : Int, 0 ≤ i → 0 ≤ hIdx t p l i → ∃ (n : Nat) (x : S31), hIdx t p l i = i + (n : Int) ∧ l[n]? = some x ∧ kq t p x := by
 induction l with
 | nil => intro i _ h; unfold hIdx at h; exact absurd h (by decide)
 | cons x r ih =>
  intro i hi h
  unfold hIdx at h ⊢
  by_cases c : hAt t p x = true
  ·rw [if_pos c]
   exact ⟨0, x, by simp, rfl, (hAt_iff t p x).mp c⟩
  ·rw [if_neg c] at h ⊢
   obtain ⟨n, y, h1, h2, h3⟩ := ih (i + 1) (by omega) h
   exact ⟨n + 1, y, by rw [h1]; omega, h2, h3⟩
/-- A right cache. -/
def okC (l : List S31) : Prop := l.length ≤ 12 ∧ (∀ x ∈ l, hOk x) ∧ l.Pairwise (fun x y => ¬ kq x.f0 x.f1 y)
theorem cfl_ok (l : List S31) : ∀ pre : List S31, cfl pre l = 0 ↔ (∀ x ∈ l, hOk x) ∧ (∀ x ∈ l, ∀ y ∈ pre, ¬ kq x.f0 x.f1 y) ∧ l.Pairwise (fun x y => ¬ kq y.f0 y.f1 x) := by
 induction l with
 | nil => intro pre; exact ⟨fun _ => ⟨fun x hx => by simp at hx, fun x hx => by simp at hx, List.Pairwise.nil⟩, fun _ => rfl⟩
 | cons x r ih =>
  intro pre
  have hn := hIdx_none x.f0 x.f1 pre 0 (by decide)
  unfold cfl
  by_cases c : hOk x
  ·rw [if_pos c]
   by_cases g : hIdx x.f0 x.f1 pre 0 ≥ 0
   ·rw [if_pos g]
    exact ⟨fun h => absurd h (by decide), fun h => absurd (hn.mpr (fun y hy => h.2.1 x (List.mem_cons_self ..) y hy)) (by omega)⟩
   ·have hp := hn.mp (by omega)
    rw [if_neg g, ih (pre ++ [x])]
    constructor
    ·rintro ⟨h1, h2, h3⟩
     refine ⟨fun y hy => ?_, fun y hy z hz => ?_, List.pairwise_cons.mpr ⟨fun y hy => h2 y hy x (by simp), h3⟩⟩
     ·rcases List.mem_cons.mp hy with e | e
      ·rw [e]; exact c
      ·exact h1 y e
     ·rcases List.mem_cons.mp hy with e | e
      ·rw [e]; exact hp z hz
      ·exact h2 y e z (List.mem_append_left _ hz)
    ·rintro ⟨h1, h2, h3⟩
     obtain ⟨h4, h5⟩ := List.pairwise_cons.mp h3
     refine ⟨fun y hy => h1 y (List.mem_cons_of_mem _ hy), fun y hy z hz => ?_, h5⟩
     rcases List.mem_append.mp hz with e | e
     ·exact h2 y (List.mem_cons_of_mem _ hy) z e
     ·rw [List.mem_singleton.mp e]; exact h4 y hy
  ·rw [if_neg c]
   exact ⟨fun h => absurd h (by decide), fun h => absurd (h.1 x (List.mem_cons_self ..)) c⟩
theorem kq_comm (x y : S31) : kq x.f0 x.f1 y ↔ kq y.f0 y.f1 x := ⟨fun h => ⟨h.1.symm, h.2.symm⟩, fun h => ⟨h.1.symm, h.2.symm⟩⟩
theorem cf_ok (l : List S31) : cf l = 0 ↔ okC l := by
 unfold cf okC
 by_cases h : 12 < l.length
 ·rw [if_pos h]
  exact ⟨fun g => absurd g (by decide), fun g => by omega⟩
 ·rw [if_neg h, cfl_ok l []]
  constructor
  ·rintro ⟨h1, _, h3⟩
   exact ⟨by omega, h1, h3.imp (fun {a b} g => fun q => g ((kq_comm a b).mp q))⟩
  ·rintro ⟨_, h1, h3⟩
   exact ⟨h1, fun x _ y hy => by simp at hy, h3.imp (fun {a b} g => fun q => g ((kq_comm a b).mpr q))⟩
theorem okC_sub {l m : List S31} (h : okC l) (hs : m.Sublist l) : okC m := ⟨Nat.le_trans hs.length_le h.1, fun x hx => h.2.1 x (hs.subset hx), h.2.2.sublist hs⟩
theorem okC_uniq {l : List S31} (h : okC l) {x y : S31} (hx : x ∈ l) (hy : y ∈ l) (hk : kq x.f0 x.f1 y) : x = y := by
 by_cases e : x = y
 ·exact e
 ·exfalso
  obtain ⟨i, hi, rfl⟩ := List.mem_iff_getElem.mp hx
  obtain ⟨j, hj, rfl⟩ := List.mem_iff_getElem.mp hy
  have hp := List.pairwise_iff_getElem.mp h.2.2
  rcases Nat.lt_trichotomy i j with g | g | g
  ·exact hp i j hi hj g hk
  ·subst g; exact e rfl
  ·exact hp j i hj hi g ((kq_comm _ _).mp hk)
theorem delAt_sub {α : Type} (l : List α) (i : Nat) : (delAt l i).Sublist l := by
 unfold delAt
 have : (l.take i ++ l.drop (i + 1)).Sublist (l.take i ++ l.drop i) := List.Sublist.append (List.Sublist.refl _) (by rw [← List.drop_drop]; exact List.drop_sublist 1 _)
 rwa [List.take_append_drop] at this
/-- A right cache, filled: its front is of the elder one, without the hit's tag and page; at most one is gone, and that of a full one. -/
theorem fill_split (l : List S31) (h : S31) (hl : okC l) : ∃ b : List S31, fillL l h = b ++ [h] ∧ b.Sublist l ∧ (∀ x ∈ b, ¬ kq h.f0 h.f1 x) ∧ b.length ≤ 11 ∧
  ((∀ x ∈ l, kq h.f0 h.f1 x ∨ x ∈ b) ∨ (l.length = 12 ∧ ∃ y t, l = y :: t ∧ ∀ x ∈ t, x ∈ b)) := by
 have hn := hIdx_none h.f0 h.f1 l 0 (by decide)
 unfold fillL
 by_cases c : 0 ≤ hIdx h.f0 h.f1 l 0
 ·obtain ⟨n, x, h1, h2, h3⟩ := hIdx_get h.f0 h.f1 l 0 (by decide) c
  obtain ⟨hnl, hx⟩ := List.getElem?_eq_some_iff.1 h2
  have e : (hIdx h.f0 h.f1 l 0).toNat = n := by omega
  have hlen := delAt_length l n hnl
  have mem : ∀ y ∈ l, y = x ∨ y ∈ delAt l n := by
   intro y hy
   obtain ⟨j, hj, rfl⟩ := List.mem_iff_getElem.mp hy
   rcases Nat.lt_trichotomy j n with g | g | g
   ·right
    refine List.mem_iff_getElem?.mpr ⟨j, ?_⟩
    rw [delAt_get l n hnl, if_pos g, List.getElem?_eq_getElem hj]
   ·subst g; exact .inl hx
   ·right
    refine List.mem_iff_getElem?.mpr ⟨j - 1, ?_⟩
    rw [delAt_get l n hnl, if_neg (by omega), show j - 1 + 1 = j by omega, List.getElem?_eq_getElem hj]
  rw [if_pos c, e]
  refine ⟨delAt l n, rfl, delAt_sub l n, fun y hy hk => ?_, by have := hl.1; omega, .inl fun y hy => ?_⟩
  ·obtain ⟨j, hj, hjy⟩ := List.mem_iff_getElem.mp hy
   have hg := delAt_get l n hnl j
   rw [List.getElem?_eq_getElem hj, hjy] at hg
   have hp := List.pairwise_iff_getElem.mp hl.2.2
   by_cases g : j < n
   ·rw [if_pos g, List.getElem?_eq_getElem (by omega)] at hg
    injection hg with hg
    refine hp j n (by omega) hnl g ?_
    rw [← hg, hx]
    exact ⟨h3.1.trans hk.1.symm, h3.2.trans hk.2.symm⟩
   ·have hj2 : j + 1 < l.length := by omega
    rw [if_neg g, List.getElem?_eq_getElem hj2] at hg
    injection hg with hg
    refine hp n (j + 1) hnl hj2 (by omega) ?_
    rw [← hg, hx]
    exact ⟨hk.1.trans h3.1.symm, hk.2.trans h3.2.symm⟩
  ·rcases mem y hy with g | g
   ·rw [g]; exact .inl h3
   ·exact .inr g
 ·have hno := hn.mp (by omega)
  rw [if_neg c]
  by_cases g : l.length = 12
  ·rw [if_pos g]
   cases l with
   | nil => simp at g
   | cons y t =>
    have e : delAt (y :: t) 0 = t := rfl
    rw [e]
    exact ⟨t, rfl, List.sublist_cons_self y t, fun x hx => hno x (List.mem_cons_of_mem _ hx), by simp at g; omega, .inr ⟨g, y, t, rfl, fun x hx => hx⟩⟩
  ·rw [if_neg g]
   exact ⟨l, rfl, List.Sublist.refl l, hno, by have := hl.1; omega, .inl fun x hx => .inr hx⟩
theorem fill_okC (l b : List S31) (h : S31) (hl : okC l) (hh : hOk h) (hb : b.Sublist l) (hn : ∀ x ∈ b, ¬ kq h.f0 h.f1 x) (hlen : b.length ≤ 11) : okC (b ++ [h]) := by
 obtain ⟨h1, h2, h3⟩ := okC_sub hl hb
 refine ⟨by rw [List.length_append]; show b.length + 1 ≤ 12; omega, fun x hx => ?_, List.pairwise_append.mpr ⟨h3, List.pairwise_singleton _ _, fun x hx y hy => ?_⟩⟩
 ·rcases List.mem_append.mp hx with e | e
  ·exact h2 x e
  ·rw [List.mem_singleton.mp e]; exact hh
 ·rw [List.mem_singleton.mp hy]
  exact fun g => hn x hx ((kq_comm _ _).mp g)
theorem find_in {r : List S31} (hr : okC r) {x : S31} (hx : x ∈ r) : ∃ n : Nat, fh r x.f0 x.f1 = (0, (n : Int)) ∧ n < r.length ∧ rd_T31 r (n : Int) = x := by
 have hn := hIdx_none x.f0 x.f1 r 0 (by decide)
 have hge : 0 ≤ hIdx x.f0 x.f1 r 0 := by
  rcases Int.lt_or_le (hIdx x.f0 x.f1 r 0) 0 with g | g
  ·exact absurd ⟨rfl, rfl⟩ (hn.mp g x hx)
  ·exact g
 obtain ⟨n, y, h1, h2, h3⟩ := hIdx_get x.f0 x.f1 r 0 (by decide) hge
 obtain ⟨hnl, hy⟩ := List.getElem?_eq_some_iff.1 h2
 have e : x = y := okC_uniq hr hx (by rw [← hy]; exact List.getElem_mem hnl) h3
 refine ⟨n, ?_, hnl, by rw [rdH_at r n hnl, hy, e]⟩
 unfold fh
 rw [if_pos ((cf_ok r).mpr hr), if_neg (by omega)]
 exact Prod.ext rfl (by show hIdx x.f0 x.f1 r 0 = (n : Int); omega)
theorem find_out {r : List S31} (hr : okC r) (t p : Int) (hx : ∀ x ∈ r, ¬ kq t p x) : fh r t p = (4, 0) := by
 have hn := (hIdx_none t p r 0 (by decide)).mpr hx
 unfold fh
 rw [if_pos ((cf_ok r).mpr hr), if_pos hn]
def gone (r : List S31) (t p : Int) : List S31 → Nat
 | [] => 0
 | x :: l => (if hAt t p x = true then 0 else if (fh r x.f0 x.f1).1 = 0 then 0 else 1) + gone r t p l
def fin (n : Nat) (len : Nat) : Option Bool := if (n : Int) ≤ 1 then (if (n : Int) = 0 then some true else some ((len : Int) == 12)) else some false
theorem loop_is (l r : List S31) (hl : l.length ≤ 100) (h : S31) (c v : Int) (b : Bool) (hr : ∀ x ∈ l, ¬ kq h.f0 h.f1 x → (fh r x.f0 x.f1).1 = 0 → 0 ≤ (fh r x.f0 x.f1).2 ∧ (fh r x.f0 x.f1).2 < (r.length : Int) ∧ rd_T31 r (fh r x.f0 x.f1).2 = x) (d : Nat) : ∀ (k i n : Nat), l.length = i + d → n ≤ i → 2 * d + 100 < k →
  laws_FnFills.l0 k l (n : Int) (i : Int) h.f0 h.f1 h.f2 h.f3 c v b r = fin (n + gone r h.f0 h.f1 (l.drop i)) l.length := by
 induction d with
 | zero =>
  intro k i n hd hn hk
  obtain ⟨k, rfl⟩ : ∃ m, k = m + 1 := ⟨k - 1, by omega⟩
  simp only [laws_FnFills.l0]
  rw [if_neg (by omega), List.drop_eq_nil_of_le (by omega)]
  rfl
 | succ d ih =>
  intro k i n hd hn hk
  obtain ⟨k, rfl⟩ : ∃ m, k = m + 1 + 1 := ⟨k - 2, by omega⟩
  have hi : i < l.length := by omega
  have p0 : (i : Int) < (l.length : Int) := by omega
  have p1 : (0 : Int) ≤ (i : Int) := by omega
  have hw : wrap64 ((i : Int) + 1) = ((i + 1 : Nat) : Int) := by unfold wrap64; omega
  have hwn : wrap64 ((n : Int) + 1) = ((n + 1 : Nat) : Int) := by unfold wrap64; omega
  have nx := ih k (i + 1) n (by omega) (by omega) (by omega)
  have ny := ih k (i + 1) (n + 1) (by omega) (by omega) (by omega)
  have hx := hr l[i] (List.getElem_mem hi)
  rw [List.drop_eq_getElem_cons hi, gone]
  simp only [laws_FnFills.l0]
  rw [if_pos p0, if_pos p1, rdH_at l i hi]
  have join : ∀ q : Bool, q = hAt h.f0 h.f1 l[i] → laws_FnFills.j2 (k + 1) l (n : Int) (i : Int) q h.f0 h.f1 h.f2 h.f3 c v b r = fin (n + ((if hAt h.f0 h.f1 l[i] = true then 0 else if (fh r l[i].f0 l[i].f1).1 = 0 then 0 else 1) + gone r h.f0 h.f1 (l.drop (i + 1)))) l.length := by
   intro q hq
   rw [← hq]
   simp only [laws_FnFills.j2]
   rw [rdH_at l i hi, hw, hwn]
   cases q with
   | true => rw [if_pos rfl, if_pos rfl, Nat.zero_add]; exact nx
   | false =>
    rw [if_neg (show ¬ (false = true) by decide), if_neg (show ¬ (false = true) by decide), if_pos p1, if_pos p0, implFH k r _ _ (by omega), Option.bind_some]
    by_cases g : (fh r l[i].f0 l[i].f1).1 = 0
    ·obtain ⟨x1, x2, x3⟩ := hx (fun z => by have := (hAt_iff h.f0 h.f1 l[i]).mpr z; rw [← hq] at this; exact absurd this (by decide)) g
     rw [if_pos g, if_pos g, if_pos x1, if_pos x2, x3, if_neg (by simp), Nat.zero_add]
     exact nx
    ·rw [if_neg g, if_neg g, ← Nat.add_assoc]
     exact ny
  by_cases c1 : l[i].f0 = h.f0
  ·rw [if_pos c1]
   exact join _ (by unfold hAt; rw [c1, beq_self_eq_true, Bool.true_and])
  ·rw [if_neg c1]
   exact join _ (by unfold hAt; rw [beq_eq_false_iff_ne.mpr c1, Bool.false_and])
theorem gone_zero (r : List S31) (t p : Int) (l : List S31) (h : ∀ x ∈ l, kq t p x ∨ (fh r x.f0 x.f1).1 = 0) : gone r t p l = 0 := by
 induction l with
 | nil => rfl
 | cons x l ih =>
  rw [gone, ih (fun y hy => h y (List.mem_cons_of_mem _ hy))]
  rcases h x (List.mem_cons_self ..) with g | g
  ·rw [if_pos ((hAt_iff t p x).mpr g)]
  ·rw [if_pos g]
   split <;> rfl
theorem fin_ok (n len : Nat) (h : n = 0 ∨ (n ≤ 1 ∧ len = 12)) : fin n len = some true := by
 unfold fin
 rw [if_pos (by omega)]
 by_cases c : (n : Int) = 0
 ·rw [if_pos c]
 ·have e : len = 12 := by omega
  rw [if_neg c, e]
  rfl
theorem FnFills : laws_FnFills.Pure := by
 intro s hm hr hw
 refine ⟨1000 + 1, ?_⟩
 unfold laws_FnFills.f laws_lwBig.f
 rw [Option.bind_some]
 by_cases hb : (s.length : Int) > 1048576
 ·rw [if_pos (by simpa using hb)]
 rw [if_neg (by simpa using hb)]
 have hs : Src s := src_of (by omega) hw
 obtain ⟨l, t, p, o, q, e, hlen⟩ := drawFC_some hs (1000 + 1) (by omega)
 rw [e, Option.bind_some]
 dsimp only
 have f1 := implFC (1000 + 1) l ⟨t, p, o, q⟩ (by omega)
 have f2 := specFC (1000 + 1) l ⟨t, p, o, q⟩ (by omega)
 dsimp only at f1 f2
 rw [f1, Option.bind_some]
 by_cases c : (fc l ⟨t, p, o, q⟩).1 = 0
 ·have hcl : cf l = 0 := by
   unfold fc at c
   by_cases g : cf l = 0
   ·exact g
   ·rw [if_neg g] at c; exact c
  have hok : hOk ⟨t, p, o, q⟩ := by
   unfold fc at c
   rw [if_pos hcl] at c
   by_cases g : hOk ⟨t, p, o, q⟩
   ·exact g
   ·rw [if_neg g] at c; exact absurd c (by decide)
  have hl := (cf_ok l).mp hcl
  obtain ⟨b, hb1, hb2, hb3, hb4, hb5⟩ := fill_split l ⟨t, p, o, q⟩ hl
  have ev : fc l ⟨t, p, o, q⟩ = (0, 0, false, b ++ [⟨t, p, o, q⟩]) := by unfold fc; rw [if_pos hcl, if_pos hok, hb1]
  have hor := fill_okC l b ⟨t, p, o, q⟩ hl hok hb2 hb3 hb4
  have hmem : (⟨t, p, o, q⟩ : S31) ∈ b ++ [⟨t, p, o, q⟩] := by simp
  have hge := (fillL_len12 l ⟨t, p, o, q⟩ hl.1).2
  rw [hb1] at hge
  obtain ⟨n, a1, a2, a3⟩ := find_in hor hmem
  dsimp only at a1
  have hall : ∀ x ∈ l, x ∉ b ++ [⟨t, p, o, q⟩] → ¬ kq t p x → ∀ y ∈ b ++ [(⟨t, p, o, q⟩ : S31)], ¬ kq x.f0 x.f1 y := by
   intro x hx hxn hxk y hy hk
   rcases List.mem_append.mp hy with g | g
   ·exact hxn (by rw [okC_uniq hl hx (hb2.subset g) hk]; exact hy)
   ·rw [List.mem_singleton.mp g] at hk
    exact hxk ⟨hk.1.symm, hk.2.symm⟩
  have hin : ∀ x ∈ b ++ [(⟨t, p, o, q⟩ : S31)], 0 ≤ (fh (b ++ [⟨t, p, o, q⟩]) x.f0 x.f1).2 ∧ (fh (b ++ [⟨t, p, o, q⟩]) x.f0 x.f1).2 < ((b ++ [(⟨t, p, o, q⟩ : S31)]).length : Int) ∧ rd_T31 (b ++ [⟨t, p, o, q⟩]) (fh (b ++ [⟨t, p, o, q⟩]) x.f0 x.f1).2 = x ∧ (fh (b ++ [⟨t, p, o, q⟩]) x.f0 x.f1).1 = 0 := by
   intro x hx
   obtain ⟨m, z1, z2, z3⟩ := find_in hor hx
   rw [z1]
   exact ⟨by show (0 : Int) ≤ (m : Int); omega, by show (m : Int) < _; omega, z3, rfl⟩
  have hloop := loop_is l (b ++ [⟨t, p, o, q⟩]) (by omega) ⟨t, p, o, q⟩ 0 0 false (fun x hx g2 hz => by
   by_cases g : x ∈ b ++ [(⟨t, p, o, q⟩ : S31)]
   ·exact ⟨(hin x g).1, (hin x g).2.1, (hin x g).2.2.1⟩
   ·rw [find_out hor _ _ (hall x hx g g2)] at hz
    exact absurd hz (by decide)) l.length 1000 0 0 (by omega) (by omega) (by omega)
  have hgone : fin (0 + gone (b ++ [⟨t, p, o, q⟩]) t p (l.drop 0)) l.length = some true := by
   rw [Nat.zero_add, List.drop_zero]
   refine fin_ok _ _ ?_
   rcases hb5 with g | ⟨g1, y, ys, g2, g3⟩
   ·refine .inl (gone_zero _ t p l fun x hx => ?_)
    rcases g x hx with g | g
    ·exact .inl g
    ·exact .inr (hin x (List.mem_append_left _ g)).2.2.2
   ·refine .inr ⟨?_, g1⟩
    rw [g2, gone, gone_zero _ t p ys (fun x hx => .inr (hin x (List.mem_append_left _ (g3 x hx))).2.2.2)]
    split
    ·omega
    ·split <;> omega
  have htag : 0 ≤ t ∧ t ≤ 9 := hok.1
  have hfl : flc (b ++ [⟨t, p, o, q⟩]) t = (0, 0, false, (b ++ [(⟨t, p, o, q⟩ : S31)]).filter (keepT t)) := by unfold flc; rw [if_pos ((cf_ok _).mpr hor), if_pos htag]
  have hout : fh ((b ++ [(⟨t, p, o, q⟩ : S31)]).filter (keepT t)) t p = (4, 0) := find_out (okC_sub hor List.filter_sublist) t p (fun x hx hk => by
   have := (List.mem_filter.mp hx).2
   unfold keepT flB at this
   rw [hk.1, beq_self_eq_true] at this
   exact absurd this (by decide))
  generalize b ++ [(⟨t, p, o, q⟩ : S31)] = r at *
  rw [ev]
  dsimp only
  rw [if_pos rfl, implFH _ r t p (by omega), Option.bind_some, implFlush _ r t (by omega), Option.bind_some, implCF _ r (by omega), Option.bind_some, if_pos ((cf_ok r).mpr hor), a1]
  dsimp only
  rw [if_pos rfl, if_pos (by omega), if_pos (by omega), a3, hfl]
  dsimp only
  rw [if_neg (by simp), if_pos rfl, implFH _ _ t p (by omega), Option.bind_some, hout]
  dsimp only
  rw [if_pos rfl, decide_eq_false (by omega)]
  simp only [laws_FnFills.j0]
  rw [if_neg (by decide)]
  exact hloop.trans hgone
 ·rw [if_neg c, f2, Option.bind_some, beq_self_eq_true]

end Go.Proofs.Ytoojkiihbpnfdaa.Pure
