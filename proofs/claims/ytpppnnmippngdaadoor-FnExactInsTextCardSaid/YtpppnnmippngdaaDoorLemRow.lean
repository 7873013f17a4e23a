/- A slice of structs whose fields are all int64, read out of an argument: its numbers, element by element. No condition beyond what the theorem's text names. -/
import Derived.Deep.Slices
import Derived.Deep.Fields
import Derived.ChangeSame
import Derived.ProofKit
namespace Go.Proofs.YtpppnnmippngdaaDoor.LemRow
open Go.ChangeShapes Go.WideShapes Go.Deep Go.RowKit
section
variable {H : Type} {enc : TypeId × Value → H} {P : Program} {w : World} {base : Nat} {spare : Nat → Bool} {held : Bool}
theorem open_slice_fields {t e : TypeId} {fs : Array Field} {fuel : Nat} {cs : List Value} {x : DataW H × List MemPlace} (ht : P.underlying t = some (.slice e)) (he : P.underlying e = some (.struct fs))
    (hone : oneCellFields P fs = true) (hC : P.cellsOf e = fs.size) (h : DataW.trod enc P w base spare held fuel t cs = some x) :
    cs = [.slice none 0 0] ∨
    ∃ (a : Addr) (len cap m : Nat), cs = [.slice (some a) len cap] ∧ len ≤ cap ∧ cap ≤ maxLen ∧ m = (if spare a.block then cap else len) ∧
      ∀ i, i < m → ∃ (n : Nat), ∀ (j : Nat) (f : Field), fs[j]? = some f → ∃ (v : Value) (y : DataW H × List MemPlace), w.cell? (a.add (i * fs.size + j)) = some v ∧ DataW.trod enc P w base spare held n f.type [v] = some y := by
  rcases open_slice ht h with h0 | ⟨a, len, cap, m, n, D, Pl, hcs, hb, hl, hm, hmm, hx, hi⟩
  · exact .inl h0.1
  · refine .inr ⟨a, len, cap, m, hcs, hl, hm, hmm, fun i him => ?_⟩
    obtain ⟨cs', hc, ht'⟩ := hi i him
    rw [hC] at hc
    obtain ⟨ys, n', hn', hy, hlen, hyl, hf⟩ := DataW.trod_struct he ht'
    obtain ⟨_, hcl, hat⟩ := World.cells?_some hc
    refine ⟨n', fun j f hj => ?_⟩
    obtain ⟨ho, hk⟩ := hone_of hone j f hj
    have hjl : j < fs.size := (Array.getElem?_eq_some_iff.1 hj).1
    have hcell := hat j hjl
    have hv : cs'[j]? = some (cs'[j]'(by omega)) := List.getElem?_eq_getElem (by omega)
    have h1 := hf j f hj
    rw [ho, hk] at h1
    have hone' : (cs'.drop j).take 1 = [cs'[j]'(by omega)] := by
      rw [List.drop_eq_getElem_cons (by omega)]
      rfl
    rw [hone'] at h1
    have hys : ys[j]? = some (ys[j]'(by omega)) := List.getElem?_eq_getElem (by omega)
    refine ⟨_, _, ?_, h1.trans hys⟩
    rw [← Go.Deep.add_add, hcell, hv]

theorem pick {α : Type} (n : Nat) (Q : Nat → α → Prop) (h : ∀ i, i < n → ∃ x, Q i x) : ∃ xs : List α, xs.length = n ∧ ∀ i x, xs[i]? = some x → Q i x := by
  induction n with
  | zero => exact ⟨[], rfl, fun i x hx => by simp at hx⟩
  | succ n ih =>
    obtain ⟨xs, hl, hx⟩ := ih (fun i hi => h i (by omega))
    obtain ⟨y, hy⟩ := h n (by omega)
    refine ⟨xs ++ [y], by simp [hl], fun i x hix => ?_⟩
    rcases Nat.lt_or_ge i n with hi | hi
    · rw [List.getElem?_append_left (by omega)] at hix
      exact hx i x hix
    · have hlt := (List.getElem?_eq_some_iff.1 hix).1
      rw [List.length_append, List.length_singleton] at hlt
      obtain rfl : i = n := by omega
      rw [List.getElem?_append_right (by omega), hl, Nat.sub_self] at hix
      obtain rfl : y = x := by simpa using hix
      exact hy

theorem row_ints {t e : TypeId} {fs : Array Field} {nf : Nat} {A : Option Addr} {len cap : Nat} {d : DataW H} {p : List MemPlace} (ht : P.underlying t = some (.slice e)) (he : P.underlying e = some (.struct fs))
    (hone : oneCellFields P fs = true) (hC : P.cellsOf e = nf) (hn : fs.size = nf)
    (hf : ∀ (j : Nat) (f : Field), ((P.underlying e).bind (fun d => match d with | .struct fs => some fs | _ => none)).bind (fun fs => fs[j]?) = some f → P.underlying f.type = some (.int .i64))
    (h : DataW.Trod enc P w base (fun _ => true) held t (.slice A len cap) d p) :
    ∃ zs : List (List Int), zs.length = len ∧ len ≤ cap ∧ cap ≤ maxLen ∧ (0 < len → ∃ a, A = some a ∧ ∀ j z, zs[j]? = some z → z.length = nf ∧ ∀ q b, z[q]? = some b → w.cell? (a.add (j * nf + q)) = some (.int .i64 b) ∧ (Lit.int .i64 b).wf = true) := by
  subst hn
  obtain ⟨fuel, hr⟩ := h
  rcases open_slice_fields ht he hone hC hr with h0 | ⟨a, l, c, m, hcs, hl, hc, hm, hi⟩
  · simp [Value.cells] at h0
    obtain ⟨rfl, rfl, rfl⟩ := h0
    exact ⟨[], rfl, Nat.le_refl _, by unfold maxLen; omega, fun h => by omega⟩
  · simp [Value.cells] at hcs
    obtain ⟨rfl, rfl, rfl⟩ := hcs
    have hm' : m = cap := by simpa using hm
    have one : ∀ i, i < len → ∃ z : List Int, z.length = fs.size ∧ ∀ q b, z[q]? = some b → w.cell? (a.add (i * fs.size + q)) = some (.int .i64 b) ∧ (Lit.int .i64 b).wf = true := fun i hil => by
      obtain ⟨n, hj⟩ := hi i (by omega)
      refine pick fs.size (fun q b => w.cell? (a.add (i * fs.size + q)) = some (.int .i64 b) ∧ (Lit.int .i64 b).wf = true) (fun q hq => ?_)
      obtain ⟨v, y, hcell, hy⟩ := hj q fs[q] (Array.getElem?_eq_getElem hq)
      have hu := hf q fs[q] (by rw [he]; exact Array.getElem?_eq_getElem hq)
      obtain ⟨b, e0, _, hw⟩ := DataW.trod_int hu hy
      obtain rfl : v = .int .i64 b := by simpa using e0
      exact ⟨b, hcell, hw⟩
    obtain ⟨zs, hzl, hz⟩ := pick len _ one
    exact ⟨zs, hzl, hl, hc, fun _ => ⟨a, rfl, fun j z hjz => hz j z hjz⟩⟩
end
theorem len_2 {z : List Int} (h : z.length = 2) : ∃ a b, z = [a, b] := by
  match z, h with
  | [a, b], _ => exact ⟨a, b, rfl⟩
theorem len_4 {z : List Int} (h : z.length = 4) : ∃ a b c d, z = [a, b, c, d] := by
  match z, h with
  | [a, b, c, d], _ => exact ⟨a, b, c, d, rfl⟩
end Go.Proofs.YtpppnnmippngdaaDoor.LemRow
