/- A slice of structs of two whole numbers that came in: what its cells hold. -/
import Derived.Deep.Slices
import Derived.Lib.SmallJoins
import Derived.ChangeSame
import Derived.ChangeArms
import Derived.RowKit3
import Derived.SliceStrings
set_option linter.unusedVariables false
namespace Go.Proofs.Ytcchbhcpmpgccaa.Lib
open Go.RowKit Go.Deep Go.ChangeShapes Go.Joins

theorem open_pairs {H : Type} {enc : TypeId × Value → H} {P : Program} {w : World} {base : Nat} {spare : Nat → Bool} {held : Bool} {t e : TypeId} {f0 f1 : Field} (ht : P.underlying t = some (.slice e)) (hs : P.underlying e = some (.struct #[f0, f1]))
    (hC : P.cellsOf e = 2) (o0 : f0.offset = 0) (o1 : f1.offset = 1) (hc0 : P.cellsOf f0.type = 1) (hc1 : P.cellsOf f1.type = 1) (h0 : P.underlying f0.type = some (.int .i64)) (h1 : P.underlying f1.type = some (.int .i64))
    {a : Option Addr} {len cap : Nat} {d : DataW H} {p : List MemPlace} (h : DataW.Trod enc P w base spare held t (.slice a len cap) d p) :
    ∃ zs : List (Int × Int), zs.length = len ∧ len ≤ cap ∧ cap ≤ maxLen ∧ (∀ q ∈ zs, (Lit.int .i64 q.1).wf = true ∧ (Lit.int .i64 q.2).wf = true) ∧
      (0 < len → ∃ ad, a = some ad ∧ ∀ j q, zs[j]? = some q → w.cell? (ad.add (j * 2)) = some (.int .i64 q.1) ∧ w.cell? (ad.add (j * 2 + 1)) = some (.int .i64 q.2)) := by
  obtain ⟨fuel, hf⟩ := h
  rcases open_slice ht hf with ⟨hcs, _⟩ | ⟨x, l, c, m, n, D, Pl, hcs, _, hl, hm, hmm, _, hel⟩
  · simp [Value.cells] at hcs
    obtain ⟨rfl, rfl, rfl⟩ := hcs
    exact ⟨[], rfl, Nat.le_refl _, by unfold maxLen; omega, by simp, fun h => by omega⟩
  · simp [Value.cells] at hcs
    obtain ⟨rfl, rfl, rfl⟩ := hcs
    have hlm : len ≤ m := by rw [hmm]; split <;> omega
    obtain ⟨V, hV⟩ := choose_lt (α := Int × Int) (n := len) (p := fun i q => ((Lit.int .i64 q.1).wf = true ∧ (Lit.int .i64 q.2).wf = true) ∧ w.cell? (x.add (i * 2)) = some (.int .i64 q.1) ∧ w.cell? (x.add (i * 2 + 1)) = some (.int .i64 q.2)) (fun i hi => by
      obtain ⟨cs', g1, g2⟩ := hel i (by omega)
      rw [hC] at g1
      obtain ⟨_, hlen, hc⟩ := World.cells?_some g1
      obtain ⟨y0, y1, k, _, _, s0, s1⟩ := trod_struct2 hs g2
      match cs', hlen with
      | [u0, u1], _ =>
        rw [o0, hc0] at s0
        rw [o1, hc1] at s1
        obtain ⟨a0, e0, _, w0⟩ := DataW.trod_int h0 s0
        obtain ⟨a1, e1, _, w1⟩ := DataW.trod_int h1 s1
        simp at e0 e1
        subst e0 e1
        have q0 := hc 0 (by omega)
        have q1 := hc 1 (by omega)
        have z0 : (x.add (i * 2)).add 0 = x.add (i * 2) := by simp [Addr.add]
        have z1 : (x.add (i * 2)).add 1 = x.add (i * 2 + 1) := by
          unfold Addr.add
          by_cases h : i * 2 = 0
          · simp [h]
          · simp [h, Nat.add_assoc]
        rw [z0] at q0
        rw [z1] at q1
        exact ⟨(a0, a1), ⟨w0, w1⟩, q0, q1⟩)
    refine ⟨(List.range len).map V, by simp, hl, hm, ?_, fun _ => ⟨x, rfl, ?_⟩⟩
    · intro q hq
      simp only [List.mem_map, List.mem_range] at hq
      obtain ⟨i, hi, rfl⟩ := hq
      exact (hV i hi).1
    · intro j q hj
      have hjl : j < len := by
        have := (List.getElem?_eq_some_iff.1 hj).1
        simpa using this
      have : q = V j := by
        simp [hjl] at hj
        exact hj.symm
      subst this
      exact (hV j hjl).2
theorem open_strs {H : Type} {enc : TypeId × Value → H} {P : Program} {w : World} {base : Nat} {spare : Nat → Bool} {held : Bool} {t e : TypeId} (ht : P.underlying t = some (.slice e)) (he : P.underlying e = some .string) (hC : P.cellsOf e = 1)
    {a : Option Addr} {len cap : Nat} {d : DataW H} {p : List MemPlace} (h : DataW.Trod enc P w base spare held t (.slice a len cap) d p) :
    ∃ l : List ByteArray, l.length = len ∧ len ≤ cap ∧ cap ≤ maxLen ∧ (∀ s ∈ l, s.size ≤ maxLen) ∧ (0 < len → ∃ ad, a = some ad ∧ ∀ j s, l[j]? = some s → w.cell? (ad.add j) = some (.string s)) := by
  obtain ⟨fuel, hf⟩ := h
  rcases open_strings ht he hC hf with ⟨hcs, _⟩ | ⟨x, l, c, ss, hcs, _, hl, hm, hz, _, hcell, hws⟩
  · simp [Value.cells] at hcs
    obtain ⟨rfl, rfl, rfl⟩ := hcs
    exact ⟨[], rfl, Nat.le_refl _, by unfold maxLen; omega, by simp, fun h => by omega⟩
  · simp [Value.cells] at hcs
    obtain ⟨rfl, rfl, rfl⟩ := hcs
    have hle : len ≤ ss.length := by rw [hz]; split <;> omega
    refine ⟨ss.take len, by simp; omega, hl, hm, fun s hs => hws s (List.mem_of_mem_take hs), fun _ => ⟨x, rfl, fun j s hj => ?_⟩⟩
    obtain ⟨hj1, hj2⟩ := List.getElem?_eq_some_iff.1 hj
    have hjl : j < ss.length := by simp at hj1; omega
    have := hcell j hjl
    rw [List.getD_eq_getElem?_getD, List.getElem?_eq_getElem hjl] at this
    have e : ss[j] = s := by rw [← hj2]; simp
    rw [this, ← e]
    rfl
end Go.Proofs.Ytcchbhcpmpgccaa.Lib
