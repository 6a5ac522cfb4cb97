/- Loops that compare, fill, mark and look through rows: general lemmas, with no program in sight. -/
import Derived.Test.YtkfcaldjepmffaaLib
set_option linter.unusedVariables false
set_option linter.unusedSimpArgs false
namespace Go.Proofs.Ytkfcaldjepmffaa.Lib
open Go.RowKit Go.Proofs.YtkfcaldjepmffaaW.PrintWords

/-- A loop with a counter that goes up to n and tells r at its end. -/
theorem scan_gen {β : Type} {g : Int → Nat → Option β} {r : β} {n : Int} (h1 : ∀ i, 0 ≤ i → i < n → Ev (g (i + 1)) r → Ev (g i) r) (h2 : Ev (g n) r) (i : Int) (hi : 0 ≤ i) (hn : i ≤ n) : Ev (g i) r := by
  have go : ∀ d : Nat, ∀ i, 0 ≤ i → i ≤ n → n - i = d → Ev (g i) r := by
    intro d
    induction d with
    | zero =>
      intro i h0 h3 h4
      obtain rfl : i = n := by omega
      exact h2
    | succ d ih =>
      intro i h0 h3 h4
      exact h1 i h0 (by omega) (ih (i + 1) (by omega) (by omega) (by omega))
  exact go (n - i).toNat i hi hn (by omega)
/-- The values g i, g (i + 1), .., m of them. -/
def upTo {α : Type} (g : Int → α) (i : Int) : Nat → List α
  | 0 => []
  | m + 1 => g i :: upTo g (i + 1) m
theorem upTo_length {α : Type} (g : Int → α) : ∀ (m : Nat) (i : Int), (upTo g i m).length = m
  | 0, _ => rfl
  | m + 1, i => by simp [upTo, upTo_length g m]
theorem upTo_get {α : Type} (g : Int → α) (d : α) : ∀ (m : Nat) (i : Int) (j : Nat), j < m → (upTo g i m).getD j d = g (i + j)
  | 0, _, j, h => by omega
  | m + 1, i, 0, h => by simp [upTo]
  | m + 1, i, j + 1, h => by
    have := upTo_get g d m (i + 1) j (by omega)
    simp only [upTo, List.getD_cons_succ]
    rw [this]
    congr 1
    omega
theorem upTo_snoc {α : Type} (g : Int → α) : ∀ (m : Nat) (i : Int), upTo g i (m + 1) = upTo g i m ++ [g (i + m)]
  | 0, i => by simp [upTo]
  | m + 1, i => by
    rw [upTo, upTo_snoc g m (i + 1), upTo]
    simp only [List.cons_append]
    congr 3
    have : i + 1 + (m : Int) = i + ((m + 1 : Nat) : Int) := by omega
    rw [this]
end Go.Proofs.Ytkfcaldjepmffaa.Lib
