/- Turns: parts of a whole turn in lowest terms; no program in sight. -/
import Derived.Test.YtkfcaldjepmffaaLibGcd
set_option linter.unusedVariables false
set_option linter.unusedSimpArgs false
namespace Go.Proofs.Ytkfcaldjepmffaa.Lib
open Go.RowKit Go.Proofs.YtkfcaldjepmffaaW.PrintWords Go.Proofs.YtkfcaldjepmffaaW.PrintMore
def turnN (n d : Int) : Int := lowN (n % d) d
def turnD (n d : Int) : Int := lowD (n % d) d
theorem turn_bd {n d : Int} (h : 1 ≤ d) : 0 ≤ turnN n d ∧ turnN n d < turnD n d ∧ turnD n d ≤ d ∧ Int.gcd (turnN n d) (turnD n d) = 1 := by
  have r0 := Int.emod_nonneg n (show d ≠ 0 by omega)
  have r1 := Int.emod_lt_of_pos n (show 0 < d by omega)
  have g := gcd_pos (a := n % d) (b := d) (by omega)
  have e1 := low_num (n % d) d
  have e2 := low_den (n % d) d
  have c := low_one (a := n % d) (b := d) (by omega)
  have b := low_bdD (n % d) d
  have p := low_posD (a := n % d) h
  refine ⟨?_, ?_, by unfold turnD; omega, c⟩
  · unfold turnN
    exact Int.ediv_nonneg r0 (by omega)
  · unfold turnN turnD
    have : lowN (n % d) d * (Int.gcd (n % d) d : Int) < lowD (n % d) d * (Int.gcd (n % d) d : Int) := by rw [e1, e2]; exact r1
    exact Int.lt_of_mul_lt_mul_right this (by omega)
def turnB (n d : Int) : Bool := decide (1 ≤ d ∧ d ≤ 1000000) && (decide (0 ≤ n ∧ n ≤ d - 1) && decide (Int.gcd n d = 1))
theorem turnB_of {n d : Int} (h : turnB n d = true) : 1 ≤ d ∧ d ≤ 1000000 ∧ 0 ≤ n ∧ n < d ∧ Int.gcd n d = 1 := by
  unfold turnB at h
  simp only [Bool.and_eq_true, decide_eq_true_eq] at h
  omega
theorem turnB_mk {n d : Int} (h1 : 1 ≤ d) (h2 : d ≤ 1000000) (h3 : 0 ≤ n) (h4 : n < d) (h5 : Int.gcd n d = 1) : turnB n d = true := by
  unfold turnB
  simp only [Bool.and_eq_true, decide_eq_true_eq]
  exact ⟨⟨h1, h2⟩, ⟨h3, by omega⟩, h5⟩
theorem turn_B {n d : Int} (h : 1 ≤ d) (h' : turnD n d ≤ 1000000) : turnB (turnN n d) (turnD n d) = true := by
  have b := turn_bd (n := n) h
  exact turnB_mk (by omega) h' b.1 b.2.1 b.2.2.2
end Go.Proofs.Ytkfcaldjepmffaa.Lib
