/- Greatest common divisors, fractions in lowest terms, and the first pair of wheels with a ratio: no program in sight. -/
import Derived.Test.YtkfcaldjepmffaaLib
import Derived.Test.YtkfcaldjepmffaaWMore
set_option linter.unusedVariables false
set_option linter.unusedSimpArgs false
namespace Go.Proofs.Ytkfcaldjepmffaa.Lib
open Go.RowKit Go.Proofs.YtkfcaldjepmffaaW.PrintWords Go.Proofs.YtkfcaldjepmffaaW.PrintMore

theorem gcd_step (x y : Int) (h : y ≠ 0) : Int.gcd x y = Int.gcd y (Int.tmod x y) := by
  rw [Int.gcd_eq_natAbs_gcd_natAbs, Int.gcd_eq_natAbs_gcd_natAbs, Int.natAbs_tmod, Nat.gcd_comm x.natAbs, Nat.gcd_rec, Nat.gcd_comm]
theorem tmod_small (x y : Int) (h : y ≠ 0) : (Int.tmod x y).natAbs < y.natAbs := by
  rw [Int.natAbs_tmod]
  exact Nat.mod_lt _ (by omega)
theorem mx_abs {x : Int} (h : x.natAbs ≤ 4611686018427387904) : mx x (wrap64 (-x)) = x.natAbs := by
  rw [w64 (by omega) (by omega)]
  unfold mx
  split <;> omega
/-- The program's common divisor, of whole numbers of either sign. -/
theorem gcd_gen {l0 : Nat → Int → Int → Option Int} (h : ∀ k x y, l0 (k + 1) x y = if y = 0 then (some (mx x (wrap64 (-x)))) else (l0 k y (Int.tmod x y))) :
    ∀ (n : Nat) (x y : Int), x.natAbs ≤ 4611686018427387904 → y.natAbs ≤ 4611686018427387904 → y.natAbs ≤ n → Ev (fun k => l0 k x y) (Int.gcd x y : Int) := by
  intro n
  induction n with
  | zero =>
    intro x y hx hy hn
    have e : y = 0 := by omega
    refine ev_one fun k => ?_
    rw [h, if_pos e, mx_abs hx, e, Int.gcd_zero_right]
  | succ n ih =>
    intro x y hx hy hn
    by_cases e : y = 0
    · refine ev_one fun k => ?_
      rw [h, if_pos e, mx_abs hx, e, Int.gcd_zero_right]
    · have t := tmod_small x y e
      refine ev_succ ?_
      have g : (fun k => l0 (k + 1) x y) = fun k => l0 k y (Int.tmod x y) := by
        funext k
        rw [h, if_neg e]
      rw [g, gcd_step x y e]
      exact ih y _ hy (by omega) (by omega)
/-- The reference's common divisor, of whole numbers of at least 0. -/
theorem common_gen {l0 : Nat → Int → Int → Option Int} (h : ∀ k x y, l0 (k + 1) x y = if y > 0 then (if y = 0 then (none) else (l0 k y (Int.tmod x y))) else (some x)) :
    ∀ (n : Nat) (x y : Int), 0 ≤ x → 0 ≤ y → y.natAbs ≤ n → Ev (fun k => l0 k x y) (Int.gcd x y : Int) := by
  intro n
  induction n with
  | zero =>
    intro x y hx hy hn
    have e : y = 0 := by omega
    refine ev_one fun k => ?_
    rw [h, if_neg (by omega), e, Int.gcd_zero_right, Int.natAbs_of_nonneg hx]
  | succ n ih =>
    intro x y hx hy hn
    by_cases e : y = 0
    · refine ev_one fun k => ?_
      rw [h, if_neg (by omega), e, Int.gcd_zero_right, Int.natAbs_of_nonneg hx]
    · have t := tmod_small x y e
      have t0 := Int.tmod_nonneg y hx
      refine ev_succ ?_
      have g : (fun k => l0 (k + 1) x y) = fun k => l0 k y (Int.tmod x y) := by
        funext k
        rw [h, if_pos (by omega), if_neg e]
      rw [g, gcd_step x y e]
      exact ih y _ hy t0 (by omega)
theorem tdiv_bd (a g : Int) : (Int.tdiv a g).natAbs ≤ a.natAbs := Int.natAbs_tdiv_le_natAbs a g
theorem gcd_pos {a b : Int} (h : b ≠ 0) : 1 ≤ (Int.gcd a b : Int) := by
  have := Int.gcd_pos_of_ne_zero_right a h
  omega
theorem mul_bd {a b A B : Int} (ha : 0 ≤ a) (hA : a ≤ A) (hb : 0 ≤ b) (hB : b ≤ B) : 0 ≤ a * b ∧ a * b ≤ A * B :=
  ⟨Int.mul_nonneg ha hb, Int.mul_le_mul hA hB hb (by omega)⟩
theorem mul_pos1 {a b : Int} (ha : 1 ≤ a) (hb : 1 ≤ b) : 1 ≤ a * b := by
  have : 0 < a * b := Int.mul_pos (by omega) (by omega)
  omega
/-- In lowest terms. -/
def lowN (a b : Int) : Int := a / (Int.gcd a b : Int)
def lowD (a b : Int) : Int := b / (Int.gcd a b : Int)
theorem low_tdiv (a b : Int) : Int.tdiv a (Int.gcd a b : Int) = lowN a b := Int.tdiv_eq_ediv_of_dvd (Int.gcd_dvd_left a b)
theorem low_tdiv' (a b : Int) : Int.tdiv b (Int.gcd a b : Int) = lowD a b := Int.tdiv_eq_ediv_of_dvd (Int.gcd_dvd_right a b)
theorem low_num (a b : Int) : lowN a b * (Int.gcd a b : Int) = a := Int.ediv_mul_cancel (Int.gcd_dvd_left a b)
theorem low_den (a b : Int) : lowD a b * (Int.gcd a b : Int) = b := Int.ediv_mul_cancel (Int.gcd_dvd_right a b)
theorem low_one {a b : Int} (h : b ≠ 0) : Int.gcd (lowN a b) (lowD a b) = 1 := Int.gcd_ediv_gcd_ediv_gcd (Int.gcd_pos_of_ne_zero_right a h)
theorem low_bdN (a b : Int) : (lowN a b).natAbs ≤ a.natAbs := by
  rw [← low_tdiv]
  exact tdiv_bd _ _
theorem low_bdD (a b : Int) : (lowD a b).natAbs ≤ b.natAbs := by
  rw [← low_tdiv']
  exact tdiv_bd _ _
theorem low_posD {a b : Int} (h : 1 ≤ b) : 1 ≤ lowD a b := by
  have g := gcd_pos (a := a) (b := b) (by omega)
  have e := low_den a b
  rcases Int.lt_or_le 0 (lowD a b) with c | c
  · omega
  · have : lowD a b * (Int.gcd a b : Int) ≤ 0 := Int.mul_nonpos_of_nonpos_of_nonneg c (by omega)
    omega
theorem low_scale {x y g : Int} (hg : 1 ≤ g) : lowN (x * g) (y * g) = lowN x y ∧ lowD (x * g) (y * g) = lowD x y := by
  have e : (Int.gcd (x * g) (y * g) : Int) = (Int.gcd x y : Int) * g := by
    rw [Int.gcd_mul_right, Int.natCast_mul, Int.natAbs_of_nonneg (by omega)]
  unfold lowN lowD
  rw [e]
  exact ⟨Int.mul_ediv_mul_of_pos_left _ _ (by omega), Int.mul_ediv_mul_of_pos_left _ _ (by omega)⟩
/-- A loop with a counter from i0 on that goes up to n and tells r there. -/
theorem scan_from {β : Type} {g : Int → Nat → Option β} {r : β} {n i0 : Int} (h1 : ∀ i, i0 ≤ i → i < n → Ev (g (i + 1)) r → Ev (g i) r) (h2 : Ev (g n) r) (hn : i0 ≤ n) : Ev (g i0) r := by
  have go : ∀ d : Nat, ∀ i, i0 ≤ i → i ≤ n → n - i = d → Ev (g i) r := by
    intro d
    induction d with
    | zero =>
      intro i h0 h3 h4
      obtain rfl : i = n := by omega
      exact h2
    | succ d ih =>
      intro i h0 h3 h4
      exact h1 i h0 (by omega) (ih (i + 1) (by omega) (by omega) (by omega))
  exact go (n - i0).toNat i0 (by omega) hn (by omega)
/-! ### the first pair with a ratio -/
end Go.Proofs.Ytkfcaldjepmffaa.Lib
